/- ItemInForce, one part of the proof. -/
import Derived.KernelRfl
import Derived.Calls
import Derived.Below
import Derived.BigQuiet
import Derived.Deep.AppendLies
import Derived.Deep.CutBlock
import Derived.Deep.DeepCutAuto
import Derived.Deep.MidRow
import Derived.Deep.QuietTactic
import Derived.Deep.RegionHeld3
import Derived.Deep.RegionLaw
import Derived.Deep.Upon
import Derived.Defers
import Derived.Laws.IdiomStrings
import Derived.Laws.OwnMore
import Derived.Laws.Pointers
import Derived.Lib.Hide
import Derived.Lib.IndexBytes
import Derived.Lib.ItoaNum
import Derived.Lib.Join
import Derived.Lib.SlBytesRow
import Derived.Lib.SmallJoins
import Derived.LoopIn
import Derived.LoopNIn
import Derived.OneCell
import Derived.OwnWalkIn
import Derived.RangeFuncBox
import Derived.RangeFuncLeaves
import Derived.RangeFuncWrites
import Derived.Recover
import Derived.StillTailTactics
import Derived.TacticsInMore
import Derived.WalkKit
import Derived.WalkLawsBesides
import Derived.WalkSpells
import Derived.Laws.Sem
import Derived.IntWalk
import Derived.Laws.StructEq
import Derived.Laws.BytesString
import Derived.Lib.UnsafeStr
import Derived.Lib.Bytealg
import Derived.Lib.MakeNoZero
import Derived.Laws.Rows
import Derived.Laws.AppendOwn
import Derived.Laws.IdiomCopy
import Derived.Deep.AppendSrc
import Derived.Shelf.LaySoft
import Derived.Shelf.Strings.Builder1
import Derived.Shelf.Strings.OnBuilder
import Derived.Shelf.Strings.BuilderK
import Derived.Shelf.Strings.Count
import Derived.Shelf.Strconv.Itoa0
import Derived.Shelf.Strconv.Itoa1
import Derived.Shelf.LaysM
import Derived.Shelf.Strconv.Itoa2
import Derived.Shelf.Strconv.Itoa3
import Derived.Shelf.Abstract
import Derived.Maps.AppendAt
import Derived.Shelf.SortM.Plain
import Derived.Shelf.SortM.SortNone
import Derived.Ground.SlgmProg
import Derived.Sort.OwnSortedInts
import Derived.Maps.OwnSet
import Derived.Maps.Views
import Derived.Maps.OwnOps
import Derived.Lib.AppendIntMem
import Derived.Test.YtdhifebhlocikaaGreatDoorProg
set_option linter.all false
set_option maxRecDepth 100000
set_option maxHeartbeats 16000000
namespace Go
instance:CoeOut World Nat:=⟨fun w=>w.heap.size⟩
instance{α:Type _}:CoeOut (List α) Nat:=⟨List.length⟩
instance:CoeOut Nat Value:=⟨fun n=>.int .i64 n⟩
instance:CoeOut Int Value:=⟨fun n=>.int .i64 n⟩
instance:CoeOut ByteArray Value:=⟨.string⟩
end Go
namespace Go
instance:CoeFun World fun _=>Addr->Option Value:=⟨World.cell?⟩
abbrev Γ:=World
abbrev Φ:=Value
abbrev Ψ:=ByteArray
abbrev Θ:=Option Addr
abbrev Ξ(w:World):Nat:=w.heap.size
abbrev Ω:=Array Value
abbrev Δ:=List Nat
abbrev υ:=List Value
instance:CoeOut Bool Value:=⟨.bool⟩
end Go
namespace Go
open Proofs RowKit Lib
abbrev β(w w':World):Prop:=Below w.heap.size w w'
abbrev χ(n:FuncId)(a:Array Value)(w:World)(R:Ending->World->Prop):Prop:=Calls Proofs.Tryz.prog n a w fun e w'=>R e w'/\β w w'
end Go
namespace Go
open Go.Proofs.Tryz Go.RowKit
def A:=@Go.Lib.hid
def aY:=@Nat.le_refl
def bl:=@Go.RowKit.Below.refl
def bo:=@if_neg
def ci:=@if_pos
def cx:=@Option.some.injEq
def c6:=@Nat.le_trans
def dh:=@Nat.zero_le
def dW:=@Bool.and_eq_true
def eY:=@Go.Result.andThen_ok
def eZ:=@cond_true
def e7:=@Go.Sem.run_bind
def fp:=@List.getElem_mem
def fI:=@Go.Sem.run_pure
def gd:=@Go.bodyPost_ret
def gm:=@Option.some.inj
def gy:=@Nat.zero_add
def gJ:=@List.mem_cons
def gK:=@Nat.eq_of_beq_eq_true
def gL:=@trivial
def hl:=@Array.getElem?_eq_some_iff
def ht:=@Go.RowKit.Below.heap_setCell
def hY:=@Nat.add_zero
def hZ:=@Nat.le_of_ble_eq_true
def h':=@Go.Joins.block_setCell
def iq:=@List.all_eq_true
def ir:=@List.length_append
def it:=@Ne.symm
def iz:=@Go.info_parts
def iV:=@Array.length_toList
def iW:=@Option.map_eq_some_iff
def iX:=@Prod.mk.injEq
def iY:=@congrArg
def i4:=@Nat.lt_of_lt_of_le
def jw:=@List.mem_cons_of_mem
def jL:=@cond_false
def j_:=@List.getElem?_eq_getElem
def kx:=@List.mem_append
def kL:=@List.getElem?_eq_some_iff
def k2:=@Go.Proofs.Tryz.underlying44
def k3:=@List.not_mem_nil
def k4:=@Nat.add_assoc
def k5:=@Nat.pow_le_pow_right
def lP:=@Go.wpList_append_own
def l8:=@List.length_cons
def mv:=@Go.step_lone_go
def mw:=@List.length_take
def mx:=@beq_eq_false_iff_ne
def ne:=@Go.World.ownsRow_nil
def nN:=@Go.World.cell?_of_block
def ou:=@List.getElem?_map
def ov:=@Option.map_some
def oQ:=@List.mem_singleton
def oR:=@if_true
def pj:=@Go.Proofs.Tryz.underlying22
def pk:=@List.getElem?_take
def pm:=@List.length_drop
def pU:=@Go.IntWalk.i64_in
def pV:=@Go.below_drewN
def pW:=@Go.heap_alloc_new
def pX:=@Go.rounds_succ
def pY:=@List.length_set
def pZ:=@if_false
def qr:=@Go.wpAnyH_take
def qs:=@List.cons.injEq
def qt:=@List.getD_eq_getElem?_getD
def qu:=@List.map_cons
def re:=@Bool.false_eq_true
def rf:=@List.append_nil
def rh:=@List.getElem?_eq_none
def ri:=@List.mem_cons_self
def rj:=@Nat.le_succ
def rk:=@Nat.lt_of_le_of_lt
def rm:=@Nat.mul_le_mul_right
def r5:=@Go.World.news_of_block
def r6:=@List.take_succ_eq_append_getElem
def sK:=@Go.Proofs.Tryz.underlying131
def sL:=@List.take_length
def sM:=@Nat.ne_of_lt
def tT:=@Go.Steps.trans
def tU:=@Go.wpStill_nil
def tV:=@List.length_nil
def tW:=@Nat.add_comm
def tX:=@Nat.mul_one
def vc:=@Array.getElem?_toList
def vd:=@Go.Proofs.Tryz.underlying3
def ve:=@Go.World.cell?_setCell_far
def vf:=@List.nil_append
def vg:=@List.take_of_length_le
def vh:=@Nat.zero_mul
def wt:=@Go.wp_region_still_lit
def wu:=@Nat.not_lt_zero
def xG:=@Array.ext'
def xH:=@Go.Proofs.Tryz.underlying5
def xI:=@List.getElem_append_left
def xJ:=@List.getElem_append_right
def xK:=@List.mem_range
def xL:=@List.take_append_drop
def xM:=@Nat.add_mul
def xN:=@Nat.lt_or_ge
def xO:=@or_false
def yM:=@Go.Proofs.Tryz.underlying31
def yN:=@List.flatMap_cons
def yO:=@List.map_append
def yP:=@Nat.mod_lt
def yQ:=@Nat.mul_le_mul
def yR:=@Nat.pow_succ
def AB:=@Array.getElem?_setIfInBounds
def AC:=@Array.getElem?_setIfInBounds_ne
def AD:=@Go.Addr.add_lit
def AE:=@Go.ByteArray.toList_eq
def AF:=@Go.wp_loop_rounds
def AG:=@List.getElem_cons_zero
def AH:=@List.length_singleton
def AI:=@List.mem_iff_getElem
def AJ:=@List.mem_map
def AK:=@Nat.le_of_lt
def AL:=@Nat.mod_eq_of_lt
def AM:=@and_true
def CH:=@Go.AllReadyH.cons
def CI:=@Go.Proofs.Tryz.underlying47
def CJ:=@Go.RowKit.Below.heap_alloc
def CK:=@Go.wp_region_held_drew
def CL:=@List.eq_nil_of_length_eq_zero
def CM:=@List.getElem?_append_left
def CN:=@List.length_eq_zero_iff
def CO:=@List.mem_of_getElem?
def CP:=@Nat.succ_pos
def CQ:=@Option.bind_some
def EK:=@Go.Value.slice.injEq
def EL:=@Go.run_program
def EM:=@Go.wpAnyH_done
def EN:=@Int.natCast_mul
def EO:=@Int.ofNat_eq_natCast
def EP:=@List.getElem?_append_right
def EQ:=@List.getElem_of_mem
def ER:=@List.map_nil
def ES:=@List.mem_iff_getElem?
def ET:=@Nat.lt_succ_of_le
def EU:=@Nat.lt_succ_self
def EV:=@Nat.mul_add
def EW:=@Nat.mul_assoc
def EX:=@true_and
def HQ:=@Go.Proofs.Tryz.func29
def HR:=@Go.Proofs.Tryz.func415
def HS:=@Go.Proofs.Tryz.func66
def HT:=@Go.Proofs.Tryz.ntmps415
def HU:=@Go.Proofs.Tryz.underlying23
def HV:=@Go.Proofs.Tryz.underlying42
def HW:=@Go.Sem.runT_eq
def HX:=@Go.Value.int.injEq
def HY:=@Go.Value.string.injEq
def HZ:=@List.append_assoc
def H0:=@List.drop_eq_getElem_cons
def H1:=@List.flatMap_append
def H2:=@List.getElem_cons_succ
def H3:=@List.getElem_set
def H4:=@List.getElem_set_self
def H5:=@List.map_map
def H6:=@List.mem_filter
def H7:=@Nat.div_le_self
def H8:=@Nat.le_add_right
def H9:=@Nat.mul_comm
def H_:=@Nat.pow_pos
def KY:=@ByteArray.ext
def KZ:=@ByteArray.size_append
def K0:=@Go.Proofs.Tryz.func483
def K1:=@Go.Proofs.Tryz.ntmps29
def K2:=@Go.Proofs.Tryz.ntmps483
def K3:=@Go.Proofs.Tryz.ntmps66
def K4:=@Go.Proofs.Tryz.underlying106
def K5:=@Go.Proofs.Tryz.underlying34
def K6:=@Go.Proofs.Tryz.underlying9
def K7:=@Go.World.ownsRow_lit
def K8:=@Go.step_append_lies
def K9:=@Int.tdiv_eq_ediv_of_nonneg
def K_:=@List.any_eq_true
def K':=@List.drop_eq_nil_of_le
def La:=@List.drop_zero
def Lb:=@List.ext_getElem?
def Lc:=@List.foldl_cons
def Ld:=@List.getElem?_drop
def Le:=@List.mem_flatMap
def Lf:=@List.mem_of_mem_take
def Lg:=@List.pairwise_cons
def Lh:=@List.pairwise_iff_getElem
def Li:=@List.range_succ
def Lj:=@Nat.beq_refl
def Lk:=@Nat.ble_eq
def Ll:=@Nat.lt_succ_iff_lt_or_eq
def Lm:=@Nat.lt_trans
def Ln:=@Option.getD_some
def QY:=@Array.ext_getElem?
def QZ:=@Array.getElem?_push
def Q0:=@Bool.not_false
def Q1:=@Bool.or_eq_false_iff
def Q2:=@Bool.or_eq_true
def Q3:=@Go.AllReadyH.nil
def Q4:=@Go.IntWalk.wrap64_in
def Q5:=@Go.Maps.keyOf_int_mk
def Q6:=@Go.Proofs.Tryz.func121
def Q7:=@Go.Proofs.Tryz.func214
def Q8:=@Go.Proofs.Tryz.func278
def Q9:=@Go.Proofs.Tryz.func403
def Q_:=@Go.Proofs.Tryz.func566
def Q':=@Go.Proofs.Tryz.ntmps566
def Ra:=@Go.Proofs.Tryz.underlying65
def Rb:=@Go.RowKit.Below.alloc
def Rc:=@Go.run_convert_bytes_arg
def Re:=@Go.strOfNums_size
def Rf:=@Go.wpAnyH_ready
def Rg:=@Int.toNat_natCast
def Rh:=@List.flatMap_nil
def Ri:=@List.getElem_drop
def Rj:=@List.getElem_set_ne
def Rk:=@List.getElem_singleton
def Rl:=@List.map_toArray
def Rm:=@List.mem_nil_iff
def Rn:=@Nat.add_sub_cancel
def Ro:=@Nat.eq_zero_or_pos
def Rp:=@Nat.lt_irrefl
def Rq:=@Nat.lt_trichotomy
def Rr:=@Nat.one_mul
def Rs:=@UInt8.toNat_lt
def Rt:=@of_decide_eq_true
def VN:=@UInt8.toNat_ofNat'
def VO:=@Array.getElem?_eq_getElem
def VP:=@Array.getElem?_eq_none
def VQ:=@Array.getElem?_modify
def VR:=@Array.getElem_setIfInBounds
def VS:=@Bool.eq_false_or_eq_true
def VT:=@Function.comp_def
def VU:=@Go.Proofs.Tryz.func123
def VV:=@Go.Proofs.Tryz.func145
def VW:=@Go.Proofs.Tryz.func199
def VX:=@Go.Proofs.Tryz.func211
def VY:=@Go.Proofs.Tryz.func481
def VZ:=@Go.Proofs.Tryz.func482
def V0:=@Go.Proofs.Tryz.func54
def V1:=@Go.Proofs.Tryz.ntmps121
def V2:=@Go.Proofs.Tryz.ntmps214
def V3:=@Go.Proofs.Tryz.ntmps278
def V4:=@Go.Proofs.Tryz.ntmps403
def V5:=@Go.Proofs.Tryz.ntmps481
def V6:=@Go.Proofs.Tryz.ntmps482
def V7:=@Go.Proofs.Tryz.results131
def V8:=@Go.World.block_lt_of_cell?
def V9:=@Go.World.cell?_setCell_other
def V_:=@Go.run_convert_bytes_nil
def V':=@Go.strOfNums_data
def Wa:=@Go.wpList_append_lies
def Wb:=@Go.wpList_plain
def Wc:=@Int.tmod_lt_of_pos
def Wd:=@List.cons_append
def We:=@List.drop_succ_cons
def Wf:=@List.getElem?_toArray
def Wg:=@List.getElem_take
def Wh:=@List.length_map
def Wi:=@List.map_take
def Wj:=@List.mem_zipIdx_iff_getElem?
def Wk:=@Nat.ble_eq_true_of_le
def Wl:=@Nat.min_eq_left
def Wm:=@Nat.pos_of_ne_zero
def Wn:=@Nat.succ_lt_succ
def Wo:=@UInt8.toNat_inj
def Wp:=@decide_eq_decide
def Wq:=@decide_eq_false
def ae':=@Go.grownBy_putObj'
def afa:=@List.range'_1_concat
def afb:=@List.range_eq_range'
def afc:=@UInt8.toNat_ofNat_of_lt'
def afd:=@Array.mapM_eq_mapM_toList
def afe:=@Array.toList_inj
def aff:=@Bool.not_true
def afg:=@Go.Lib.decDigits_length
def afh:=@Go.Lib.extract_to_end
def afi:=@Go.Lib.nDigits_small
def afj:=@Go.Proofs.Tryz.results566
def afk:=@Go.Proofs.Tryz.underlying27
def afl:=@Go.Sem.run_map
def afm:=@Go.WalkArith.wf_i64
def afn:=@Go.World.cell?_setCell_same
def afo:=@Go.World.cell?_setCells_out
def afp:=@Go.World.ownsRow.alloc
def afq:=@Go.results_cell_row
def afr:=@Go.run_underlying
def afs:=@Go.wpList_load_mid
def aft:=@Go.wpList_store_mid
def afu:=@Int.lt_tmod_of_pos
def afv:=@Int.natCast_add
def afw:=@List.filter_cons
def afx:=@List.flatten_append
def afy:=@List.foldl_append
def afz:=@List.getElem?_range
def afA:=@List.length_range
def afB:=@List.mapM_cons
def afC:=@List.map_singleton
def afD:=@List.mem_append_left
def afE:=@List.mem_append_right
def afF:=@List.mem_of_mem_drop
def afG:=@List.size_toArray
def afH:=@Nat.lt_of_not_le
def afI:=@Nat.mul_div_cancel
def afJ:=@Nat.pow_add
def afK:=@Nat.sub_le
def afL:=@Nat.sub_self
def afM:=@Nat.sub_zero
def afN:=@Nat.succ_mul
def afO:=@Option.isSome_none
def afP:=@Option.isSome_some
def afQ:=@Option.map_none
def afR:=@not_true_eq_false
def afS:=@of_decide_eq_false
def as8:=@Array.all_eq_true'
def as9:=@List.mem_range'_1
def as_:=@Array.foldl_toList
def as':=@Array.getD_eq_getD_getElem?
def ata:=@Array.getElem?_append_left
def atb:=@Array.toArray_toList
def atc:=@Bool.or_eq_true_iff
def atd:=@ByteArray.data_extract
def ate:=@Go.Lib.run_eql_slice_nil
def atf:=@Go.World.frozen?_setCells
def atg:=@Go.World.heap_setCells_other
def ath:=@Go.run_convert_bytes_string
def ati:=@Go.wpList_lookup_own_ok_int
def atj:=@Go.wpList_mapUpdate_own
def atk:=@Int.toNat_of_nonneg
def atl:=@List.contains_iff_mem
def atm:=@List.dropLast_concat_getLast
def atn:=@List.drop_of_length_le
def ato:=@List.filter_eq_nil_iff
def atp:=@List.flatMap_eq_nil_iff
def atq:=@List.flatten_cons
def atr:=@List.getElem?_set_self
def ats:=@List.getElem_eraseIdx
def att:=@List.length_eraseIdx
def atu:=@List.length_mergeSort
def atv:=@List.map_congr_left
def atw:=@List.mem_or_eq_of_mem_set
def atx:=@List.mergeSort_perm
def aty:=@List.pairwise_append
def atz:=@List.singleton_append
def atA:=@List.singleton_inj
def atB:=@List.take_succ_cons
def atC:=@List.zip_cons_cons
def atD:=@Nat.div_le_div_right
def atE:=@Nat.le_div_iff_mul_le
def atF:=@Nat.le_mul_of_pos_right
def atG:=@Option.isSome_iff_exists
theorem z{p:Prop}(h:p:=by omega):p:=h
theorem al{p:Prop}(h:p:=by decide):p:=h
theorem aq{p:Prop}(h:p:=by simp):p:=h
theorem bw{p:Prop}(h:p:=by simp;omega):p:=h
theorem dV{p:Prop}(h:p:=by rw [AE]; decide):p:=h
theorem aw{p:Prop}(h:p:=by kernel_rfl):p:=h
theorem bz{p:Prop}(h:p:=by first|rfl|omega|(refine congrArg _ ?_;omega)|(simp;omega)):p:=h
theorem aA{B:Nat}{w w':World}(bg:Below B w w'){b o:Nat}(G:b<B){x:Option Value}(h:w.cell? ⟨b,o,none⟩=x):w'.cell? ⟨b,o,none⟩=x:=(bg.cell (p:=⟨b,o,none⟩) G).trans h
theorem rR{B:Nat}{w w':World}(bg:Below B w w'){b o:Nat}(G:b<B){x:Bool}(h:w.frozen? ⟨b,o,none⟩=x):w'.frozen? ⟨b,o,none⟩=x:=(bg.frozen (p:=⟨b,o,none⟩) G).trans h
theorem aN(i:Nat){w:World}{b:Nat}{cs:Array Value}{t:TypeId}{v:Value}(h:w.heap[b]? =some (.cells cs t (0,0)))(J:cs[i]? =some v:=by exact rfl):w.cell? ⟨b,i,none⟩=some v:=by simp[World.cell?,h,J]
theorem kt(i:Nat){w:World}{b:Nat}{cs:Array Value}{t:TypeId}(h:w.heap[b]? =some (.cells cs t (0,0))):w.frozen? ⟨b,i,none⟩=false:=by simp[World.frozen?,h]
theorem fu(w:World)(o:Obj):Below w.heap.size w (w.alloc o):=(bl _ _).alloc (aY _) o
theorem lk(w:World):Below w.heap.size w w.drew:=(bl _ _).drew
theorem b3{w am ap:World}(h:Below w.heap.size w am)(k:Below am.heap.size am ap):Below w.heap.size w ap:=h.trans (k.mono h.size)
theorem cT{B b:Nat}{w w':World}(k:Below B w w')(h:b<w.heap.size):b<w'.heap.size:=i4 h k.size

theorem BN{w:World}{b n:Nat}{v0 el eq v3 v4 v5 hh nM mS v9 tO tP tQ xx xy xz:Value}{l:List Value}(h:∀i,i<16→w.cell? ⟨b,n+i,none⟩=(v0::el::eq::v3::v4::v5::hh::nM::mS::v9::tO::tP::tQ::xx::xy::xz::l).toArray[i]?):w.cell? ⟨b,n,none⟩=some v0∧w.cell? ⟨b,n+1,none⟩=some el∧w.cell? ⟨b,n+2,none⟩=some eq∧w.cell? ⟨b,n+3,none⟩=some v3∧w.cell? ⟨b,n+4,none⟩=some v4∧w.cell? ⟨b,n+5,none⟩=some v5∧w.cell? ⟨b,n+6,none⟩=some hh∧w.cell? ⟨b,n+7,none⟩=some nM∧w.cell? ⟨b,n+8,none⟩=some mS∧w.cell? ⟨b,n+9,none⟩=some v9∧w.cell? ⟨b,n+10,none⟩=some tO∧w.cell? ⟨b,n+11,none⟩=some tP∧w.cell? ⟨b,n+12,none⟩=some tQ∧w.cell? ⟨b,n+13,none⟩=some xx∧w.cell? ⟨b,n+14,none⟩=some xy∧w.cell? ⟨b,n+15,none⟩=some xz:=⟨h 0 (by decide),h 1 (by decide),h 2 (by decide),h 3 (by decide),h 4 (by decide),h 5 (by decide),h 6 (by decide),h 7 (by decide),h 8 (by decide),h 9 (by decide),h 10 (by decide),h 11 (by decide),h 12 (by decide),h 13 (by decide),h 14 (by decide),h 15 (by decide)⟩
theorem anm{B:Nat}{w w':World}(bg:Below B w w'){b n:Nat}(G:b<B){v0 el eq v3 v4 v5 hh nM mS v9 tO tP tQ xx xy xz:Value}(h:w.cell? ⟨b,n,none⟩=some v0∧w.cell? ⟨b,n+1,none⟩=some el∧w.cell? ⟨b,n+2,none⟩=some eq∧w.cell? ⟨b,n+3,none⟩=some v3∧w.cell? ⟨b,n+4,none⟩=some v4∧w.cell? ⟨b,n+5,none⟩=some v5∧w.cell? ⟨b,n+6,none⟩=some hh∧w.cell? ⟨b,n+7,none⟩=some nM∧w.cell? ⟨b,n+8,none⟩=some mS∧w.cell? ⟨b,n+9,none⟩=some v9∧w.cell? ⟨b,n+10,none⟩=some tO∧w.cell? ⟨b,n+11,none⟩=some tP∧w.cell? ⟨b,n+12,none⟩=some tQ∧w.cell? ⟨b,n+13,none⟩=some xx∧w.cell? ⟨b,n+14,none⟩=some xy∧w.cell? ⟨b,n+15,none⟩=some xz):w'.cell? ⟨b,n,none⟩=some v0∧w'.cell? ⟨b,n+1,none⟩=some el∧w'.cell? ⟨b,n+2,none⟩=some eq∧w'.cell? ⟨b,n+3,none⟩=some v3∧w'.cell? ⟨b,n+4,none⟩=some v4∧w'.cell? ⟨b,n+5,none⟩=some v5∧w'.cell? ⟨b,n+6,none⟩=some hh∧w'.cell? ⟨b,n+7,none⟩=some nM∧w'.cell? ⟨b,n+8,none⟩=some mS∧w'.cell? ⟨b,n+9,none⟩=some v9∧w'.cell? ⟨b,n+10,none⟩=some tO∧w'.cell? ⟨b,n+11,none⟩=some tP∧w'.cell? ⟨b,n+12,none⟩=some tQ∧w'.cell? ⟨b,n+13,none⟩=some xx∧w'.cell? ⟨b,n+14,none⟩=some xy∧w'.cell? ⟨b,n+15,none⟩=some xz:=by
 have k:=fun(i:Nat)=>bg.cell (p:=⟨b,i,none⟩) G;simpa only[k]using h

theorem ix{p q:Prop}(k:q)(h:q=p:=by(try simp only[Act.put,List.setIfInBounds_toArray,List.set_cons_zero,List.set_cons_succ]);rfl):p:=h▸k

theorem j'{w:World}{b:Nat}{t:TypeId}{v0 el:Value}{l:List Value}(h:w.heap[b]? =some (.cells (v0::el::l).toArray t (0,0))):w.cell? ⟨b,0,none⟩=some v0∧w.cell? ⟨b,1,none⟩=some el:=by simp[World.cell?,h]
theorem x_{w:World}{b:Nat}{t:TypeId}{v0 el eq:Value}{l:List Value}(h:w.heap[b]? =some (.cells (v0::el::eq::l).toArray t (0,0))):w.cell? ⟨b,0,none⟩=some v0∧w.cell? ⟨b,1,none⟩=some el∧w.cell? ⟨b,2,none⟩=some eq:=by simp[World.cell?,h]
theorem YG{w:World}{b:Nat}{t:TypeId}{v0 el eq v3:Value}{l:List Value}(h:w.heap[b]? =some (.cells (v0::el::eq::v3::l).toArray t (0,0))):w.cell? ⟨b,0,none⟩=some v0∧w.cell? ⟨b,1,none⟩=some el∧w.cell? ⟨b,2,none⟩=some eq∧w.cell? ⟨b,3,none⟩=some v3:=by simp[World.cell?,h]
theorem ai_{w:World}{b:Nat}{t:TypeId}{v0 el eq v3 v4:Value}{l:List Value}(h:w.heap[b]? =some (.cells (v0::el::eq::v3::v4::l).toArray t (0,0))):w.cell? ⟨b,0,none⟩=some v0∧w.cell? ⟨b,1,none⟩=some el∧w.cell? ⟨b,2,none⟩=some eq∧w.cell? ⟨b,3,none⟩=some v3∧w.cell? ⟨b,4,none⟩=some v4:=by simp[World.cell?,h]
theorem gp{w:World}{b:Nat}{t:TypeId}{v0 el eq v3 v4 v5:Value}{l:List Value}(h:w.heap[b]? =some (.cells (v0::el::eq::v3::v4::v5::l).toArray t (0,0))):w.cell? ⟨b,0,none⟩=some v0∧w.cell? ⟨b,1,none⟩=some el∧w.cell? ⟨b,2,none⟩=some eq∧w.cell? ⟨b,3,none⟩=some v3∧w.cell? ⟨b,4,none⟩=some v4∧w.cell? ⟨b,5,none⟩=some v5:=by simp[World.cell?,h]
theorem eU{w:World}{b:Nat}{t:TypeId}{v0 el eq v3 v4 v5 hh:Value}{l:List Value}(h:w.heap[b]? =some (.cells (v0::el::eq::v3::v4::v5::hh::l).toArray t (0,0))):w.cell? ⟨b,0,none⟩=some v0∧w.cell? ⟨b,1,none⟩=some el∧w.cell? ⟨b,2,none⟩=some eq∧w.cell? ⟨b,3,none⟩=some v3∧w.cell? ⟨b,4,none⟩=some v4∧w.cell? ⟨b,5,none⟩=some v5∧w.cell? ⟨b,6,none⟩=some hh:=by simp[World.cell?,h]
theorem YF{w:World}{b:Nat}{t:TypeId}{v0 el eq v3 v4 v5 hh nM mS v9 tO tP tQ:Value}{l:List Value}(h:w.heap[b]? =some (.cells (v0::el::eq::v3::v4::v5::hh::nM::mS::v9::tO::tP::tQ::l).toArray t (0,0))):w.cell? ⟨b,0,none⟩=some v0∧w.cell? ⟨b,1,none⟩=some el∧w.cell? ⟨b,2,none⟩=some eq∧w.cell? ⟨b,3,none⟩=some v3∧w.cell? ⟨b,4,none⟩=some v4∧w.cell? ⟨b,5,none⟩=some v5∧w.cell? ⟨b,6,none⟩=some hh∧w.cell? ⟨b,7,none⟩=some nM∧w.cell? ⟨b,8,none⟩=some mS∧w.cell? ⟨b,9,none⟩=some v9∧w.cell? ⟨b,10,none⟩=some tO∧w.cell? ⟨b,11,none⟩=some tP∧w.cell? ⟨b,12,none⟩=some tQ:=by simp[World.cell?,h]
theorem s8{w:World}{b:Nat}{t:TypeId}{v0 el eq v3 v4 v5 hh nM mS v9 tO tP tQ xx xy xz:Value}{l:List Value}(h:w.heap[b]? =some (.cells (v0::el::eq::v3::v4::v5::hh::nM::mS::v9::tO::tP::tQ::xx::xy::xz::l).toArray t (0,0))):w.cell? ⟨b,0,none⟩=some v0∧w.cell? ⟨b,1,none⟩=some el∧w.cell? ⟨b,2,none⟩=some eq∧w.cell? ⟨b,3,none⟩=some v3∧w.cell? ⟨b,4,none⟩=some v4∧w.cell? ⟨b,5,none⟩=some v5∧w.cell? ⟨b,6,none⟩=some hh∧w.cell? ⟨b,7,none⟩=some nM∧w.cell? ⟨b,8,none⟩=some mS∧w.cell? ⟨b,9,none⟩=some v9∧w.cell? ⟨b,10,none⟩=some tO∧w.cell? ⟨b,11,none⟩=some tP∧w.cell? ⟨b,12,none⟩=some tQ∧w.cell? ⟨b,13,none⟩=some xx∧w.cell? ⟨b,14,none⟩=some xy∧w.cell? ⟨b,15,none⟩=some xz:=by simp[World.cell?,h]
theorem m3{w:World}{b:Nat}{cs:Array Value}{t:TypeId}(h:w.heap[b]? =some (.cells cs t (0,0))):w.frozen? ⟨b,0,none⟩=false∧w.frozen? ⟨b,1,none⟩=false:=by simp[World.frozen?,h]
theorem Jm{w:World}{b:Nat}{cs:Array Value}{t:TypeId}(h:w.heap[b]? =some (.cells cs t (0,0))):w.frozen? ⟨b,0,none⟩=false∧w.frozen? ⟨b,1,none⟩=false∧w.frozen? ⟨b,2,none⟩=false:=by simp[World.frozen?,h]
theorem hp{w:World}{b:Nat}{cs:Array Value}{t:TypeId}(h:w.heap[b]? =some (.cells cs t (0,0))):w.frozen? ⟨b,0,none⟩=false∧w.frozen? ⟨b,1,none⟩=false∧w.frozen? ⟨b,2,none⟩=false∧w.frozen? ⟨b,3,none⟩=false∧w.frozen? ⟨b,4,none⟩=false∧w.frozen? ⟨b,5,none⟩=false∧w.frozen? ⟨b,6,none⟩=false:=by simp[World.frozen?,h]
theorem azR{w:World}{b:Nat}{cs:Array Value}{t:TypeId}(h:w.heap[b]? =some (.cells cs t (0,0))):w.frozen? ⟨b,0,none⟩=false∧w.frozen? ⟨b,1,none⟩=false∧w.frozen? ⟨b,2,none⟩=false∧w.frozen? ⟨b,3,none⟩=false∧w.frozen? ⟨b,4,none⟩=false∧w.frozen? ⟨b,5,none⟩=false∧w.frozen? ⟨b,6,none⟩=false∧w.frozen? ⟨b,7,none⟩=false∧w.frozen? ⟨b,8,none⟩=false∧w.frozen? ⟨b,9,none⟩=false∧w.frozen? ⟨b,10,none⟩=false∧w.frozen? ⟨b,11,none⟩=false∧w.frozen? ⟨b,12,none⟩=false:=by simp[World.frozen?,h]

theorem sC{p:Prop}(h:p:=by
 by_cases h:b<16
 ·rcases pN h with rfl|rfl|rfl|rfl|rfl|rfl|rfl|rfl|rfl|rfl|rfl|rfl|rfl|rfl|rfl|rfl<;>rfl
 ·obtain⟨k,rfl⟩:∃k,b=k+16:=⟨b-16,z⟩
  rfl):p:=h
theorem aof{p:Prop}(h:p:=by
 refine⟨fun b x G=>?_,fun b cQ x da p b1 G fa ag ez iO=>?_,fun b G=>?_⟩
 ·rcases pe b x G with H|⟨rfl,rfl⟩
  ·obtain⟨p,e,vs,rfl,ag,_,_,dD⟩:=base b x H
   exact⟨p,aa b p ag,dD.ext aa⟩
  ·refine⟨_,NP,wN S.bB,aiW _ _ _,?_,fun i hi=>?_⟩
   ·show w.heap[dw]? =some (Obj.cells (nv w dw) 141 (qM w dw))
    rw[aaq,vO];exact mI
   ·show(nv w dw)[o+i]? =_
    rw[aaq]
    exact aiT S.bB o O i (by rw[←aiS];exact hi)
 ·have mixed:∀b x p,(b,x)∈nY→kw b=some p→p.ba≠dw:=fun b x p H I e=>by
   obtain⟨q,ak,vs,_,aE,ZL,⟨A',Bm,dY⟩,_⟩:=base b x H
   obtain rfl:p=q:=gm (I.symm.trans (aa b q aE))
   rw[e,mI]at dY
   cases dY
   exact ZL rfl
  rcases pe b x G with H|⟨rfl,rfl⟩<;>rcases pe cQ da fa with I|⟨rfl,rfl⟩
  ·obtain⟨e,vs,t,wr,rfl,rG⟩:=Ak rL H
   obtain⟨cg,Aw,ju,as0,rfl,TJ⟩:=Ak rL I
   obtain⟨q,aE,_⟩:=bV.ba b _ rG
   obtain⟨gx,je,_⟩:=bV.ba cQ _ TJ
   obtain rfl:p=q:=gm (ag.symm.trans (aa b q aE))
   obtain rfl:b1=gx:=gm (ez.symm.trans (aa cQ gx je))
   exact bV.inj b cQ _ _ p b1 rG TJ aE je iO
  ·rw[NP]at ez;cases ez;exact mixed b x p H ag
  ·rw[NP]at ag;cases ag;exact it (mixed cQ da b1 I ez)
  ·exact absurd rfl iO
 ·rw[G8]at G
  have G:22≤b:=G
  rw[zX]
  simp only
  rw[if_neg z]
  exact mp b z):p:=h
theorem aEM{p:Prop}(h:p:=by rcases pN h with rfl|rfl|rfl|rfl|rfl|rfl|rfl|rfl|rfl|rfl|rfl|rfl|rfl|rfl|rfl|rfl<;>rfl):p:=h
theorem aEJ{p:Prop}(h:p:=by
 refine⟨⟨fun b y aC=>?_,fun b cQ y mT p b1 aC tF ag ez bO=>?_,fun b fa=>?_⟩,⟨aP,fun b H I=>?_,rj _,G.size,fun k Q _=>G.block k Q,fun k D4=>?_,G.os,G.output,G.tape⟩⟩
 ·rw[oC]at aC
  by_cases e:b=h.nx
  ·rw[if_pos e]at aC
   cases aC
   subst e
   exact⟨_,d_,by rw[bF];exact dD⟩
  ·rw[if_neg e]at aC
   obtain⟨p,ag,aAF⟩:=r.ba b y aC
   exact⟨p,aP b p ag,by rw[G.block p.ba (r.Uy aC ag)];exact aAF.ext aP⟩
 ·rw[oC]at aC tF
  by_cases e:b=h.nx
  ·have cg:cQ≠h.nx:=fun q=>bO (e.trans q.symm)
   rw[if_neg cg]at tF
   have:=r.Uy tF (kP cQ b1 cg ez)
   subst e
   rw[d_]at ag
   cases ag
   simp only
   omega
  ·rw[if_neg e]at aC
   have H:=r.Uy aC (kP b p e ag)
   by_cases cg:cQ=h.nx
   ·subst cg
    rw[d_]at ez
    cases ez
    simp only
    omega
   ·rw[if_neg cg]at tF
    exact r.inj b cQ y mT p b1 aC tF (kP b p e ag) (kP cQ b1 cg ez) bO
 ·have aNn:h.nx+1≤b:=fa
  unfold ea
  rw[if_neg z]
  exact r.kn b z
 ·by_cases e:b=h.nx
  ·omega
  ·unfold ea at I
   rw[if_neg e]at I
   exact(I H).elim
 ·obtain⟨b,y,p,a_,bb,rfl⟩:=D4
  rw[oC]at a_
  by_cases e:b=h.nx
  ·subst e
   rw[d_]at bb
   cases bb
   exact .inl ar
  ·rw[if_neg e]at a_
   exact .inr ⟨b,y,p,a_,kP b p e bb,rfl⟩):p:=h
theorem ab7{p:Prop}(h:p:=by
 refine bodyPost_ret (j5 (fn:=f481) rfl _ _ (w.heap.size+1) 44 _ (0,0) _ _ rfl rfl (iJ ec.o _ _ _ _ _ _ _) k2 rfl jk) rfl ?_
 exact⟨e_.some _ _ _ (aR.jb _ 1 _ 1 _ 0 0 0 none 0 none 0) (.hX _ cp.out),iU ec.b z _ _ _ _ _ _ _⟩):p:=h
theorem aoI{p:Prop}(h:p:=by
 rcases aS with aS|⟨g,cap,cq,ak,aI,bv,cI⟩
 ·exact .inl aS
 ·exact .inr ⟨g,cap,cq,ak,aI,by rw[G.block g (hl.1 bv).1];exact bv,cI⟩):p:=h
theorem ab'{p:Prop}(h:p:=by
 refine⟨(((bl _ _).alloc (aY _) _).alloc aq _).alloc bw _,?_,?_,?_⟩
 ·rw[uC _ _ z,uC _ _ z];exact c7 _ _
 ·rw[uC _ _ z,←cC];exact c7 _ _
 ·rw[←cC,←dC];exact c7 _ _):p:=h
theorem aod{p:Prop}(h:p:=by
 have b7:s.data.toList.length=s.size:=iV
 have cw:t.data.toList.length=t.size:=iV
 have iS:t.size=s.size-k:=by rw[←cw,ak,pm,b7]
 refine⟨by rw[ak];exact MA _ _ az,z,fun n ax=>?_⟩
 by_cases h:k<s.data.toList.length
 ·rw[←MA _ _ az,H0 h]at ax
  have I:=ahN (aP h) ax
  rw[←H0 h,←ak,cw]at I
  exact I
 ·omega):p:=h
theorem ab5{p:Prop}(h:p:=by
 rcases Int.le_total 0 x with h|h
 ·rw[K9 h];omega
 ·have aS:=Int.neg_tdiv (a:= -x) (b:=10);have b4:=K9 (a:= -x) (b:=10) z;rw[Int.neg_neg,b4]at aS;omega):p:=h
theorem ab3{p:Prop}(h:p:=by
 refine⟨fun b x G=>?_,fun b cQ x da p b1 G=>?_,fun b G=>?_⟩
 ·simp[hA,ay.cW,T.cW]at G
 ·simp[hA,ay.cW,T.cW]at G
 ·have G:13≤b:=G
  unfold ol
  rw[if_neg z]):p:=h
theorem apk{p:Prop}(h:p:=by
 have e:(kj n 8).map (fun x=>UInt8.ofNat x.toNat)=[UInt8.ofNat (n/72057594037927936%256),UInt8.ofNat (n/281474976710656%256),UInt8.ofNat (n/1099511627776%256),UInt8.ofNat (n/4294967296%256),UInt8.ofNat (n/16777216%256),UInt8.ofNat (n/65536%256),UInt8.ofNat (n/256%256),UInt8.ofNat (n/1%256)]:=rfl
 rw[e]
 simp only[aZ,Lc,List.foldl_nil,acz]
 omega):p:=h
theorem acj{p:Prop}(h:p:=by
 refine S5 h O fun cs=>?_
 have aP:c.args.map (eC a)=#[u,x]:=by apply xG;rw[L]
 rw[aP]
 simp only[builtin,e7,ae,eY,fI]):p:=h
theorem an3{p:Prop}(h:p:=by
 have H:aT (ρ.at w) kw Bb=some bA:=by
  rw[I3 (ρ:=ρ.at w) (ρ':=ρ) rfl];exact Bf aa JD
 have I:aT (ρ.at w) kw (.slice 21 0 S.bB.length 2 none)=some (.slice (some ⟨dw,o,none⟩) S.bB.length cc):=by
  simp only[aT,NP,ov,jP]
  simp
 simp only[b5,Be,H,I]):p:=h
theorem ab6{p:Prop}(h:p:=by exact Jh h L.1 L.2 (lc _ _) (fun n=>by simp[Op.equalIn,h_ hd]) rfl rfl J):p:=h
theorem app{p:Prop}(h:p:=by
 induction l with
 |nil=>intro n;simp[aZ]
 |cons c l e4=>
  intro n
  simp only[Lc,l8,aZ]
  rw[e4,e4 (0*256+c.toNat),yR]
  have:n*(256^l.length*256)=n*256*256^l.length:=by rw[EW,H9 256]
  rw[this]
  simp only[vh,gy,xM]
  omega):p:=h
theorem apr{p:Prop}(h:p:=by
 refine bodyPost_ret (j5 (fn:=f415) rfl _ _ w.heap.size 44 _ (0,0) _ _ rfl rfl (iJ hF _ _ _ _ _ _ _) k2 rfl jk) rfl ?_
 exact⟨e_.put (base:=dc.heap.size) ⟨_,_,_,_,_,_,_,_,_,_,_,_,rfl,oF,lD,l3⟩ kr zU,iU dv.out.b z _ _ _ _ _ _ _⟩):p:=h
theorem ao3{p:Prop}(h:p:=by
 rw[zd]at h
 have H:1≤c.toNat:=by
  have:c.toNat≠0:=fun e=>O (Wo.1 (by simpa using e))
  omega
 have I:256^l.length≤c.toNat*256^l.length:=Nat.le_mul_of_pos_left _ H
 have ah:256^l.length<256^n:=z
 have:=(Nat.pow_lt_pow_iff_right z).1 ah
 simp only[l8]
 omega):p:=h
theorem aot{p:Prop}(h:p:=by
 obtain⟨eT,w',⟨rfl,rfl⟩,V⟩:=Sm (R:=fun eT w'=>eT=c∧w'=w) (b:=b) (ds:=ds) (k:=k) (cs:=cs) (rest:=rest) bF dY wS.r.UR (.inl ⟨c,w,ae,rfl,rfl⟩)
 exact⟨σ,_,_,v.aqY an bF hd j4 wS.r.dst eE jG (fun _ _ _ h=>by cases h) (fun _ _ _ h=>by cases h) O,V⟩):p:=h
theorem UA{p:Prop}(h:p:=by
 rcases I.2 with⟨aS,b4⟩|⟨mH,cap,cq,ak,aI,_⟩
 ·rw[b4];exact⟨_,_,aS⟩
 ·exact⟨_,_,ak⟩):p:=h
theorem aEQ{p:Prop}(h:p:=by
 obtain⟨wQ,gN,lB,gE,L⟩:=lY V
 simp[gf,h,Op.operands]at L
 simp only[aT,cx]at lB gE
 subst lB;subst gE
 exact Jh h L.1 L.2 (fun op=>Jg (.inl aq) aq) (fun n=>by simp[Op.equalIn,h_ hd]) rfl rfl J):p:=h
theorem ao1{p:Prop}(h:p:=by
 obtain⟨e,vs,t,wr,rfl,rG⟩:=Ak rL av
 obtain⟨p,ag,dD⟩:=bV.ba b _ rG
 have ZL:=iq.1 aFI _ av
 refine⟨p,e,vs,rfl,ag,fun ak=>?_,?_,ac9 dD⟩
 ·subst ak;simp at ZL
 ·obtain⟨arr,bd,H,_⟩:=dD;exact⟨arr,bd,H⟩):p:=h
theorem ao0{p:Prop}(h:p:=by
 rcases aS with⟨aS,b4⟩|⟨mH,cap,cq,ak,aI,_⟩
 ·subst aS;simp[Value.ownBlock]at ar
 ·subst ak;simp[Value.ownBlock]at ar;omega):p:=h
theorem Po{p:Prop}(h:p:=by exact⟨rfl,(bl _ _).alloc (aY _) _⟩):p:=h
theorem aoA{p:Prop}(h:p:=by
 unfold uW at e
 refine akj Q (fun aP=>?_) e
 cases aE:v with
 |none=>rw[aE]at aP;simp[ei.jJ]at aP
 |some u=>
  rw[aE]at aP
  simp only at aP
  rw[acU]at aP
  simp only[Ba,zh,J u aE,CQ]
  exact Q _ _ aP):p:=h
theorem an'{p:Prop}(h:p:=by
 obtain⟨ah,aS⟩:=h
 rcases aS with⟨aS,_⟩|⟨g,cap,cq,ak,aI,bv,cI⟩
 ·subst aS;simp[Value.ownBlock]
 ·subst ak
  simp only[Value.ownBlock,ne_eq,cx]
  intro h2
  subst h2
  rw[G]at bv
  cases bv
  exact aj rfl):p:=h
theorem aph{p:Prop}(h:p:=by
 exact((bl base w).alloc jE _).grown bb bw (fun b G=>by
  rcases I.2 with⟨aS,_⟩|⟨mH,cap,cq,ak,aI,bv,cI⟩
  ·subst aS;simp[Value.ownBlock]at G
  ·subst ak;simp[Value.ownBlock]at G;subst G;exact aI)):p:=h
theorem aoo{p:Prop}(h:p:=by
 by_cases e:id=l[j].id
 ·subst e
  simp[db]at hid
  exact⟨j,ab,EU _,hid.symm,V⟩
 ·simp[db,e]at hid
  obtain⟨t,aj,H,I,ah⟩:=h.KV id c hid
  exact⟨t,aj,z,I,by rw[aa id e];exact ah⟩):p:=h
theorem aok{p:Prop}(h:p:=by
 obtain⟨c,O,L⟩:=i' V
 simp[gf,h,Op.operands]at L
 simp only[aT,cx]at O
 subst O
 refine⟨_,rfl,?_⟩
 simp[execOp,h,L,convert,h_ m_,h_ hd,Conv.unsafePointer]):p:=h
theorem anX{p:Prop}(h:p:=by
 obtain⟨ce,H,I,ah⟩:=h.o
 intro g ar
 rcases I.2 with⟨aS,_⟩|⟨mH,cap,cq,ak,aI,bv,cI⟩
 ·subst aS;simp[Value.ownBlock]at ar
 ·subst ak
  simp[Value.ownBlock]at ar
  subst ar
  exact⟨aI,bM bv⟩):p:=h
theorem ab8{p:Prop}(h:p:=by
 intro j u ab
 cases j with
 |zero=>
  simp at ab
  subst ab
  exact aN 0 (c7 w _)
 |succ j=>simp at ab):p:=h
theorem an6{p:Prop}(h:p:=by
 rw[j_ I]at H
 simp only[World.cell?,iQ,gy]
 simp only[vc]at H
 rw[H,qt,j_ I]
 rfl):p:=h
theorem aoP{p:Prop}(h:p:=by
 have H:=x5 (l.take k)
 have I:(l.take k).length≤6:=by rw[mw];omega
 have ah:256^(l.take k).length≤256^6:=k5 z I
 have aS:(256:Nat)^6=281474976710656:=al
 omega):p:=h
theorem aoM{p:Prop}(h:p:=by
 obtain⟨c,O,L⟩:=i' V
 simp[gf,h,Op.operands]at L
 have lb:=O
 simp only[aT,iW]at O
 obtain⟨p,ag,rfl⟩:=O
 exact⟨_,lb,by simp[execOp,h,L]⟩):p:=h
theorem acd{p:Prop}(h:p:=by
 refine⟨_,rfl,arC h O L ?_⟩
 simp[Builtin.len_,aj,h_ hu]):p:=h
theorem anY{p:Prop}(h:p:=by
 rcases h.2 with⟨ak,_⟩|⟨g,cap,cq,ak,aI,bv,cI,h2,jQ,kS⟩
 ·exact absurd ak af
 ·refine⟨g,cap,cq,ak,aI,bv,cI,jQ,fun i hi=>?_⟩
  rw[←kS,pk,if_pos hi]
  simp):p:=h
theorem aoh{p:Prop}(h:p:=by
 refine S5 h O fun cs=>?_
 have aP:c.args.map (eC a)=#[u]:=by apply xG;rw[L]
 rw[aP]
 simp only[builtin,e7,ae,eY,fI]
 rfl):p:=h
theorem acg{p:Prop}(h:p:=by exact Jh h L.1 L.2 (lc _ _ _ _ _ _) (fun n=>by simp[Op.equalIn,h_ hd]) rfl rfl J):p:=h
theorem apf{p:Prop}(h:p:=by
 have H:Dp nY=true:=aw
 simp only[Dp]at H
 simp only[Dp,ws,List.all_append,dW]
 exact⟨H,by simp[eK.Uk]⟩):p:=h
theorem apl{p:Prop}(h:p:=by
 simp only[aT,cx]at O
 subst O
 have:l=[]:=by simpa using hi
 subst this
 exact⟨none,0,rfl,aq,fun h=>absurd h aq⟩):p:=h
theorem aoS{p:Prop}(h:p:=by
 rcases kx.1 (Af kH G)with H|H
 ·exact .inl H
 ·simp only[oQ,iX]at H;exact .inr H):p:=h
theorem ape{p:Prop}(h:p:=by
 refine .inr ⟨g,cap,cq,ak,aI,?_,cI⟩
 rw[ht _ _ _ _ (fun e=>bO (by subst ak;simp[Value.ownBlock,e]))]
 exact bv):p:=h
theorem an_{p:Prop}(h:p:=by
 rw[ay.vJ _ _ _ _ al]at h
 by_cases e:b=13
 ·rw[if_pos e]at h;cases h;exact⟨e,rfl⟩
 ·rw[if_neg e]at h;simp[ay.cW,T.cW]at h):p:=h
theorem ao4{p:Prop}(h:p:=by
 rw[jt]at this
 exact this):p:=h
theorem ao8{p:Prop}(h:p:=by
 obtain⟨eF,c9,dS,TO,ak,aI,bv,cI⟩:=DT aC
 rw[←an.len]
 have:=(kL.1 aI).1
 omega):p:=h
theorem an0{p:Prop}(h:p:=by
 obtain⟨dw,fW,arr,bd,e,jF,_⟩:=h.oB.c
 rw[aa]at e
 cases e
 have:=bM jF
 show dw≠w.heap.size+2
 omega):p:=h
theorem aEN{p:Prop}(h:p:=by
 rw[bj.block _ (by simp only[jt];omega)]
 rw[uC _ _ (by simp only[jt];omega)]
 exact c7 w _):p:=h
theorem an2{p:Prop}(h:p:=by
 obtain⟨v,w',r,s⟩:=amv (fr b a ds (.inRegion ops (i::rest)::k)) cs
 rw[Bx]at s
 exact⟨v,w',r,.head H s⟩):p:=h
theorem apn{p:Prop}(h:p:=by
 rw[Dy]at az
 have az:¬b=0:=by simpa using az
 subst h
 exact⟨_,fun _=>rfl,by simp[binOp,Op.intDiv,az]⟩):p:=h
theorem aoK{p:Prop}(h:p:=by
 rw[b_]
 congr 2
 exact aKT cv fun i hi=>by have:=kJ i hi;simp only[gy]at this;exact this):p:=h
theorem aEI{p:Prop}(h:p:=by
 obtain⟨Q,dY⟩:=aqd (base:=base) (n:=n) (cap:=cap) ar fG
 exact(h.lt.eB (Q.yL fun b G=>G.1)).low dY):p:=h
theorem ao5{p:Prop}(h:p:=by
 obtain⟨ce,H,I,ah⟩:=h.o
 exact⟨ce,H,uS I Q,fun j a b=>(ah j a b).eB (Q.yL fun b G=>G.1)⟩):p:=h
theorem aoO{p:Prop}(h:p:=by exact⟨e_.some _ _ _ (aR.jb _ 1 _ 4 bX 0 0 q none 0 none 0) (.lX q aE),iU ec.b z _ _ _ _ _ _ _⟩):p:=h
theorem anZ{p:Prop}(h:p:=by
 by_cases e:id=l[j].id
 ·subst e;simp[db]at hid
 ·simp[db,e]at hid;rw[aa id e];exact h.gY id hid):p:=h
theorem aox{p:Prop}(h:p:=by
 simp only[iW]at h
 obtain⟨l,L,rfl⟩:=h
 simp[aT,Kh L]):p:=h
theorem ab4{p:Prop}(h:p:=by simp[gZ,AB,it this]):p:=h
theorem aEK{p:Prop}(h:p:=by
 obtain⟨k,rfl⟩:∃k,i=k+16:=⟨i-16,z⟩
 rfl):p:=h
theorem aor{p:Prop}(h:p:=by
 apply atv
 intro s V
 rw[if_neg (by have:=xK.1 V;omega)]):p:=h
theorem aoR{p:Prop}(h:p:=by
 have:=rC.cells (g:=g) (by rw[mg];rfl) j ss[j] aq
 rw[AD]at this
 rw[this,e]):p:=h
theorem aom{p:Prop}(h:p:=by
 simp only[rz,rP,pB,cond_false,cx]at h
 exact ayp h.symm):p:=h
theorem aob{p:Prop}(h:p:=by
 simp only[aT,iW]at h
 obtain⟨p,ag,rfl⟩:=h
 exact⟨p,ag,rfl⟩):p:=h
theorem aol{p:Prop}(h:p:=by
 rw[pk,if_pos z]at this
 simp only[World.cell?,bv]
 simpa using this):p:=h
theorem ao2{p:Prop}(h:p:=by simp only[execOp,h,ak,e7,afQ,dL,eY,fI]):p:=h
theorem aoW{p:Prop}(h:p:=by
 rw[r6 (by rw[iV];exact h),XH]
 rfl):p:=h
theorem aoL{p:Prop}(h:p:=by
 obtain⟨dK,eL,FL,a,bd,G⟩:=I af
 exact⟨dK,eL,FL,a,bd,Q _ _ _ _ al G⟩):p:=h
theorem aEP{p:Prop}(h:p:=by
 obtain⟨wQ,gN,lB,gE,L⟩:=lY V
 simp[gf,h,Op.operands]at L
 simp only[aT,cx]at lB gE
 subst lB;subst gE
 exact ab6):p:=h
theorem aca{p:Prop}(h:p:=by
 obtain⟨ah,aS⟩:=h
 refine⟨ah,?_⟩
 exact aoI):p:=h
theorem ab_{p:Prop}(h:p:=by
 by_cases h:i<16
 ·exact aEM
 ·exact aEK):p:=h
end Go
namespace Go
open Go.Proofs.Tryz
theorem pg{P:Program}{ops:Array Oper}{c':Exit→Act→World→Prop}{q4:Region.Mode}{S:World→Prop}{o1:Nat}{l5:Array Bool}{a:Act}{w:World}(i:Nat){o:Oper}
 (h:∀Mi:Act→World→Prop,Shut (∀a w,S w→(S w→wpAnyH P q4 ops c' S o1 (l5.setIfInBounds i true) a w)→Mi a w)→if Region.wanted o (yielded ops a.tmps)=true then Oper.wp P o a w Mi c' else Mi (a.put o.dst undef) w)
 (ae:Region.ready q4 ops l5=[i]:=by kernel_rfl)(bF:ops[i]? =some o:=by rfl):wpAnyH P q4 ops c' S (o1+1) l5 a w:=Rf ae (by simp) (CH bF h Q3)

theorem Ke{p:Prop}(h:p:=by
 have sv:k<ee.length:=z
 obtain⟨dK,eL,rfl,_,iE,h4⟩:=pp.out _ eS.out.b.drew z
 obtain⟨Pa,aDU,rfl,Oz,Gq⟩:=gi.out _ bm.drew z
 obtain⟨bN,bH,bL,cL,bT,fq,mB,fs,e5,mO,e6,ag,V⟩:=h4 k au
 have fi:=Gq k sv
 have eQ:=V.bi
 have dB:=V.c1
 have dF:=V.c2
 have gB:=V.c3
 have hI:=V.c4
 have h8:=V.c5
 have iI:=V.fe
 have gQ:(0:Int)≤(k:Int):=z
 have gb:(k:Int)<l.length:=z
 have jg:(k:Int)<ob:=z
 have wb:dK<wr.heap.size:=iE
 have abT:Pa<wr.heap.size:=Oz
 obtain⟨DC,By⟩:=sR.out _ (fp au)
 have TP:=AX.out _ (fp sv)
 have auL:Hid (l[k].kind=(ee[k]:Int)→pu ee l (k+1)):=A fun az=>qO.next au sv az
 clear h4 Gq V
 generalize l[k]=v at*
 generalize ee[k]=q at*
 obtain⟨HL,vs,aee,aeg,aem,aej,aeo⟩:=v
 have p0:=A (Sr HL aee aeg aem vs aej aeo By (q:Int) z _ _ ag)
 clear By ag
 go_wp2
 go_still_tail 8,aw
 change wpList _ _ _ _ _ wr.drew
 have ih:=A (eS.out.K (lk wr))
 have alw:=bm.drew
 have abb:ap.heap.size≤wr.drew.heap.size:=bm.size
 clear eS bm
 generalize wr.drew=w3 at*
 go_upto_region 19 with(go_at_call 473;refine(p0.out).mono ?_;rintro e bh ⟨⟨sp,rfl,oF,lD,l3⟩,bq⟩)
 have hE:=A (ih.out.K bq)
 have bJ:=alw.trans (bq.mono abb)
 clear eQ dB dF gB hI h8 iI fi iE Oz wb abT ih bq p0 alw
 by_cases qP:sp=0
 ·subst qP
  have RW:=auL.out (l3 rfl)
  go_wp2
  go_roundw
  case rel=>first|exact⟨k+1,z,bz,bJ,RW⟩|exact⟨k+1,z,z,RW⟩|exact⟨k+1,z,z,bJ,RW⟩|((repeat apply Exists.intro);refine⟨?_,rfl⟩;exact⟨k+1,z,bz,bJ,RW⟩)
  case measure=>simp[RowKit.intOf];omega
 ·have ak:(sp !=0)=true:=by simpa using qP
  have ec:=hE.out.o
  obtain⟨hf,dn,dR,fy,gG,hg,hj⟩:=eU ec;obtain⟨z0,cC,dC,z3,z4,z5,eJ⟩:=hp ec
  go_wp2
  refine bodyPost_ret (j5 (fn:=f415) rfl _ _ w.heap.size 44 _ (0,0) _ _ rfl rfl (iJ ec _ _ _ _ _ _ _) k2 rfl jk) rfl ?_
  exact⟨e_.none _ _ _ sp z lD,iU hE.out.b z _ _ _ _ _ _ _⟩):p:=h
theorem aoB{p:Prop}(h:p:=by
 refine cy.out _ _ ⟨(fJ.cell pc).trans fe,(fJ.cell OC).trans cl,(fJ.cell q2).trans dr,(fJ.cell JR).trans ek⟩ (fun ko=>?_)
 clear cy cf
 refine ix ?_
 refine pg 30 (fun cf cy=>?_)
 have Ga:=dm.K fJ
 obtain⟨bW,sz,D9⟩:=Ga.FU rs[k].h n ck jF
 obtain⟨zs,hr,BJ⟩:=OT.fD (fun h=>(vV h).1)
 have J:(∃ad,Ew=some ad∧ ∀(j:Nat) u,zs[j]? =some u→w7.cell? (ad.add j)=some u)∨(Ew=none∧sH.length=0):=(by rcases BJ with h|⟨H,I⟩;exact .inl h;exact .inr ⟨H,by rw[I];rfl⟩)
 refine asf (d:=some 108) _ rfl rfl _ _ 23 rfl (w.heap.size+2) 22 xf _ 1 24 HU w9 ks hV ij rfl al (E rs[k].h n) _ bW rfl sz Ew sH.length KC zs rfl (by rw[hr.len,tX]) J hr.xn (by unfold maxLen;omega) z (c6 jE fJ.size) ?_
 intro mS dc m9 ke DM
 obtain⟨KO,KP,rfl⟩:=acI m9
 obtain⟨Ka,abL,cg,_,aBM,⟨aMF,ali⟩,_⟩:=Ga.Vb uL
 cases cg
 have DF:=fun(b:Nat) (cs:Array Value) (t:TypeId) (fr:Nat×Nat) (G:w7.heap[b]? =some (Obj.cells cs t fr)) (aj:t≠22)=>show dc.heap[b]? =some (Obj.cells cs t fr) by
  rw[ke.block b (de G) (BW sz G aj)];exact G
 have alv:w7.heap[b8 rs[k].h]? =some (Obj.cells aw1 23 (0,0)):=by rw[fJ.block _ Pe];exact mI
 have JB:=DF _ _ _ _ alv al
 have axx:=kQ JB (aai n jF)
 have azM:dc.frozen? ⟨b8 rs[k].h,n,none⟩=false:=by simp[World.frozen?,JB]
 have Im:=hw.K fJ
 have qB:=cp.K fJ
 have DX:=DF _ _ _ _ qB.g al
 have Gg:=DF _ _ _ _ Im al
 have aaO:=DF _ _ _ _ ali al
 have Yh:dc.cell? ⟨w.heap.size+1,6,none⟩=_:=kQ Gg rfl
 have Zv:dc.cell? ⟨w.heap.size,4,none⟩=_:=kQ DX rfl
 have M9:dc.cell? ⟨bG,rs[k].h,none⟩=_:=(ke.cell_far ⟨bG,rs[k].h,none⟩ aBM (BW sz ali al)).trans ((fJ.cell OC).trans cl)
 have acV:dc.cell? ⟨rb,aK+k*4+3,none⟩=_:=(ke.cell_far ⟨rb,aK+k*4+3,none⟩ (cT fJ JR) (yH sz (show rb<w.heap.size+2 by omega))).trans ((fJ.cell JR).trans ek)
 have aBP:bG≠b8 rs[k].h:=fun e=>by
  rw[e]at aaO;rw[aaO]at JB;cases JB
 refine cy.out _ _ ⟨Yh,M9,Zv,acV⟩ (fun ko=>?_)
 clear cy cf
 refine ix ?_
 refine cn 31 109 ?_
 refine pg 32 (fun cf cy=>?_)
 go_simp
 refine cy.out _ _ ⟨(nN (ht _ _ _ _ (show w.heap.size+1≠b8 rs[k].h by omega))).trans Yh,(nN (ht _ _ _ _ aBP)).trans M9,(nN (ht _ _ _ _ (show w.heap.size≠b8 rs[k].h by omega))).trans Zv,(nN (ht _ _ _ _ (show rb≠b8 rs[k].h by omega))).trans acV⟩ (fun ko=>?_)
 clear cy cf
 refine ix ?_
 refine wpAnyH_done aw ?_ _
 have ak':=(lW.grown Ga ck jF sz D9 hr m9 ke DM).congr au7.out
 have WO:jM (dc.setCell ⟨b8 rs[k].h,n,none⟩ (.slice KO ((part rs Z f (n-1) k rs[k].h n).length+sH.length) KP)) (w.heap.size+1) 333 #[.string S.nm,.int .i64 S.dk,.slice ca S.bB.length cc,.slice (some ⟨bS,eI,none⟩) S.aJ.length aW,.slice (some ⟨rb,aK,none⟩) rs.length rc,.int .i64 S.an,.slice (some ⟨bG,0,none⟩) S.aJ.length hz]:=by
  unfold jM;rw[ht _ _ _ _ (show w.heap.size+1≠b8 rs[k].h by omega)];exact Gg
 have Tu:Below w.heap.size w dc:=qB.b.grown ke qB.b.size (fun g ar=>by
  rcases xN g (w.heap.size+2)with L|L
  ·exact absurd ar.symm (yH sz L)
  ·omega)
 have C3:ie w (en S rs ca (some ⟨bS,eI,none⟩) cc aW rb aK rc) (dc.setCell ⟨b8 rs[k].h,n,none⟩ (.slice KO ((part rs Z f (n-1) k rs[k].h n).length+sH.length) KP)):=ie.set (wr:=dc) ⟨Tu,DX⟩ z
 have ak0:nn (dc.setCell ⟨b8 rs[k].h,n,none⟩ (.slice KO ((part rs Z f (n-1) k rs[k].h n).length+sH.length) KP)) et S.aJ.length f:=((vM.kept (ano fJ)).kept (GL sz ke)).kept (Uo JB al)
 have als:w.heap.size+2≤(dc.setCell ⟨b8 rs[k].h,n,none⟩ (.slice KO ((part rs Z f (n-1) k rs[k].h n).length+sH.length) KP)).heap.size:=by have:=de WO;omega
 clear cp hw dm vM Ga qB Im DX Gg aaO Yh Zv M9 acV axx azM JB alv m9 ke sz D9 hr J OT DF Dt aiD fe cl dr ek M' ko ye mI aai DM
 generalize (dc.setCell ⟨b8 rs[k].h,n,none⟩ (.slice KO ((part rs Z f (n-1) k rs[k].h n).length+sH.length) KP))=gI at*
 go_wp2
 go_roundw
 case rel=>first|exact⟨k+1,_,z,bz,als,C3,WO,ak0,ak'⟩|((repeat apply Exists.intro);refine⟨?_,rfl⟩;exact⟨k+1,_,z,bz,als,C3,WO,ak0,ak'⟩)
 case measure=>simp[RowKit.intOf];omega):p:=h
theorem aoZ{p:Prop}(h:p:=by
 refine cy.out _ _ ⟨(ex.cell C0).trans bI,(ex.cell JT).trans uq⟩ (fun ko=>?_)
 clear cy cf
 refine ix ?_
 refine pg 16 (fun cf cy=>?_)
 refine adA (d:=some 37) _ rfl rfl _ _ 261 rfl (w.heap.size+2) 264 aC5 _ 1 24 underlying261 aBy tw h5 n9 rfl al v k _ rfl (dm.K ex).row ⟨wr.heap.size+1,0,none⟩ 1 1 [.slice (some ⟨wr.heap.size,0,none⟩) ai ai] rfl rfl (r5 (cs:=#[.slice (some ⟨wr.heap.size,0,none⟩) ai ai]) (t:=264) (fr:=(0,0)) (agJ _ rfl)) (by simp[Value.oneCell']) al (by unfold maxLen;omega) z (c6 jE ex.size) _ rfl ?_
 intro hG zl br gA ga _ _
 have vK:=fun(b:Nat) (cs:Array Value) (t:TypeId) (fr:Nat×Nat) (G:wr.heap[b]? =some (Obj.cells cs t fr)) (aj:t≠264)=>show br.heap[b]? =some (Obj.cells cs t fr) by
  have bu:((wr.drew.alloc (.cells (Array.replicate ai (.slice none 0 0)) 23)).alloc (.cells #[.slice (some ⟨wr.heap.size,0,none⟩) ai ai] 264)).heap[b]? =some (Obj.cells cs t fr):=by rw[ex.block b (de G)];exact G
  rw[ga.block b (de bu) (BW (dm.K ex).row bu aj)];exact bu
 have axp:br.cell? ⟨w.heap.size+1,6,none⟩=some v:=kQ (vK _ _ _ _ hw al) rfl
 have azL:br.frozen? ⟨w.heap.size+1,6,none⟩=false:=by simp[World.frozen?,vK _ _ _ _ hw al]
 have Zu:br.cell? ⟨w.heap.size,3,none⟩=_:=kQ (vK _ _ _ _ cp.g al) rfl
 have Yn:br.cell? ⟨bS,eI+k*3+2,none⟩=some (.int .i64 (M k)):=(ga.cell_far ⟨bS,eI+k*3+2,none⟩ (cT ex JT) (yH (dm.K ex).row (show bS<w.heap.size+2 by omega))).trans ((ex.cell JT).trans uq)
 refine cy.out _ _ ⟨Zu,Yn⟩ (fun ko=>?_)
 clear cy cf
 refine ix ?_
 refine cn 17 38 ?_
 refine cn 18 39 ?_
 refine pg 19 (fun cf cy=>?_)
 go_simp
 refine cy.out _ _ ⟨(nN (ht _ _ _ _ (show w.heap.size≠w.heap.size+1 by omega))).trans Zu,(nN (ht _ _ _ _ (show bS≠w.heap.size+1 by omega))).trans Yn⟩ (fun ko=>?_)
 clear cy cf
 refine ix ?_
 refine wpAnyH_done aw ?_ _
 have Z_:=dm.K ex
 have pI:((wr.drew.alloc (.cells (Array.replicate ai (.slice none 0 0)) 23)).alloc (.cells #[.slice (some ⟨wr.heap.size,0,none⟩) ai ai] 264)).heap[wr.heap.size]? =some (Obj.cells (Array.replicate (Z k) (.slice none 0 0)) 23 (0,0)):=by
  rw[←ahe.out,uC _ _ (by rw[jt];exact EU _)];exact c7 _ _
 have amk:br.ownsRow (w.heap.size+2) 264 1 (.slice (some ⟨hG,0,none⟩) (k+1) zl) (k+1) (((List.range k).map fun s=>.slice (some ⟨b8 s,0,none⟩) (Z s) (Z s))++[.slice (some ⟨wr.heap.size,0,none⟩) (Z k) (Z k)]):=by rw[←ahe.out];exact gA
 have N5:=lW.next Z_ jE pI (fun s V=>sM (by obtain⟨_,arr,g,_⟩:=dm.ba s V;exact de g)) (fun _=>rfl) (fun _=>rfl) amk ga
 have WM:=vK _ _ _ _ hw al
 have Ga:=N5.set (i:=6) (x:=.slice (some ⟨hG,0,none⟩) (k+1) zl) WM al al al al
 have Im:jM (br.setCell ⟨w.heap.size+1,6,none⟩ (.slice (some ⟨hG,0,none⟩) (k+1) zl)) (w.heap.size+1) 333 #[.string S.nm,.int .i64 S.dk,.slice ca S.bB.length cc,.slice (some ⟨bS,eI,none⟩) S.aJ.length aW,.slice (some ⟨rb,aK,none⟩) rs.length rc,.int .i64 S.an,.slice (some ⟨hG,0,none⟩) (k+1) zl]:=h' WM _
 have aAY:Below w.heap.size w br:=(b3 cp.b ex).grown ga (c6 cp.b.size ex.size) (fun g ar=>by
  rcases xN g (w.heap.size+2)with L|L
  ·exact absurd ar.symm (yH Z_.row L)
  ·omega)
 have qB:ie w (en S rs ca (some ⟨bS,eI,none⟩) cc aW rb aK rc) (br.setCell ⟨w.heap.size+1,6,none⟩ (.slice (some ⟨hG,0,none⟩) (k+1) zl)):=ie.set (wr:=br) ⟨aAY,vK _ _ _ _ cp.g al⟩ (EU _)
 have alr:w.heap.size+2≤(br.setCell ⟨w.heap.size+1,6,none⟩ (.slice (some ⟨hG,0,none⟩) (k+1) zl)).heap.size:=by
  have:=de Im
  omega
 clear cp hw dm Z_ pI gA amk ga N5 WM vK axp azL Zu Yn cu ex ky agJ ko ye qf
 generalize (br.setCell ⟨w.heap.size+1,6,none⟩ (.slice (some ⟨hG,0,none⟩) (k+1) zl))=w7 at*
 generalize (Value.slice (some ⟨hG,0,none⟩) (k+1) zl)=nM at*
 go_wp2
 go_roundw
 case rel=>first|exact⟨k+1,nM,_,z,bz,alr,qB,Im,Ga⟩|((repeat apply Exists.intro);refine⟨?_,rfl⟩;exact⟨k+1,nM,_,z,bz,alr,qB,Im,Ga⟩)
 case measure=>simp[RowKit.intOf];omega):p:=h
theorem GR{p:Prop}(h:p:=by
 have dA:((l.length:Int) !=(ob:Int))=true:=bw
 clear g'
 have ki:=e0.out.o
 obtain⟨hf,dn,dR,fy,gG,hg,hj⟩:=eU ki;obtain⟨z0,cC,dC,z3,z4,z5,eJ⟩:=hp ki
 go_wp2
 refine bodyPost_ret (j5 (fn:=f415) rfl _ _ w.heap.size 44 _ (0,0) _ _ rfl rfl (iJ ki _ _ _ _ _ _ _) k2 rfl jk) rfl ?_
 exact⟨e_.none _ _ _ 14 al al,iU e0.out.b z _ _ _ _ _ _ _⟩):p:=h
theorem aoV{p:Prop}(h:p:=by
 have GM:dK<bh.drew.heap.size:=abJ
 clear gg cr dy ew im uY xt t0 abJ anO bJ nk ru az8 i7
 generalize bh.drew=bc at*
 go_upto_region 12 with(go_at_call 473;refine(AP.out).mono ?_;rintro e br ⟨⟨Ze,rfl,qe,kq,uD⟩,dj⟩)
 have xT:=A (qC.out.K dj)
 have au3:=A (vn.out.K dj)
 by_cases alI:Ze=0
 ·subst alI
  have bi:=aA dj GM gW
  have c1:=aA dj GM eM
  have c2:=aA dj GM ft
  have c3:=aA dj GM hJ
  have c4:=aA dj GM kR
  have c5:=aA dj GM mC
  have fe:=aA dj GM p'
  clear gW eM ft hJ kR mC p' qC vn dj AP
  have zU:w.heap.size≤br.heap.size:=xT.out.b.size
  have kr:w.heap.size<br.heap.size:=bM xT.out.o
  have yW:=A (I4 0 br _ _ au3.out)
  go_wp2_with (go_at_call 67;(with_reducible refine yW.out.mono ?_);rintro e Ax ⟨⟨atT,rfl,F4⟩,oE⟩;obtain⟨ii,bU,kl,mf,kE,mD,mh,mE,mF,mj,mG,rfl⟩:=F4.arR;have AV:=A F4;clear F4;have dv:=A (xT.out.K oE);have hF:=dv.out.o;obtain⟨hf,dn,dR,fy,gG,hg,hj⟩:=eU hF;obtain⟨z0,cC,dC,z3,z4,z5,eJ⟩:=hp hF)
  refine bodyPost_ret (j5 (fn:=f415) rfl _ _ w.heap.size 44 _ (0,0) _ _ rfl rfl (iJ hF _ _ _ _ _ _ _) k2 rfl jk) rfl ?_
  exact⟨e_.put (base:=br.heap.size) (e_.some _ _ _ AV.out ni.out) kr zU,iU dv.out.b z _ _ _ _ _ _ _⟩
 ·have ak:(Ze !=0)=true:=by simpa using alI
  have ec:=xT.out.o
  obtain⟨hf,dn,dR,fy,gG,hg,hj⟩:=eU ec;obtain⟨z0,cC,dC,z3,z4,z5,eJ⟩:=hp ec
  go_wp2
  refine bodyPost_ret (j5 (fn:=f415) rfl _ _ w.heap.size 44 _ (0,0) _ _ rfl rfl (iJ ec _ _ _ _ _ _ _) k2 rfl jk) rfl ?_
  exact⟨e_.none _ _ _ Ze z kq,iU xT.out.b z _ _ _ _ _ _ _⟩):p:=h
theorem ao_{p:Prop}(h:p:=by
 obtain⟨k,Q,rfl,uz,G⟩:=hrel
 have HEq:=A uz
 clear uz
 by_cases au:k<l.length
 ·have bg:=G.drew
  obtain⟨dK,eL,rfl,_,iE,h4⟩:=ig.out _ bg z
  obtain⟨cV,lX,rfl,_,iO,kc⟩:=k9.out _ bg (by have:=dT.out;omega)
  have ca:=h4 k au
  have dw:=kc k (by have:=dT.out;omega)
  have gQ:(0:Int)≤(k:Int):=z
  have gb:(k:Int)<l.length:=z
  have jg:(k:Int)<m.length:=by have:=dT.out;omega
  have wb:dK<wr.heap.size:=iE
  have GN:cV<wr.heap.size:=iO
  have gz:Hid (l[k]=m[k]'(by have:=dT.out;omega)→ ∀(j:Nat) (H:j<l.length) (I:j<m.length),j<k+1→l[j]=m[j]):=A fun aP j H I ah=>(by
   rcases Ll.1 ah with h|h
   ·exact HEq.out j H I h
   ·subst h;exact aP)
  have g8:Hid (l[k]≠m[k]'(by have:=dT.out;omega)→l≠m):=A fun bO e=>bO (by subst e;rfl)
  generalize aa:l[k]=x at ca g8 gz
  generalize m[k]'(by have:=dT.out;omega)=y at dw g8 gz
  clear h4 kc aa
  go_wp2
  refine wp_region_still_lit aw aw ?_
  change wpStill _ _ wr.drew (fun a'=>Exit.then _ _ Exit.normal a' wr.drew) _ _
  generalize wr.drew=am at*
  by_cases qX:x=y
  ·subst qX
   have ak:(x.toList==x.toList)=true:=qH x
   repeat still_step
   refine wpStill_nil ?_
   go_wp2
   go_roundw
   case rel=>first|exact⟨k+1,z,bz,gz.out rfl,bg⟩|((repeat apply Exists.intro);refine⟨?_,rfl⟩;exact⟨k+1,z,bz,gz.out rfl,bg⟩)
   case measure=>simp[RowKit.intOf];omega
  ·have ak:(x.toList==y.toList)=false:=fX qX
   repeat still_step
   refine wpStill_nil ?_
   go_wp2
   go_ret
   exact⟨⟨_,rfl,aq,fun e=>absurd e (g8.out qX)⟩,bg⟩
 ·have gb:¬(k:Int)<l.length:=z
  go_wp2
  go_ret
  exact⟨⟨_,rfl,fun _=>List.ext_getElem dT.out fun j H I=>HEq.out j H I z,fun _=>rfl⟩,G⟩):p:=h
theorem aEL{p:Prop}(h:p:=by
 obtain⟨k,Q,rfl⟩:=hrel
 by_cases au:k<s.size
 ·have O:=ay.out k au
  have jh:(k:Int)<s.size:=z
  rcases O with⟨a,b⟩|⟨a,b⟩|⟨ai,a|⟨a,b⟩⟩
  ·go_wp2
   all_goals first
    |(
     go_round
     case rel=>exact⟨k+1,z,bz⟩
     case measure=>simp[RowKit.intOf];omega)
    |(exfalso;omega)
  ·have c:¬97≤(s[k].toNat:Int):=z
   go_wp2
   all_goals first
    |(
     go_round
     case rel=>exact⟨k+1,z,bz⟩
     case measure=>simp[RowKit.intOf];omega)
    |(exfalso;omega)
  ·have c1:decide (97≤(s[k].toNat:Int))=false:=by rw[a];rfl
   have c2:decide ((s[k].toNat:Int)≤90)=false:=by rw[a];rfl
   have c3:((k:Int)==0)=false:=bw
   have c4:((s[k].toNat:Int) !=95)=false:=by rw[a];rfl
   clear a
   go_wp2
   all_goals first
    |(
     go_round
     case rel=>exact⟨k+1,z,bz⟩
     case measure=>simp[RowKit.intOf];omega)
    |(exfalso;omega)
  ·have c1:¬97≤(s[k].toNat:Int):=z
   have c2:¬65≤(s[k].toNat:Int):=z
   have c3:((k:Int)==0)=false:=bw
   have c4:((s[k].toNat:Int) !=95)=true:=bw
   have c5:¬(s[k].toNat:Int)<48:=z
   have fe:¬57<(s[k].toNat:Int):=z
   go_wp2
   all_goals first
    |(
     go_round
     case rel=>exact⟨k+1,z,bz⟩
     case measure=>simp[RowKit.intOf];omega)
    |(exfalso;omega)
 ·have jh:¬(k:Int)<s.size:=z
  go_wp2
  go_ret
  exact⟨rfl,rfl⟩):p:=h
theorem aEO{p:Prop}(h:p:=by
 go_wp2
 all_goals first
  |(
   go_round
   case rel=>exact⟨k+1,z,bz⟩
   case measure=>simp[RowKit.intOf];omega)
  |(exfalso;omega)):p:=h
theorem aoe{p:Prop}(h:p:=by
 go_wp2
 go_loop [5] (fun i=>∃k:Nat,k≤l.length∧i=.int .i64 k∧Hid (∀j (ab:j<l.length),j<k→l[j]≠s)) (fun i=>l.length-(RowKit.intOf i).toNat)
 case atStart=>exact⟨0,dh _,rfl,A fun j _ ab=>z⟩
 case round=>
  obtain⟨k,Q,rfl,gi⟩:=hrel
  by_cases au:k<l.length
  ·obtain⟨b,o,rfl,_,G,O⟩:=ay.out z
   have bi:=O k au
   have gQ:(0:Int)≤(k:Int):=z
   have gb:(k:Int)<l.length:=z
   by_cases aa:l[k]=s
   ·rw[aa]at bi
    have ak:=qH s
    clear O
    go_wp2
    go_ret
    exact⟨⟨_,rfl,.inl ⟨k,au,rfl,aa⟩⟩,rfl⟩
   ·have ak:=fX aa
    have WZ:Hid (∀j (ab:j<l.length),j<k+1→l[j]≠s):=A fun j ab o9=>by
     by_cases e:j=k
     ·subst e;exact aa
     ·exact gi.out j ab z
    generalize l[k]=x at*
    clear O
    go_wp2
    go_round
    case rel=>exact⟨k+1,z,bz,WZ⟩
    case measure=>simp[RowKit.intOf];omega
  ·go_wp2
   go_ret
   refine⟨⟨_,rfl,.inr ⟨rfl,fun av=>?_⟩⟩,rfl⟩
   obtain⟨j,ab,e⟩:=AI.1 av
   exact gi.out j ab z e):p:=h
theorem q3{p:Prop}(h:p:=by intro w Z9;(try dsimp only at Z9);(go_simp<;>with_reducible rfl)):p:=h
theorem Uz{p:Prop}(h:p:=by
 have gb:¬(k:Int)<l.length:=z
 go_wp2
 go_ret
 exact⟨⟨_,rfl,fun _=>List.ext_getElem dT.out fun j H I=>HEq.out j H I z,fun _=>rfl⟩,G⟩):p:=h
theorem aoF{p:Prop}(h:p:=by
 go_wp2_with (at_builtin;refine wpList_append_own _ rfl _ _ 22 rfl w.heap.size 3 dZ (.int .i64 0) 1 8 pj ld n_ jf lj rfl al _ _ _ rfl (cR.alloc _) ⟨wr.heap.size,0,none⟩ 1 1 [_] rfl rfl (xk _ _ _) (by simp[Value.oneCell']) (by unfold maxLen;omega) z (by have:=bm.size;simp;omega) ?_;intro dS br gA ga _;have gn:Below w.heap.size w br:=((bm.alloc bm.size _).grown ga (by have:=bm.size;simp;omega) (wh cR));have lS:=A gA;clear gA ga)
 exact⟨⟨k+1,1,l++[d],z,z,bz,rfl,by simp[df],kH.xu z,r'.out d 1 z,by rw[FK];exact lS.out,gn⟩,by simp[RowKit.intOf];omega⟩):p:=h
theorem aoE{p:Prop}(h:p:=by
 go_wp2_with (at_builtin;refine wpList_append_own _ rfl _ _ 22 rfl w.heap.size 3 dZ (.int .i64 0) 1 8 pj ld n_ jf lj rfl al _ _ _ rfl (cR.alloc _) ⟨wr.heap.size,0,none⟩ 1 1 [_] rfl rfl (xk _ _ _) (by simp[Value.oneCell']) (by unfold maxLen;omega) z (by have:=bm.size;simp;omega) ?_;intro dS br gA ga _;have gn:Below w.heap.size w br:=((bm.alloc bm.size _).grown ga (by have:=bm.size;simp;omega) (wh cR));have lS:=A gA;clear gA ga)
 exact⟨⟨k+1,0,l++[d],z,z,bz,rfl,by simp[df],kH.xu z,r'.out d 0 z,by rw[FK];exact lS.out,gn⟩,by simp[RowKit.intOf];omega⟩):p:=h
theorem aci{p:Prop}(h:p:=by
 go_wp2
 refine bodyPost_ret (j5 (fn:=f483) rfl _ _ (w.heap.size+1) 44 _ (0,0) _ _ rfl rfl (iJ ec.o _ _ _ _ _ _ _) k2 rfl jk) rfl ?_
 exact⟨e_.some _ _ _ (aR.jb _ 1 _ 2 bX N S 0 none 0 none 0) (cp.out N S kq uE w8),iU ec.b z _ _ _ _ _ _ _⟩):p:=h
theorem acc{p:Prop}(h:p:=by
 go_wp2
 go_roundw
 case rel=>first|exact⟨k+1,z,bz,em.out,jZ.out,lr.out,sZ.out,vr.out,wG.out⟩|((repeat apply Exists.intro);refine⟨?_,rfl⟩;exact⟨k+1,z,bz,em.out,jZ.out,lr.out,sZ.out,vr.out,wG.out⟩)
 case measure=>simp[RowKit.intOf];omega):p:=h
theorem aoU{p:Prop}(h:p:=by
 have nC:ew.size=0:=j2.zero.2 az
 have hW:¬0<(ew.size:Int):=z
 have hK:=cJ.out.x.c2
 have cC:=cJ.out.x.ai (i:=1)
 have dC:=cJ.out.x.ai (i:=2)
 go_wp2
 have Gp:=cJ.out.k
 rw[show wrap64 (eF:Int)=(eF:Int)from Q4 _ ⟨z,z⟩]
 refine⟨⟨m/10,eF,ek,?_,z,z⟩,?_⟩
 ·have:=cJ.out.step vU (H7 _ _) nz
  exact this
 ·have:=(cJ.out.step vU (H7 _ _) nz).x.c2
  simp only[this,c2]
  omega):p:=h
theorem aou{p:Prop}(h:p:=by
 have nC:ew.size=0:=j2.zero.2 az
 have hW:¬0<(ew.size:Int):=z
 have hK:=cJ.out.x.c2
 have cC:=cJ.out.x.ai (i:=1)
 have dC:=cJ.out.x.ai (i:=2)
 go_wp2
 have Gp:=cJ.out.k
 rw[show wrap64 (eF:Int)=(eF:Int)from Q4 _ ⟨z,z⟩]
 refine⟨⟨m/10,eF,ek,?_,z⟩,?_⟩
 ·have:=cJ.out.step vU (H7 _ _) nz
  exact this
 ·have:=(cJ.out.step vU (H7 _ _) nz).x.c2
  simp only[this,c2]
  omega):p:=h
theorem ach{p:Prop}(h:p:=by
 go_enter func190,ntmps190
 go_wp2_with (go_at_call 278;refine(k8.out _ (Su _ _ _)).mono ?_;rintro e w' ⟨⟨P2,rfl⟩,YV,rfl⟩)
 all_goals(go_ret;exact⟨rfl,(Su _ _ _).trans (rq.K ⟨YV,rfl⟩ _)⟩)):p:=h
theorem aoQ{p:Prop}(h:p:=by
 go_ret
 rw[gy,vf]at qS
 have E0:Below w.heap.size w gI:=(xS.alloc xS.size _).grown qQ (c6 xS.size cu.size) (fun g ar=>by simp[Value.ownBlock]at ar;subst ar;exact xS.size)
 obtain⟨mH,si,cg,aAD,jF,m8,jd⟩:=aIu (l:=q) qS rfl aq
 cases cg
 exact⟨⟨_,_,_,q,by first|rfl|simp,aAD,zD,jF,m8,fun x aa=>by cases aa;exact jd⟩,E0⟩):p:=h
theorem aog{p:Prop}(h:p:=by
 go_wp2_with (go_at_call 200;(with_reducible refine(Ec _ _ _ cJ.out.t (rk cJ.out.n al)).mono ?_);rintro e gI ⟨rfl,rfl⟩)
 refine bodyPost_ret (by simp[results,results403,go_sem,gg,cr];rfl) rfl ?_
 exact⟨⟨_,_,rfl,Ve false cJ.out.n cJ.out.k xV.out _ aq,cJ.out.k,z,kG⟩,(cJ.out.b.setCell (p:=⟨b0,0,none⟩) cJ.out.g.2.1 _).setCell (p:=⟨b0,1,none⟩) cJ.out.g.2.1 _⟩):p:=h
theorem aov{p:Prop}(h:p:=by
 go_wp2_with (go_at_call 200;(with_reducible refine(Ec _ _ _ cJ.out.t (rk cJ.out.n al)).mono ?_);rintro e gI ⟨rfl,rfl⟩)
 refine bodyPost_ret (by simp[results,results403,go_sem,gg,cr];rfl) rfl ?_
 exact⟨⟨_,_,rfl,Ve true cJ.out.n cJ.out.k xV.out _ aq,cJ.out.k,z,kG⟩,(cJ.out.b.setCell (p:=⟨b0,0,none⟩) cJ.out.g.2.1 _).setCell (p:=⟨b0,1,none⟩) cJ.out.g.2.1 _⟩):p:=h
theorem aoa{p:Prop}(h:p:=by
 first
  |(
    go_roundw
    case rel=>first|exact⟨k+1,z,bz,gz.out (lh.1 (by simp_all)),b3 bg bq⟩|((repeat apply Exists.intro);refine⟨?_,rfl⟩;exact⟨k+1,z,bz,gz.out (lh.1 (by simp_all)),b3 bg bq⟩)
    case measure=>simp[RowKit.intOf];omega)
  |(go_ret;exact⟨⟨_,rfl,aq,fun e=>absurd e (g8.out fun aI=>by have:=lh.2 aI;simp_all)⟩,b3 bg bq⟩)):p:=h
theorem apq{p:Prop}(h:p:=by
 go_wp2_with (go_at_call 200;(with_reducible refine(Ec _ _ _ cJ.out.t (rk cJ.out.n al)).mono ?_);rintro e gI ⟨rfl,rfl⟩)
 refine bodyPost_ret (by simp[results,results403,go_sem,gg,cr];rfl) rfl ?_
 exact⟨⟨_,_,rfl,Ve false cJ.out.n cJ.out.k xV.out _ aq,cJ.out.k⟩,(cJ.out.b.setCell (p:=⟨b0,0,none⟩) cJ.out.g.2.1 _).setCell (p:=⟨b0,1,none⟩) cJ.out.g.2.1 _⟩):p:=h
theorem aoN{p:Prop}(h:p:=by
 go_wp2_with (go_at_call 200;(with_reducible refine(Ec _ _ _ cJ.out.t (rk cJ.out.n al)).mono ?_);rintro e gI ⟨rfl,rfl⟩)
 refine bodyPost_ret (by simp[results,results403,go_sem,gg,cr];rfl) rfl ?_
 exact⟨⟨_,_,rfl,Ve true cJ.out.n cJ.out.k xV.out _ aq,cJ.out.k⟩,(cJ.out.b.setCell (p:=⟨b0,0,none⟩) cJ.out.g.2.1 _).setCell (p:=⟨b0,1,none⟩) cJ.out.g.2.1 _⟩):p:=h
theorem acf{p:Prop}(h:p:=by
 go_enter VX,ntmps211
 go_wp2_with (first
  |(go_at_call 66;(with_reducible refine(bP.out _).mono ?_);rintro e ap ⟨rfl,bu⟩;have ex:=A (b3 T.h bu)))
 go_ret
 exact⟨rfl,ex.out⟩):p:=h
theorem aos{p:Prop}(h:p:=by
 go_wp2
 refine bodyPost_ret (j5 (fn:=f482) rfl _ _ (w.heap.size+1) 44 _ (0,0) _ _ rfl rfl (iJ ec.o _ _ _ _ _ _ _) k2 rfl jk) rfl ?_
 exact⟨e_.put (base:=am.drew.heap.size) ⟨_,_,_,_,_,_,_,_,_,_,_,_,rfl,oF,lD,l3⟩ (show w.heap.size+1<am.heap.size from dO) (show w.heap.size≤am.heap.size by omega),iU ec.b z _ _ _ _ _ _ _⟩):p:=h
theorem Kd{p:Prop}(h:p:=by
 go_wp2
 go_ret
 exact⟨⟨_,rfl,aq,fun e=>absurd e g8.out⟩,bl _ _⟩):p:=h
theorem apb{p:Prop}(h:p:=by
 go_wp2_with (first
  |(go_at_call 123;((with_reducible refine(bp.out _).mono ?_);rintro e w' ⟨rfl,rfl⟩))
  |(go_at_call 123;((with_reducible refine(bP.out _).mono ?_);rintro e w' ⟨rfl,rfl⟩))
  |(go_at_call 121;((with_reducible refine(ia.out _).mono ?_);rintro e w' ⟨⟨t,rfl,J,az⟩,G⟩)))
 go_ret
 exact⟨⟨t,rfl,J,az⟩,G⟩):p:=h
theorem ao7{p:Prop}(h:p:=by
 go_wp2_with (first
  |(go_at_call 123;((with_reducible refine(bp.out _).mono ?_);rintro e w' ⟨rfl,rfl⟩))
  |(go_at_call 123;((with_reducible refine(bP.out _).mono ?_);rintro e w' ⟨rfl,rfl⟩))
  |(go_at_call 121;((with_reducible refine(ia.out _).mono ?_);rintro e w' ⟨⟨t,rfl,J⟩,G⟩)))
 go_ret
 exact⟨⟨t,rfl,J⟩,G⟩):p:=h
theorem ao9{p:Prop}(h:p:=by
 have G:=ahO t.data.toList k z
 have ax:=A (ahP t k au)
 have O:=Rs t[k]
 generalize J:aZ (t.data.toList.take k)=v at*
 clear J
 go_wp2
 go_round
 case rel=>exact⟨k+1,z,bz,by rw[ax.out];go_num⟩
 case measure=>simp[RowKit.intOf];omega):p:=h
theorem an1{p:Prop}(h:p:=by
 obtain rfl:j=l.length:=z
 have jh:¬(l.length:Int)<l.length:=z
 rw[sL]at cy
 obtain⟨be,aW,rfl,dE⟩:=b'.aG z
 go_wp2
 go_ret
 exact⟨⟨_,_,r,rfl,fz.low (fun _ _=>trivial) (fun _ _ _ h=>aR.low (fun _ _=>trivial) h) dE,cy⟩,G⟩):p:=h
theorem aoH{p:Prop}(h:p:=by
 clear dm
 go_wp2
 go_roundw
 case rel=>first|exact⟨k+1,E,z,bz,jE,cp,hw,vM,N4⟩|((repeat apply Exists.intro);refine⟨?_,rfl⟩;exact⟨k+1,E,z,bz,jE,cp,hw,vM,N4⟩)
 case measure=>simp[RowKit.intOf];omega):p:=h
theorem apa{p:Prop}(h:p:=by
 go_quiet (fail)
 have ub:=A (wy.out.K (below_drewN (bl bh.heap.size bh) nq))
 have qA:=A (below_drewN i7.out nq)
 clear wy i7 c1 c3 dn fy
 generalize bh.drewN nq=bc at*
 go_wp2
 exact gi.out ub.out z qA.out):p:=h
theorem aoG{p:Prop}(h:p:=by
 go_wp2
 go_roundw
 case rel=>first|exact⟨k+1,z,bz,gz.out (sT.out.1 (by trivial)),i7.out⟩|((repeat apply Exists.intro);refine⟨?_,rfl⟩;exact⟨k+1,z,bz,gz.out (sT.out.1 (by trivial)),i7.out⟩)
 case measure=>simp[RowKit.intOf];omega):p:=h
theorem Pn{p:Prop}(h:p:=by
 go_ret
 exact⟨rfl,rfl⟩):p:=h
theorem aoD{p:Prop}(h:p:=by
 go_enter func563,ntmps563
 go_wp2_with (go_at_call 66;(with_reducible refine(bp.out).mono ?_);rintro e am ⟨⟨cr,rfl,_⟩,aV⟩;have ep:=T.K aV;have eQ:=aN 0 ep.p;have cu:=A (b3 jn aV))
 go_ret
 exact⟨⟨_,rfl⟩,cu.out⟩):p:=h
theorem aoJ{p:Prop}(h:p:=by
 go_wp2
 go_roundw
 case rel=>first|exact⟨k+1,l,z,bz,L,eh.out,jZ.out,co.out,az⟩|((repeat apply Exists.intro);refine⟨?_,rfl⟩;exact⟨k+1,l,z,bz,L,eh.out,jZ.out,co.out,az⟩)
 case measure=>simp[RowKit.intOf];omega):p:=h
theorem aEF{p:Prop}(h:p:=by
 clear gA ga g2 aao Oo bJ
 go_wp2
 go_roundw
 case rel=>first|exact⟨m+1,z,bz,lS,gn⟩|((repeat apply Exists.intro);refine⟨?_,rfl⟩;exact⟨m+1,z,bz,lS,gn⟩)
 case measure=>simp[RowKit.intOf];omega):p:=h
theorem apo{p:Prop}(h:p:=by
 refine bodyPost_ret (by simp[results,afj,go_sem,gg,cr,dy];rfl) rfl ?_
 exact⟨⟨t,rfl,aj⟩,((hR.out.setCell (p:=⟨cF,0,none⟩) bI.out _).setCell (p:=⟨cF,1,none⟩) bI.out _).setCell (p:=⟨cF,2,none⟩) bI.out _⟩):p:=h
theorem apj{p:Prop}(h:p:=by
 rw[←wA.out]at RG
 go_roundw
 case rel=>first|exact⟨i+1,z,bz,RG.out,E0.out⟩|((repeat apply Exists.intro);refine⟨?_,rfl⟩;exact⟨i+1,z,bz,RG.out,E0.out⟩)
 case measure=>simp[RowKit.intOf];omega):p:=h
theorem aoX{p:Prop}(h:p:=by
 go_enter func537,ntmps537
 go_wp2_with (go_at_call 422;(with_reducible refine(bp.out _ _).mono ?_);rintro e am ⟨rfl,rfl⟩;rw[ak])
 go_ret2
 exact⟨⟨0,false,rfl,fun h=>by simp at h⟩,rfl⟩):p:=h
theorem aoi{p:Prop}(h:p:=by
 have aE:((((s[k]'au).toNat:Nat):Int)==0)=true:=by assumption
 go_round
 case rel=>exact⟨k+1,z,bz,as6 az.out (by rw[Yb s k au,aiv aE])⟩
 case measure=>simp[RowKit.intOf];omega):p:=h
theorem an8{p:Prop}(h:p:=by
 go_wp2
 refine⟨⟨j+1,x.tdiv 10,_,?_,rfl,?_,rfl,tw,h5,z,G.alloc G.size _⟩,?_⟩
 ·rw[KZ,jf,V];omega
 ·congr 1;omega
 ·simp only[RowKit.intOf];omega):p:=h
theorem aoq{p:Prop}(h:p:=by
 have:n=1∨n=2∨n=3∨n=4∨n=5∨n=6∨n=7∨n=8∨n=9∨n=10∨n=11∨n=12:=z
 rcases this with rfl|rfl|rfl|rfl|rfl|rfl|rfl|rfl|rfl|rfl|rfl|rfl
 all_goals(intro w;kernel_rfl)):p:=h
theorem aoj{p:Prop}(h:p:=by
 obtain⟨a',eT,cg,g'⟩:=b'.Um o2
 cases cg
 go_wp2
 go_ret
 exact⟨⟨_,_,l,rfl,z,(g'.low fun b G=>c6 (rj _) G),ge.out⟩,cd.b⟩):p:=h
theorem apm{p:Prop}(h:p:=by
 go_wp2_with (go_at_call 28;refine gi.out.mono ?_;rintro e bh ⟨⟨im,rfl,lh⟩,bq⟩;have sT:=A lh;clear lh)
 go_ret
 exact⟨⟨_,rfl,sT.out⟩,bq⟩):p:=h
theorem aoT{p:Prop}(h:p:=by
 go_ret
 exact⟨⟨_,rfl,fun e=>by rw[uc.out.1 (by trivial),L2.out.1 e],fun e=>by injection e with _ _ _ _ _ _ kS;exact L2.out.2 kS⟩,ex.out⟩):p:=h
theorem an5{p:Prop}(h:p:=by
 go_wp2
 go_ret
 exact⟨⟨_,rfl,aq,fun e=>by injection e with _ _ _ _ _ jQ _;exact absurd (uc.out.2 jQ) aq⟩,cu.out⟩):p:=h
theorem apc{p:Prop}(h:p:=by
 unfold N.cG
 split
 ·kernel_rfl
 split
 ·kernel_rfl
 split
 ·kernel_rfl
 split
 ·kernel_rfl
 split
 ·kernel_rfl
 ·kernel_rfl):p:=h
theorem an4{p:Prop}(h:p:=by
 go_wp2
 go_ret
 exact⟨⟨_,rfl,aq,fun e=>absurd e (g8.out fun aI=>by have:=sT.out.2 aI;simp_all)⟩,i7.out⟩):p:=h
theorem aoc{p:Prop}(h:p:=by
 clear hU qT h
 go_wp2
 go_ret
 exact⟨⟨_,_,rfl,dm,eE,kH.take _,by rw[mw];omega⟩,rfl⟩):p:=h
theorem aoC{p:Prop}(h:p:=by
 go_wp2
 go_ret
 exact⟨⟨_,rfl,aq,fun e=>by injection e with _ _ _ _ h2 _ _;exact absurd h2 cI⟩,jn⟩):p:=h
theorem ace{p:Prop}(h:p:=by simp[go_sem,bT,eW,he,jB,vA,ry,it bT,it eW,it he]):p:=h
theorem aop{p:Prop}(h:p:=by
 go_wp2
 go_ret
 exact⟨⟨_,rfl,aq,fun e=>by injection e with _ _ _ cI _ _ _;exact absurd cI bv⟩,jn⟩):p:=h
theorem aoY{p:Prop}(h:p:=by
 have avr:=A abh
 clear abh TT
 go_wp2
 go_ret2
 exact⟨by unfold vu;rw[←avr.out];rfl,rfl⟩):p:=h
theorem an9{p:Prop}(h:p:=by
 go_wp2
 go_ret
 exact⟨⟨_,rfl,aq,fun e=>by injection e with _ _ bv _ _ _ _;exact absurd bv aI⟩,jn⟩):p:=h
theorem aEH{p:Prop}(h:p:=by
 go_wp2
 go_roundw
 case rel=>exact⟨k+1,z,bz,_,rfl⟩
 case measure=>simp[RowKit.intOf];omega):p:=h
theorem ab9{p:Prop}(h:p:=by simp[go_sem,bT,eW,he,c4,c5,fe,it bT,it eW,it he]):p:=h
theorem ao'{p:Prop}(h:p:=by
 go_wp2
 go_ret
 exact⟨⟨_,rfl,aq,fun e=>by injection e with _ aI _ _ _ _ _;exact absurd aI ak⟩,jn⟩):p:=h
theorem aon{p:Prop}(h:p:=by
 go_wp2
 go_ret
 exact⟨⟨_,rfl,aq,fun e=>by injection e with ak _ _ _ _ _ _;exact absurd ak dA⟩,jn⟩):p:=h
theorem aoy{p:Prop}(h:p:=by
 go_wp2
 exact⟨⟨k+1,z,bz,kp.mono fun i _=>aqs W C n k m i,iP⟩,by simp[RowKit.intOf];omega⟩):p:=h
theorem an7{p:Prop}(h:p:=by
 go_wp2
 all_goals
  go_ret
  exact⟨⟨none,_,rfl,aq,fun af=>absurd af aq⟩,bl _ _⟩):p:=h
theorem ao6{p:Prop}(h:p:=by
 go_ret
 exact⟨⟨_,_,rfl,aq,fun af=>absurd af aq⟩,(bl _ _).alloc (aY _) _⟩):p:=h
theorem apd{p:Prop}(h:p:=by
 go_ret
 exact⟨⟨_,rfl,by rw[KZ];exact H8 1 _⟩,ex.out⟩):p:=h
theorem api{p:Prop}(h:p:=by
 go_enter func516,ntmps516
 go_wp2
 go_ret
 exact⟨by simp[h],rfl⟩):p:=h
theorem apg{p:Prop}(h:p:=by
 go_ret
 exact⟨⟨_,rfl,by first|(simp only[SC,o'];simp)|simp[o']⟩,jx.out⟩):p:=h
theorem acb{p:Prop}(h:p:=by
 go_wp2
 go_ret
 exact⟨⟨_,rfl⟩,co⟩):p:=h
theorem aoz{p:Prop}(h:p:=by
 refine cy.out _ _ ⟨(cu.cell pc).trans fe,(cu.cell OC).trans cl,(cu.cell q2).trans dr,(cu.cell JR).trans ek⟩ (fun ko=>?_)
 clear cy cf
 refine ix ?_
 refine pg 29 (fun cf cy=>?_)
 go_simp
 go_at_call 295
 refine(sS.out _ cu y3).mono ?_
 rintro e w7 ⟨⟨Ew,KC,rfl,OT,vV,kU⟩,ha⟩
 have fJ:=b3 cu ha
 have aiD:=aA fJ Pe Dt
 exact aoB):p:=h
theorem aow{p:Prop}(h:p:=by
 refine cy.out _ _ ⟨(cu.cell C0).trans bI,(cu.cell JT).trans uq⟩ (fun ko=>?_)
 clear cy cf
 refine ix ?_
 refine pg 15 (fun cf cy=>?_)
 go_simp
 have ex:=cu.alloc cu.size (.cells #[.slice (some ⟨wr.heap.size,0,none⟩) ai ai] 264)
 exact aoZ):p:=h
theorem aEG{p:Prop}(h:p:=by
 obtain⟨k,Q,rfl⟩:=hrel
 by_cases au:k<s.size
 ·obtain⟨a,b⟩:=ay.out k au
  have jh:(k:Int)<s.size:=z
  have c1:¬(s[k].toNat:Int)<32:=z
  have c2:¬126<(s[k].toNat:Int):=z
  exact aEO
 ·have jh:¬(k:Int)<s.size:=z
  go_wp2
  exact Pn):p:=h
end Go
