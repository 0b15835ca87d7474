/- ItemLatest, one part of the proof. -/
import Derived.KernelRfl
import Derived.Calls
import Derived.Below
import Derived.BigQuiet
import Derived.Deep.AppendLies
import Derived.Deep.CutBlock
import Derived.Deep.DeepCutAuto
import Derived.Deep.QuietTactic
import Derived.Deep.RegionHeld3
import Derived.Deep.RegionLaw
import Derived.Deep.Upon
import Derived.Defers
import Derived.Laws.IdiomStrings
import Derived.Laws.OwnMore
import Derived.Laws.Pointers
import Derived.Lib.Hide
import Derived.Lib.IndexBytes
import Derived.Lib.ItoaNum
import Derived.Lib.Join
import Derived.Lib.SlBytesRow
import Derived.Lib.SmallJoins
import Derived.LoopIn
import Derived.LoopNIn
import Derived.OneCell
import Derived.OwnWalkIn
import Derived.RangeFuncBox
import Derived.RangeFuncLeaves
import Derived.RangeFuncWrites
import Derived.Recover
import Derived.StillTailTactics
import Derived.TacticsInMore
import Derived.WalkKit
import Derived.WalkLawsBesides
import Derived.WalkSpells
import Derived.Laws.Sem
import Derived.IntWalk
import Derived.Laws.StructEq
import Derived.Laws.BytesString
import Derived.Lib.UnsafeStr
import Derived.Lib.Bytealg
import Derived.Lib.MakeNoZero
import Derived.Shelf.SortM.Plain
import Derived.Shelf.SortM.SortNone
import Derived.Ground.SlgmProg
import Derived.Laws.Rows
import Derived.Laws.AppendOwn
import Derived.Deep.AppendSrc
import Derived.Laws.IdiomCopy
import Derived.Shelf.LaySoft
import Derived.Shelf.Strings.Builder1
import Derived.Shelf.Strings.OnBuilder
import Derived.Shelf.Strings.BuilderK
import Derived.Shelf.Strings.Count
import Derived.Shelf.Strconv.Itoa0
import Derived.Shelf.Strconv.Itoa1
import Derived.Shelf.LaysM
import Derived.Shelf.Strconv.Itoa2
import Derived.Shelf.Strconv.Itoa3
import Derived.Shelf.Abstract
import Derived.Maps.AppendAt
import Derived.Sort.OwnSortedInts
import Derived.Maps.OwnSet
import Derived.Maps.Views
import Derived.Maps.OwnOps
import Derived.WideKeyPair
import Derived.DeepKeys4
import Derived.Lib.AppendIntMem
import Derived.Test.YtdioggbficfibaaGreatDoorProg
set_option linter.all false
set_option maxRecDepth 100000
set_option maxHeartbeats 16000000
namespace Go
open Go.RowKit
instance:CoeOut World Nat:=⟨fun w=>w.heap.size⟩
instance{α:Type _}:CoeOut (List α) Nat:=⟨List.length⟩
instance:CoeOut Nat Value:=⟨fun n=>.int .i64 n⟩
instance:CoeOut Int Value:=⟨fun n=>.int .i64 n⟩
instance:CoeOut ByteArray Value:=⟨.string⟩
def G:=@Go.Lib.hid
def aZ:=@Nat.le_refl
def br:=@Go.RowKit.Below.refl
def bs:=@if_neg
def co:=@if_pos
def cq:=@Option.some.injEq
def cO:=@Nat.le_trans
def dx:=@Nat.zero_le
def dQ:=@Bool.and_eq_true
def eP:=@cond_true
def eW:=@Go.Result.andThen_ok
def eZ:=@Go.Sem.run_bind
def fJ:=@Go.Sem.run_pure
def fP:=@List.getElem_mem
def gl:=@List.mem_cons
def gx:=@Nat.eq_of_beq_eq_true
def gP:=@Nat.zero_add
def gQ:=@Option.some.inj
def g6:=@Array.getElem?_eq_some_iff
def g_:=@Go.RowKit.Below.heap_setCell
def g':=@trivial
def hH:=@Nat.le_of_ble_eq_true
def hT:=@Go.Joins.block_setCell
def hU:=@congrArg
def h6:=@List.all_eq_true
def h7:=@Nat.add_zero
def h8:=@Ne.symm
def ia:=@List.length_append
def im:=@Go.info_parts
def iz:=@Option.map_eq_some_iff
def iA:=@Prod.mk.injEq
def iK:=@Nat.lt_of_lt_of_le
def jt:=@cond_false
def jC:=@Array.length_toList
def jD:=@List.mem_cons_of_mem
def jT:=@Go.bodyPost_ret
def jU:=@List.getElem?_eq_getElem
def kM:=@List.not_mem_nil
def kN:=@Nat.add_assoc
def kO:=@Nat.pow_le_pow_right
def k2:=@List.getElem?_eq_some_iff
def ln:=@Go.wpList_append_own
def lo:=@List.mem_append
def lp:=@beq_eq_false_iff_ne
def l6:=@Go.step_lone_go
def l7:=@List.length_cons
def mT:=@Go.World.ownsRow_nil
def nt:=@Go.World.cell?_of_block
def nu:=@List.length_take
def nv:=@List.mem_map
def n4:=@List.getElem?_map
def n6:=@Option.map_some
def ox:=@if_true
def oY:=@Go.Proofs.Tryz.underlying22
def oZ:=@List.getElem?_take
def o0:=@List.mem_singleton
def pw:=@Go.IntWalk.i64_in
def px:=@Go.heap_alloc_new
def py:=@Go.rounds_succ
def pz:=@if_false
def p6:=@Go.wpAnyH_take
def p7:=@List.cons.injEq
def p8:=@List.getD_eq_getElem?_getD
def p9:=@List.take_succ_eq_append_getElem
def p_:=@Nat.lt_of_le_of_lt
def qM:=@Bool.false_eq_true
def qN:=@List.length_drop
def qO:=@List.map_cons
def qP:=@List.mem_cons_self
def qQ:=@Nat.le_succ
def qR:=@Nat.mul_le_mul_right
def rz:=@Go.Proofs.Tryz.underlying3
def rA:=@Go.World.news_of_block
def rB:=@Go.wpStill_nil
def se:=@Go.Proofs.Tryz.underlying126
def sf:=@List.append_nil
def tj:=@Go.Steps.trans
def tk:=@List.take_length
def tl:=@Nat.add_comm
def tm:=@Nat.mul_one
def uG:=@Go.World.cell?_setCell_far
def uH:=@Go.wp_region_still_lit
def uI:=@List.getElem?_eq_none
def uJ:=@List.length_nil
def uK:=@List.take_of_length_le
def uL:=@Nat.zero_mul
def wK:=@Nat.ne_of_lt
def xT:=@Array.ext'
def xU:=@Array.getElem?_toList
def xV:=@Go.Proofs.Tryz.underlying5
def xW:=@List.getElem_append_left
def xX:=@List.getElem_append_right
def xY:=@List.map_append
def xZ:=@List.mem_range
def x0:=@Nat.add_mul
def x1:=@Nat.lt_or_ge
def x2:=@or_false
def zr:=@List.length_set
def zt:=@List.nil_append
def zu:=@Nat.mod_lt
def zv:=@Nat.mul_le_mul
def zw:=@Nat.pow_succ
def Bk:=@Array.getElem?_setIfInBounds
def Bl:=@Array.getElem?_setIfInBounds_ne
def Bm:=@Go.ByteArray.toList_eq
def Bn:=@Go.wp_loop_rounds
def Bo:=@List.flatMap_cons
def Bp:=@List.getElem_cons_zero
def Bq:=@List.length_singleton
def Br:=@Nat.le_of_lt
def Bs:=@Nat.mod_eq_of_lt
def Bt:=@and_true
def CT:=@Go.AllReadyH.cons
def CU:=@Go.RowKit.Below.heap_alloc
def CV:=@Go.wp_region_held_drew
def CW:=@List.eq_nil_of_length_eq_zero
def CX:=@List.getElem?_append_left
def CY:=@List.mem_of_getElem?
def CZ:=@List.take_append_drop
def C0:=@Nat.succ_pos
def C1:=@Option.bind_some
def Fl:=@Go.Addr.add_lit
def Fm:=@Go.Value.slice.injEq
def Fo:=@Go.run_program
def Fp:=@Go.wpAnyH_done
def Fq:=@Int.natCast_mul
def Fr:=@Int.ofNat_eq_natCast
def Fs:=@List.getElem?_append_right
def Ft:=@List.mem_iff_getElem?
def Fu:=@Nat.lt_succ_of_le
def Fv:=@Nat.lt_succ_self
def Fw:=@Nat.mul_add
def Fx:=@Nat.mul_assoc
def Fy:=@true_and
def Ip:=@Go.Proofs.Tryz.func407
def Iq:=@Go.Proofs.Tryz.func53
def Ir:=@Go.Proofs.Tryz.ntmps407
def Is:=@Go.Proofs.Tryz.underlying23
def It:=@Go.Proofs.Tryz.underlying39
def Iu:=@Go.Sem.runT_eq
def Iv:=@Go.Value.int.injEq
def Iw:=@Go.Value.string.injEq
def Ix:=@List.append_assoc
def Iy:=@List.drop_eq_getElem_cons
def Iz:=@List.flatMap_append
def IA:=@List.getElem_cons_succ
def IB:=@List.getElem_set_self
def IC:=@List.length_map
def ID:=@List.map_nil
def IE:=@List.mem_filter
def IF:=@List.mem_iff_getElem
def IG:=@Nat.div_le_self
def IH:=@Nat.le_add_right
def II:=@Nat.mul_comm
def IJ:=@Nat.pow_pos
def Ly:=@ByteArray.ext
def Lz:=@ByteArray.size_append
def LA:=@Go.Maps.keyOf_int_mk
def LB:=@Go.Proofs.Tryz.func476
def LC:=@Go.Proofs.Tryz.ntmps476
def LD:=@Go.Proofs.Tryz.ntmps53
def LF:=@Go.Proofs.Tryz.underlying101
def LG:=@Go.Proofs.Tryz.underlying44
def LH:=@Go.Proofs.Tryz.underlying9
def LI:=@Go.below_drewN
def LJ:=@Go.step_append_lies
def LK:=@Int.tdiv_eq_ediv_of_nonneg
def LL:=@List.any_eq_true
def LM:=@List.drop_zero
def LN:=@List.foldl_cons
def LO:=@List.getElem?_drop
def LP:=@List.getElem_singleton
def LQ:=@List.length_eq_zero_iff
def LR:=@List.length_reverse
def LS:=@List.mapM_cons
def LU:=@List.map_map
def LV:=@List.range_succ
def LW:=@Nat.beq_refl
def LX:=@Nat.ble_eq
def LY:=@Option.getD_some
def LZ:=@of_decide_eq_true
def Q0:=@Array.ext_getElem?
def Q1:=@Array.getElem?_push
def Q2:=@Bool.not_false
def Q3:=@Bool.or_eq_false_iff
def Q4:=@Bool.or_eq_true
def Q5:=@Go.AllReadyH.nil
def Q6:=@Go.IntWalk.wrap64_in
def Q7:=@Go.Proofs.Tryz.func108
def Q8:=@Go.Proofs.Tryz.func205
def Q9:=@Go.Proofs.Tryz.func270
def Q_:=@Go.Proofs.Tryz.func395
def Q':=@Go.Proofs.Tryz.func560
def Ra:=@Go.Proofs.Tryz.ntmps560
def Rb:=@Go.Proofs.Tryz.underlying40
def Rc:=@Go.Proofs.Tryz.underlying66
def Re:=@Go.RowKit.Below.alloc
def Rf:=@Go.run_convert_bytes_arg
def Rg:=@Go.strOfNums_size
def Rh:=@Go.wpAnyH_ready
def Ri:=@Go.wpList_append_lies
def Rj:=@Int.toNat_natCast
def Rk:=@List.drop_eq_nil_of_le
def Rl:=@List.ext_getElem?
def Rm:=@List.flatMap_nil
def Rn:=@List.getElem_set_ne
def Ro:=@List.mem_flatMap
def Rp:=@List.mem_nil_iff
def Rq:=@List.mem_of_mem_take
def Rr:=@List.pairwise_cons
def Rs:=@List.pairwise_iff_getElem
def Rt:=@Nat.add_sub_cancel
def Ru:=@Nat.eq_zero_or_pos
def Rv:=@Nat.one_mul
def Rw:=@UInt8.toNat_lt
def V1:=@UInt8.toNat_ofNat'
def V2:=@Array.getElem?_eq_none
def V3:=@Array.getElem?_modify
def V4:=@Array.getElem_setIfInBounds
def V5:=@Bool.eq_false_or_eq_true
def V6:=@Go.Maps.has_put_same
def V7:=@Go.Proofs.Tryz.func110
def V8:=@Go.Proofs.Tryz.func132
def V9:=@Go.Proofs.Tryz.func190
def V_:=@Go.Proofs.Tryz.func202
def V':=@Go.Proofs.Tryz.func43
def Wa:=@Go.Proofs.Tryz.func474
def Wb:=@Go.Proofs.Tryz.func475
def Wc:=@Go.Proofs.Tryz.ntmps108
def Wd:=@Go.Proofs.Tryz.ntmps205
def We:=@Go.Proofs.Tryz.ntmps270
def Wf:=@Go.Proofs.Tryz.ntmps395
def Wg:=@Go.Proofs.Tryz.ntmps474
def Wh:=@Go.Proofs.Tryz.ntmps475
def Wi:=@Go.Proofs.Tryz.results118
def Wj:=@Go.Proofs.Tryz.underlying42
def Wk:=@Go.World.block_lt_of_cell?
def Wl:=@Go.World.cell?_setCell_other
def Wm:=@Go.run_convert_bytes_nil
def Wn:=@Go.strOfNums_data
def Wo:=@Go.wpList_mapUpdate_own
def Wp:=@Int.tmod_lt_of_pos
def Wq:=@List.cons_append
def Wr:=@List.drop_succ_cons
def Ws:=@List.getElem?_toArray
def Wt:=@List.getElem_of_mem
def Wu:=@List.map_take
def Wv:=@List.map_toArray
def Ww:=@List.mem_zipIdx_iff_getElem?
def Wx:=@Nat.ble_eq_true_of_le
def Wy:=@Nat.lt_irrefl
def Wz:=@Nat.lt_trans
def WA:=@Nat.lt_trichotomy
def WB:=@Nat.min_eq_left
def WC:=@Nat.pos_of_ne_zero
def WD:=@Nat.succ_lt_succ
def WE:=@UInt8.toNat_inj
def WF:=@decide_eq_decide
def WG:=@decide_eq_false
def aeM:=@Go.grownBy_putObj'
def aeN:=@List.range'_1_concat
def aeO:=@List.range_eq_range'
def aeP:=@UInt8.toNat_ofNat_of_lt'
def aeQ:=@Array.mapM_eq_mapM_toList
def aeR:=@Array.toList_inj
def aeS:=@Bool.not_true
def aeT:=@Function.comp_def
def aeU:=@Go.Lib.decDigits_length
def aeV:=@Go.Lib.extract_to_end
def aeW:=@Go.Lib.nDigits_small
def aeX:=@Go.Proofs.Tryz.results560
def aeY:=@Go.Proofs.Tryz.underlying27
def aeZ:=@Go.Proofs.Tryz.underlying31
def ae0:=@Go.Proofs.Tryz.underlying4
def ae1:=@Go.Sem.run_map
def ae2:=@Go.WalkArith.wf_i64
def ae3:=@Go.World.cell?_setCell_same
def ae4:=@Go.World.cell?_setCells_out
def ae5:=@Go.World.ownsMap_made
def ae6:=@Go.World.ownsRow.alloc
def ae7:=@Go.results_cell_row
def ae8:=@Go.run_underlying
def ae9:=@Go.wpList_plain
def ae_:=@Int.lt_tmod_of_pos
def ae':=@Int.natCast_add
def afa:=@List.filter_cons
def afb:=@List.flatten_append
def afc:=@List.foldl_append
def afd:=@List.getElem?_range
def afe:=@List.length_range
def aff:=@List.map_singleton
def afg:=@List.nodup_cons
def afh:=@List.pairwise_map
def afi:=@List.size_toArray
def afj:=@Nat.lt_of_not_le
def afk:=@Nat.mul_div_cancel
def afl:=@Nat.pow_add
def afm:=@Nat.sub_le
def afn:=@Nat.sub_zero
def afo:=@Nat.succ_mul
def afp:=@Option.isSome_none
def afq:=@Option.isSome_some
def afr:=@Option.map_none
def afs:=@beq_self_eq_true
def aft:=@not_true_eq_false
def afu:=@of_decide_eq_false
def asH:=@Array.all_eq_true'
def asI:=@List.mem_range'_1
def asJ:=@Array.foldl_toList
def asK:=@Array.getD_eq_getD_getElem?
def asL:=@Array.getElem?_append_left
def asM:=@Array.toArray_toList
def asN:=@Bool.or_eq_true_iff
def asO:=@ByteArray.data_extract
def asP:=@Go.Lib.run_eql_slice_nil
def asQ:=@Go.WalkArith.wf_i64
def asR:=@Go.World.frozen?_setCells
def asS:=@Go.World.heap_setCells_other
def asT:=@Go.run_convert_bytes_string
def asU:=@Go.wpList_lookup_own_ok_int
def asV:=@Int.toNat_of_nonneg
def asW:=@List.contains_iff_mem
def asX:=@List.drop_of_length_le
def asY:=@List.filter_eq_nil_iff
def asZ:=@List.flatMap_eq_nil_iff
def as0:=@List.flatten_cons
def as1:=@List.getElem_eraseIdx
def as2:=@List.length_eraseIdx
def as3:=@List.length_mergeSort
def as4:=@List.map_congr_left
def as5:=@List.mem_of_mem_drop
def as6:=@List.mergeSort_perm
def as7:=@List.nodup_append
def as8:=@List.singleton_append
def as9:=@List.take_succ_cons
def as_:=@List.zip_cons_cons
def as':=@Nat.div_le_div_right
def ata:=@Nat.le_div_iff_mul_le
def atb:=@Nat.le_mul_of_pos_right
def atc:=@Option.isSome_iff_exists
variable{p:Prop}
theorem z(h:p:=by omega):p:=h
theorem ak(h:p:=by decide):p:=h
theorem ao(h:p:=by simp):p:=h
theorem bz(h:p:=by simp;omega):p:=h
theorem dP(h:p:=by rw [Bm]; decide):p:=h
theorem av(h:p:=by kernel_rfl):p:=h
theorem bG(h:p:=by first|rfl|omega|(refine congrArg _ ?_;omega)|(simp;omega)):p:=h
variable{B b o:Nat}{w w':World}
theorem az(bk:Below B w w')(A:b<B){x:Option Value}(h:w.cell? ⟨b,o,none⟩=x):w'.cell? ⟨b,o,none⟩=x:=(bk.cell (p:=⟨b,o,none⟩) A).trans h
theorem rj(bk:Below B w w')(A:b<B){x:Bool}(h:w.frozen? ⟨b,o,none⟩=x):w'.frozen? ⟨b,o,none⟩=x:=(bk.frozen (p:=⟨b,o,none⟩) A).trans h
variable{cs:Array Value}{t:TypeId}
theorem aK(i:Nat){v:Value}(h:w.heap[b]? =some (.cells cs t (0,0)))(J:cs[i]? =some v:=by exact rfl):w.cell? ⟨b,i,none⟩=some v:=by simp[World.cell?,h,J]
theorem kg(i:Nat)(h:w.heap[b]? =some (.cells cs t (0,0))):w.frozen? ⟨b,i,none⟩=false:=by simp[World.frozen?,h]
theorem e4(w:World)(o:Obj):Below w w (w.alloc o):=(br _ _).alloc (aZ _) o
theorem lh(w:World):Below w w w.drew:=(br _ _).drew
theorem cj{am aq:World}(h:Below w w am)(k:Below am am aq):Below w w aq:=h.trans (k.mono h.size)
theorem cS(k:Below B w w')(h:b<w.heap.size):b<w'.heap.size:=iK h k.size

variable{n:Nat}{v0 dW ek v3 v4 v5 g1 nr ms v9 te tf tg xJ xK xL:Value}{l:List Value}
theorem Eg(h:∀i,i<16→w.cell? ⟨b,n+i,none⟩=(v0::dW::ek::v3::v4::v5::g1::nr::ms::v9::te::tf::tg::xJ::xK::xL::l).toArray[i]?):w.cell? ⟨b,n,none⟩=some v0∧w.cell? ⟨b,n+1,none⟩=some dW∧w.cell? ⟨b,n+2,none⟩=some ek∧w.cell? ⟨b,n+3,none⟩=some v3∧w.cell? ⟨b,n+4,none⟩=some v4∧w.cell? ⟨b,n+5,none⟩=some v5∧w.cell? ⟨b,n+6,none⟩=some g1∧w.cell? ⟨b,n+7,none⟩=some nr∧w.cell? ⟨b,n+8,none⟩=some ms∧w.cell? ⟨b,n+9,none⟩=some v9∧w.cell? ⟨b,n+10,none⟩=some te∧w.cell? ⟨b,n+11,none⟩=some tf∧w.cell? ⟨b,n+12,none⟩=some tg∧w.cell? ⟨b,n+13,none⟩=some xJ∧w.cell? ⟨b,n+14,none⟩=some xK∧w.cell? ⟨b,n+15,none⟩=some xL:=⟨h 0 (by decide),h 1 (by decide),h 2 (by decide),h 3 (by decide),h 4 (by decide),h 5 (by decide),h 6 (by decide),h 7 (by decide),h 8 (by decide),h 9 (by decide),h 10 (by decide),h 11 (by decide),h 12 (by decide),h 13 (by decide),h 14 (by decide),h 15 (by decide)⟩
theorem am7(bk:Below B w w')(A:b<B)(h:w.cell? ⟨b,n,none⟩=some v0∧w.cell? ⟨b,n+1,none⟩=some dW∧w.cell? ⟨b,n+2,none⟩=some ek∧w.cell? ⟨b,n+3,none⟩=some v3∧w.cell? ⟨b,n+4,none⟩=some v4∧w.cell? ⟨b,n+5,none⟩=some v5∧w.cell? ⟨b,n+6,none⟩=some g1∧w.cell? ⟨b,n+7,none⟩=some nr∧w.cell? ⟨b,n+8,none⟩=some ms∧w.cell? ⟨b,n+9,none⟩=some v9∧w.cell? ⟨b,n+10,none⟩=some te∧w.cell? ⟨b,n+11,none⟩=some tf∧w.cell? ⟨b,n+12,none⟩=some tg∧w.cell? ⟨b,n+13,none⟩=some xJ∧w.cell? ⟨b,n+14,none⟩=some xK∧w.cell? ⟨b,n+15,none⟩=some xL):w'.cell? ⟨b,n,none⟩=some v0∧w'.cell? ⟨b,n+1,none⟩=some dW∧w'.cell? ⟨b,n+2,none⟩=some ek∧w'.cell? ⟨b,n+3,none⟩=some v3∧w'.cell? ⟨b,n+4,none⟩=some v4∧w'.cell? ⟨b,n+5,none⟩=some v5∧w'.cell? ⟨b,n+6,none⟩=some g1∧w'.cell? ⟨b,n+7,none⟩=some nr∧w'.cell? ⟨b,n+8,none⟩=some ms∧w'.cell? ⟨b,n+9,none⟩=some v9∧w'.cell? ⟨b,n+10,none⟩=some te∧w'.cell? ⟨b,n+11,none⟩=some tf∧w'.cell? ⟨b,n+12,none⟩=some tg∧w'.cell? ⟨b,n+13,none⟩=some xJ∧w'.cell? ⟨b,n+14,none⟩=some xK∧w'.cell? ⟨b,n+15,none⟩=some xL:=by
 have k:=fun(i:Nat)=>bk.cell (p:=⟨b,i,none⟩) A;simpa only[k]using h

theorem h_{q:Prop}(k:q)(h:q=p:=by(try simp only[Act.put,List.setIfInBounds_toArray,List.set_cons_zero,List.set_cons_succ]);rfl):p:=h▸k

theorem jV(h:w.heap[b]? =some (.cells (v0::dW::l).toArray t (0,0))):w.cell? ⟨b,0,none⟩=some v0∧w.cell? ⟨b,1,none⟩=some dW:=by simp[World.cell?,h]
theorem yp(h:w.heap[b]? =some (.cells (v0::dW::ek::l).toArray t (0,0))):w.cell? ⟨b,0,none⟩=some v0∧w.cell? ⟨b,1,none⟩=some dW∧w.cell? ⟨b,2,none⟩=some ek:=by simp[World.cell?,h]
theorem Gf(h:w.heap[b]? =some (.cells (v0::dW::ek::v3::l).toArray t (0,0))):w.cell? ⟨b,0,none⟩=some v0∧w.cell? ⟨b,1,none⟩=some dW∧w.cell? ⟨b,2,none⟩=some ek∧w.cell? ⟨b,3,none⟩=some v3:=by simp[World.cell?,h]
theorem ai1(h:w.heap[b]? =some (.cells (v0::dW::ek::v3::v4::l).toArray t (0,0))):w.cell? ⟨b,0,none⟩=some v0∧w.cell? ⟨b,1,none⟩=some dW∧w.cell? ⟨b,2,none⟩=some ek∧w.cell? ⟨b,3,none⟩=some v3∧w.cell? ⟨b,4,none⟩=some v4:=by simp[World.cell?,h]
theorem f_(h:w.heap[b]? =some (.cells (v0::dW::ek::v3::v4::v5::l).toArray t (0,0))):w.cell? ⟨b,0,none⟩=some v0∧w.cell? ⟨b,1,none⟩=some dW∧w.cell? ⟨b,2,none⟩=some ek∧w.cell? ⟨b,3,none⟩=some v3∧w.cell? ⟨b,4,none⟩=some v4∧w.cell? ⟨b,5,none⟩=some v5:=by simp[World.cell?,h]
theorem eX(h:w.heap[b]? =some (.cells (v0::dW::ek::v3::v4::v5::g1::l).toArray t (0,0))):w.cell? ⟨b,0,none⟩=some v0∧w.cell? ⟨b,1,none⟩=some dW∧w.cell? ⟨b,2,none⟩=some ek∧w.cell? ⟨b,3,none⟩=some v3∧w.cell? ⟨b,4,none⟩=some v4∧w.cell? ⟨b,5,none⟩=some v5∧w.cell? ⟨b,6,none⟩=some g1:=by simp[World.cell?,h]
theorem Y2(h:w.heap[b]? =some (.cells (v0::dW::ek::v3::v4::v5::g1::nr::ms::v9::te::tf::tg::l).toArray t (0,0))):w.cell? ⟨b,0,none⟩=some v0∧w.cell? ⟨b,1,none⟩=some dW∧w.cell? ⟨b,2,none⟩=some ek∧w.cell? ⟨b,3,none⟩=some v3∧w.cell? ⟨b,4,none⟩=some v4∧w.cell? ⟨b,5,none⟩=some v5∧w.cell? ⟨b,6,none⟩=some g1∧w.cell? ⟨b,7,none⟩=some nr∧w.cell? ⟨b,8,none⟩=some ms∧w.cell? ⟨b,9,none⟩=some v9∧w.cell? ⟨b,10,none⟩=some te∧w.cell? ⟨b,11,none⟩=some tf∧w.cell? ⟨b,12,none⟩=some tg:=by simp[World.cell?,h]
theorem sD(h:w.heap[b]? =some (.cells (v0::dW::ek::v3::v4::v5::g1::nr::ms::v9::te::tf::tg::xJ::xK::xL::l).toArray t (0,0))):w.cell? ⟨b,0,none⟩=some v0∧w.cell? ⟨b,1,none⟩=some dW∧w.cell? ⟨b,2,none⟩=some ek∧w.cell? ⟨b,3,none⟩=some v3∧w.cell? ⟨b,4,none⟩=some v4∧w.cell? ⟨b,5,none⟩=some v5∧w.cell? ⟨b,6,none⟩=some g1∧w.cell? ⟨b,7,none⟩=some nr∧w.cell? ⟨b,8,none⟩=some ms∧w.cell? ⟨b,9,none⟩=some v9∧w.cell? ⟨b,10,none⟩=some te∧w.cell? ⟨b,11,none⟩=some tf∧w.cell? ⟨b,12,none⟩=some tg∧w.cell? ⟨b,13,none⟩=some xJ∧w.cell? ⟨b,14,none⟩=some xK∧w.cell? ⟨b,15,none⟩=some xL:=by simp[World.cell?,h]
theorem mD(h:w.heap[b]? =some (.cells cs t (0,0))):w.frozen? ⟨b,0,none⟩=false∧w.frozen? ⟨b,1,none⟩=false:=by simp[World.frozen?,h]
theorem JV(h:w.heap[b]? =some (.cells cs t (0,0))):w.frozen? ⟨b,0,none⟩=false∧w.frozen? ⟨b,1,none⟩=false∧w.frozen? ⟨b,2,none⟩=false:=by simp[World.frozen?,h]
theorem he(h:w.heap[b]? =some (.cells cs t (0,0))):w.frozen? ⟨b,0,none⟩=false∧w.frozen? ⟨b,1,none⟩=false∧w.frozen? ⟨b,2,none⟩=false∧w.frozen? ⟨b,3,none⟩=false∧w.frozen? ⟨b,4,none⟩=false∧w.frozen? ⟨b,5,none⟩=false∧w.frozen? ⟨b,6,none⟩=false:=by simp[World.frozen?,h]
theorem azu(h:w.heap[b]? =some (.cells cs t (0,0))):w.frozen? ⟨b,0,none⟩=false∧w.frozen? ⟨b,1,none⟩=false∧w.frozen? ⟨b,2,none⟩=false∧w.frozen? ⟨b,3,none⟩=false∧w.frozen? ⟨b,4,none⟩=false∧w.frozen? ⟨b,5,none⟩=false∧w.frozen? ⟨b,6,none⟩=false∧w.frozen? ⟨b,7,none⟩=false∧w.frozen? ⟨b,8,none⟩=false∧w.frozen? ⟨b,9,none⟩=false∧w.frozen? ⟨b,10,none⟩=false∧w.frozen? ⟨b,11,none⟩=false∧w.frozen? ⟨b,12,none⟩=false:=by simp[World.frozen?,h]

theorem r8(h:p:=by
 by_cases h:b<16;rcases pq h with rfl|rfl|rfl|rfl|rfl|rfl|rfl|rfl|rfl|rfl|rfl|rfl|rfl|rfl|rfl|rfl<;>rfl
 ·obtain⟨k,rfl⟩:∃k,b=k+16:=⟨b-16,z⟩
  rfl):p:=h
theorem aoC(h:p:=by
 refine⟨fun b x A=>?_,fun b c6 x c7 p bR A fj ag ev jm=>?_,fun b A=>?_⟩
 ·rcases mo b x A with H|⟨rfl,rfl⟩
  ·obtain⟨p,e,vs,rfl,ag,_,_,dO⟩:=base b x H
   exact⟨p,V b p ag,dO.ext V⟩
  ·refine⟨_,Oa,w1 S.bw,aiN _ _ _,?_,fun i hi=>?_⟩
   ·show w.heap[dr]? =some (Obj.cells (m7 w dr) 136 (qq w dr))
    rw[aaE,vx];exact mg
   ·show(m7 w dr)[o+i]? =_
    rw[aaE]
    exact aiK S.bw o Q i (by rw[←aiJ];exact hi)
 ·have mixed:∀b x p,(b,x)∈nF→kk b=some p→p.aY≠dr:=fun b x p H I e=>by
   obtain⟨q,aj,vs,_,aC,Z2,⟨BS,B6,dV⟩,_⟩:=base b x H
   obtain rfl:p=q:=gQ (I.symm.trans (V b q aC))
   rw[e,mg]at dV
   cases dV
   exact Z2 rfl
  rcases mo b x A with H|⟨rfl,rfl⟩<;>rcases mo c6 c7 fj with I|⟨rfl,rfl⟩
  ·obtain⟨e,vs,t,wr,rfl,q7⟩:=A6 q' H
   obtain⟨cg,Bg,i',asy,rfl,TR⟩:=A6 q' I
   obtain⟨q,aC,_⟩:=bK.aY b _ q7
   obtain⟨gE,i6,_⟩:=bK.aY c6 _ TR
   obtain rfl:p=q:=gQ (ag.symm.trans (V b q aC))
   obtain rfl:bR=gE:=gQ (ev.symm.trans (V c6 gE i6))
   exact bK.inj b c6 _ _ p bR q7 TR aC i6 jm
  rw[Oa]at ev;cases ev;exact mixed b x p H ag;rw[Oa]at ag;cases ag;exact h8 (mixed c6 c7 bR I ev);exact absurd rfl jm
 ·rw[HA]at A
  have A:22≤b:=A
  rw[AS]
  simp only
  rw[if_neg z]
  exact lZ b z):p:=h
theorem aEl(h:p:=by rcases pq h with rfl|rfl|rfl|rfl|rfl|rfl|rfl|rfl|rfl|rfl|rfl|rfl|rfl|rfl|rfl|rfl<;>rfl):p:=h
theorem aEi(h:p:=by
 refine⟨⟨fun b y aB=>?_,fun b c6 y mu p bR aB AO ag ev bT=>?_,fun b fj=>?_⟩,⟨aO,fun b H I=>?_,qQ _,A.size,fun k L _=>A.block k L,fun k D_=>?_,A.os,A.output,A.tape⟩⟩
 ·rw[og]at aB
  by_cases e:b=h.nx
  ·rw[if_pos e]at aB
   cases aB
   subst e
   exact⟨_,ee,by rw[bU];exact dO⟩
  ·rw[if_neg e]at aB
   obtain⟨p,ag,aAe⟩:=r.aY b y aB
   exact⟨p,aO b p ag,by rw[A.block p.aY (r.UG aB ag)];exact aAe.ext aO⟩
 ·rw[og]at aB AO
  by_cases e:b=h.nx
  ·have cg:c6≠h.nx:=fun q=>bT (e.trans q.symm)
   rw[if_neg cg]at AO
   have:=r.UG AO (kC c6 bR cg ev)
   subst e
   rw[ee]at ag
   cases ag
   simp only
   omega
  ·rw[if_neg e]at aB
   have H:=r.UG aB (kC b p e ag)
   by_cases cg:c6=h.nx
   ·subst cg
    rw[ee]at ev
    cases ev
    simp only
    omega
   ·rw[if_neg cg]at AO
    exact r.inj b c6 y mu p bR aB AO (kC b p e ag) (kC c6 bR cg ev) bT
 ·have aN6:h.nx+1≤b:=fj
  unfold dZ
  rw[if_neg z]
  exact r.j9 b z
 ·by_cases e:b=h.nx;omega
  ·unfold dZ at I
   rw[if_neg e]at I
   exact(I H).elim
 ·obtain⟨b,y,p,aX,ba,rfl⟩:=D_
  rw[og]at aX
  by_cases e:b=h.nx
  ·subst e
   rw[ee]at ba
   cases ba
   exact .inl an
  ·rw[if_neg e]at aX
   exact .inr ⟨b,y,p,aX,kC b p e ba,rfl⟩):p:=h
theorem aor(h:p:=by
 rcases aM with aM|⟨g,cap,ck,aj,aF,bq,cI⟩;exact .inl aM;exact .inr ⟨g,cap,ck,aj,aF,by rw[A.block g (g6.1 bq).1];exact bq,cI⟩):p:=h
theorem acw(h:p:=by
 refine⟨(((br _ _).alloc (aZ _) _).alloc ao _).alloc bz _,?_,?_,?_⟩;rw[tT _ _ z,tT _ _ z];exact cW _ _;rw[tT _ _ z,←cy];exact cW _ _;rw[←cy,←dz];exact cW _ _):p:=h
theorem anZ{p:Prop}(h:p:=by
 have bZ:s.data.toList.length=s.size:=jC
 have cp:t.data.toList.length=t.size:=jC
 have ix:t.size=s.size-k:=by rw[←cp,aj,qN,bZ]
 refine⟨by rw[aj];exact M1 _ _ aA,z,fun n ax=>?_⟩
 by_cases h:k<s.data.toList.length
 ·rw[←M1 _ _ aA,Iy h]at ax
  have I:=ahE (aO h) ax
  rw[←Iy h,←aj,cp]at I
  exact I
 omega):p:=h
theorem aco(h:p:=by
 rcases Int.le_total 0 x with h|h;rw[LK h];omega;have aM:=Int.neg_tdiv (a:= -x) (b:=10);have b3:=LK (a:= -x) (b:=10) z;rw[Int.neg_neg,b3]at aM;omega):p:=h
theorem aoI(h:p:=by
 rcases I.2 with⟨aM,b3⟩|⟨pL,cap,ck,aj,aF,_⟩
 rw[b3];exact⟨_,_,aM⟩;exact⟨_,_,aj⟩):p:=h
theorem acm(h:p:=by
 refine⟨fun b x A=>?_,fun b c6 x c7 p bR A=>?_,fun b A=>?_⟩;simp[hl,aw.cR,T.cR]at A;simp[hl,aw.cR,T.cR]at A
 ·have A:13≤b:=A
  unfold nZ
  rw[if_neg z]):p:=h
theorem ao2(h:p:=by
 have e:(j4 n 8).map (fun x=>UInt8.ofNat x.toNat)=[UInt8.ofNat (n/72057594037927936%256),UInt8.ofNat (n/281474976710656%256),UInt8.ofNat (n/1099511627776%256),UInt8.ofNat (n/4294967296%256),UInt8.ofNat (n/16777216%256),UInt8.ofNat (n/65536%256),UInt8.ofNat (n/256%256),UInt8.ofNat (n/1%256)]:=rfl
 rw[e]
 simp only[aT,LN,List.foldl_nil,acY]
 omega):p:=h
theorem acI(h:p:=by
 refine S_ h Q fun cs=>?_
 have aO:c.args.map (ez a)=#[u,x]:=by apply xT;rw[U]
 rw[aO]
 simp only[builtin,eZ,ab,eW,fJ]):p:=h
theorem anO(h:p:=by
 have H:aN (ρ.at w) kk BU=some bv:=by
  rw[JB (ρ:=ρ.at w) (ρ':=ρ) rfl];exact BZ V Kf
 have I:aN (ρ.at w) kk (.slice 21 0 S.bw 2 none)=some (.slice (some ⟨dr,o,none⟩) S.bw cc):=by
  simp only[aN,Oa,n6,jv]
  simp
 simp only[bY,BY,H,I]):p:=h
theorem acp(h:p:=by exact JQ h U.1 U.2 (na _ _) (fun n=>by simp[Op.equalIn,hR hd]) rfl rfl J):p:=h
theorem ao5{p:Prop}(h:p:=by
 induction l with
 |nil=>intro n;simp[aT]
 |cons c l e9=>
  intro n
  simp only[LN,l7,aT]
  rw[e9,e9 (0*256+c.toNat),zw]
  have:n*(256^l.length*256)=n*256*256^l.length:=by rw[Fx,II 256]
  rw[this]
  simp only[uL,gP,x0]
  omega):p:=h
theorem aoK(h:p:=by
 rw[zT]at h
 have H:1≤c.toNat:=by
  have:c.toNat≠0:=fun e=>Q (WE.1 (by simpa using e))
  omega
 have I:256^l.length≤c.toNat*256^l.length:=Nat.le_mul_of_pos_left _ H
 have ah:256^l.length<256^n:=z
 have:=(Nat.pow_lt_pow_iff_right z).1 ah
 simp only[l7]
 omega):p:=h
theorem aoi(h:p:=by
 obtain⟨fd,w',⟨rfl,rfl⟩,Y⟩:=Sr (R:=fun fd w'=>fd=c∧w'=w) (b:=b) (ds:=ds) (k:=k) (cs:=cs) (rest:=rest) bU dV w6.r.UZ (.inl ⟨c,w,ab,rfl,rfl⟩)
 exact⟨σ,_,_,v.aqz al bU hd jL w6.r.dst eJ jo (fun _ _ _ h=>by cases h) (fun _ _ _ h=>by cases h) Q,Y⟩):p:=h
theorem acA(h:p:=by
 refine ki em.o ?_
 exact⟨e7.some _ _ _ (aU.iW _ 1 _ 1 _ 0 0 0 none 0 none 0) (.hG _ cm.out),iJ em.b z _ _ _ _ _ _ _⟩):p:=h
theorem aEp(h:p:=by
 obtain⟨w4,gA,k_,gn,U⟩:=lz Y
 simp[fW,h,Op.operands]at U
 simp only[aN,cq]at k_ gn
 subst k_;subst gn
 exact JQ h U.1 U.2 (fun op=>JP (.inl ao) ao) (fun n=>by simp[Op.equalIn,hR hd]) rfl rfl J):p:=h
theorem aoG(h:p:=by
 obtain⟨e,vs,t,wr,rfl,q7⟩:=A6 q' ap
 obtain⟨p,ag,dO⟩:=bK.aY b _ q7
 have Z2:=h6.1 aFf _ ap
 refine⟨p,e,vs,rfl,ag,fun aj=>?_,?_,adw dO⟩;subst aj;simp at Z2;obtain⟨arr,bb,H,_⟩:=dO;exact⟨arr,bb,H⟩):p:=h
theorem aoF(h:p:=by
 rcases aM with⟨aM,b3⟩|⟨pL,cap,ck,aj,aF,_⟩
 subst aM;simp[Value.ownBlock]at an;subst aj;simp[Value.ownBlock]at an;omega):p:=h
theorem PO(h:p:=by exact⟨rfl,(br _ _).alloc (aZ _) _⟩):p:=h
theorem aom{p:Prop}(h:p:=by
 unfold uo at e
 refine aj7 L (fun aO=>?_) e
 cases aC:v with
 |none=>rw[aC]at aO;simp[ed.jr]at aO
 |some u=>
  rw[aC]at aO
  simp only at aO
  rw[adi]at aO
  simp only[BT,zX,J u aC,C1]
  exact L _ _ aO):p:=h
theorem anV(h:p:=by
 obtain⟨ah,aM⟩:=h
 rcases aM with⟨aM,_⟩|⟨g,cap,ck,aj,aF,bq,cI⟩
 subst aM;simp[Value.ownBlock]
 ·subst aj
  simp only[Value.ownBlock,ne_eq,cq]
  intro hr
  subst hr
  rw[A]at bq
  cases bq
  exact ai rfl):p:=h
theorem aoc(h:p:=by
 by_cases e:id=l[j].id
 ·subst e
  simp[c']at hid
  exact⟨j,aa,Fv _,hid.symm,Y⟩
 ·simp[c',e]at hid
  obtain⟨t,ai,H,I,ah⟩:=h.Lv id c hid
  exact⟨t,ai,z,I,by rw[V id e];exact ah⟩):p:=h
theorem an_(h:p:=by
 obtain⟨c,Q,U⟩:=iT Y
 simp[fW,h,Op.operands]at U
 simp only[aN,cq]at Q
 subst Q
 refine⟨_,rfl,?_⟩
 simp[execOp,h,U,convert,hR mO,hR hd,Conv.unsafePointer]):p:=h
theorem anI(h:p:=by
 obtain⟨e6,H,I,ah⟩:=h.o
 intro g an
 rcases I.2 with⟨aM,_⟩|⟨pL,cap,ck,aj,aF,bq,cI⟩
 subst aM;simp[Value.ownBlock]at an
 ·subst aj
  simp[Value.ownBlock]at an
  subst an
  exact⟨aF,bF bq⟩):p:=h
theorem acs{p:Prop}(h:p:=by
 intro j u aa
 cases j with
 |zero=>
  simp at aa
  subst aa
  exact aK 0 (cW w _)
 |succ j=>simp at aa):p:=h
theorem anK(h:p:=by
 have dT:=b_.size
 have V:=ajW e6 e8 j z i hi
 rw[Array.getElem?_eq_getElem z]at V⊢
 have:=qr.cells (g:=g) (by rw[lU];rfl) (j*16+i) _ V
 rw[Fl,gP]at this
 exact this):p:=h
theorem anP(h:p:=by
 rw[jU I]at H
 simp only[World.cell?,jy,gP]
 simp only[xU]at H
 rw[H,p8,jU I]
 rfl):p:=h
theorem aow(h:p:=by
 have H:=yk (l.take k)
 have I:(l.take k).length≤6:=by rw[nu];omega
 have ah:256^(l.take k).length≤256^6:=kO z I
 have aM:(256:Nat)^6=281474976710656:=ak
 omega):p:=h
theorem aov(h:p:=by
 obtain⟨c,Q,U⟩:=iT Y
 simp[fW,h,Op.operands]at U
 have m':=Q
 simp only[aN,iz]at Q
 obtain⟨p,ag,rfl⟩:=Q
 exact⟨_,m',by simp[execOp,h,U]⟩):p:=h
theorem acE(h:p:=by
 refine⟨_,rfl,arc h Q U ?_⟩
 simp[Builtin.len_,ai,hR hu]):p:=h
theorem anJ(h:p:=by
 rcases h.2 with⟨aj,_⟩|⟨g,cap,ck,aj,aF,bq,cI,hr,iV,jY⟩
 exact absurd aj ae
 ·refine⟨g,cap,ck,aj,aF,bq,cI,iV,fun i hi=>?_⟩
  rw[←jY,oZ,if_pos hi]
  simp):p:=h
theorem an3(h:p:=by
 refine S_ h Q fun cs=>?_
 have aO:c.args.map (ez a)=#[u]:=by apply xT;rw[U]
 rw[aO]
 simp only[builtin,eZ,ab,eW,fJ]
 rfl):p:=h
theorem acH(h:p:=by exact JQ h U.1 U.2 (na _ _ _ _ _ _) (fun n=>by simp[Op.equalIn,hR hd]) rfl rfl J):p:=h
theorem aoh(h:p:=by
 refine ki hq ?_
 exact⟨e7.put (base:=dc.heap.size) ⟨_,_,_,_,_,_,_,_,_,_,_,_,rfl,ol,la,lE⟩ kb AM,iJ dq.out.b z _ _ _ _ _ _ _⟩):p:=h
theorem aoV(h:p:=by
 have H:Dw nF=true:=av
 simp only[Dw]at H
 simp only[Dw,wJ,List.all_append,dQ]
 exact⟨H,by simp[eC.Us]⟩):p:=h
theorem ao3(h:p:=by
 simp only[aN,cq]at Q
 subst Q
 have:l=[]:=by simpa using hi
 subst this
 exact⟨none,0,rfl,ao,fun h=>absurd h ao⟩):p:=h
theorem aoz(h:p:=by
 rcases lo.1 (A2 kv A)with H|H
 exact .inl H;simp only[o0,iA]at H;exact .inr H):p:=h
theorem aoT(h:p:=by
 refine .inr ⟨g,cap,ck,aj,aF,?_,cI⟩
 rw[g_ _ _ _ _ (fun e=>bT (by subst aj;simp[Value.ownBlock,e]))]
 exact bq):p:=h
theorem an8(h:p:=by
 refine ki em.o ?_
 exact⟨e7.some _ _ _ (aU.iW _ 1 _ 4 bO 0 0 q none 0 none 0) (.l' q aC),iJ em.b z _ _ _ _ _ _ _⟩):p:=h
theorem anU(h:p:=by
 rw[aw.vp _ _ _ _ ak]at h
 by_cases e:b=13;rw[if_pos e]at h;cases h;exact⟨e,rfl⟩;rw[if_neg e]at h;simp[aw.cR,T.cR]at h):p:=h
theorem aoL(h:p:=by
 rw[i_]at this
 exact this):p:=h
theorem aoO(h:p:=by
 obtain⟨fg,dJ,d_,TX,aj,aF,bq,cI⟩:=DY aB
 rw[←al.len]
 have:=(k2.1 aF).1
 omega):p:=h
theorem anM(h:p:=by
 obtain⟨dr,fL,arr,bb,e,jn,_⟩:=h.oe.c
 rw[V]at e
 cases e
 have:=bF jn
 show dr≠w.heap.size+2
 omega):p:=h
theorem aEm(h:p:=by
 rw[bf.block _ (by simp only[i_];omega)]
 rw[tT _ _ (by simp only[i_];omega)]
 exact cW w _):p:=h
theorem anN(h:p:=by
 obtain⟨v,w',r,s⟩:=amj (fr b a ds (.inRegion ops (i::rest)::k)) cs
 rw[Cf]at s
 exact⟨v,w',r,.head H s⟩):p:=h
theorem ao4(h:p:=by
 rw[DF]at aA
 have aA:¬b=0:=by simpa using aA
 subst h
 exact⟨_,fun _=>rfl,by simp[binOp,Op.intDiv,aA]⟩):p:=h
theorem aot(h:p:=by
 rw[b8]
 congr 2
 exact aKl cr fun i hi=>by have:=ll i hi;simp only[gP]at this;exact this):p:=h
theorem aoa(h:p:=by
 have:=congrArg (List.map i2.rest) e
 rw[LU,LU]at this
 simpa[aeT,cf.vs]using this):p:=h
theorem aEh(h:p:=by
 obtain⟨L,dV⟩:=apR (base:=base) (n:=n) (cap:=cap) an fv
 exact(h.lt.ex (L.zq fun b A=>A.1)).low dV):p:=h
theorem aoM(h:p:=by
 obtain⟨e6,H,I,ah⟩:=h.o
 exact⟨e6,H,xA I L,fun j a b=>(ah j a b).ex (L.zq fun b A=>A.1)⟩):p:=h
theorem anL(h:p:=by
 by_cases e:id=l[j].id;subst e;simp[c']at hid;simp[c',e]at hid;rw[V id e];exact h.gM id hid):p:=h
theorem an4(h:p:=by
 obtain⟨j,aa,e⟩:=IF.1 b_
 have J:=ah j aa z
 rw[e]at J
 exact J.size):p:=h
theorem aok(h:p:=by
 simp only[iz]at h
 obtain⟨l,U,rfl⟩:=h
 simp[aN,KW U]):p:=h
theorem acn(h:p:=by simp[gO,Bk,h8 this]):p:=h
theorem aog(h:p:=by
 apply as4
 intro s Y
 rw[if_neg (by have:=xZ.1 Y;omega)]):p:=h
theorem aEj(h:p:=by
 obtain⟨k,rfl⟩:∃k,i=k+16:=⟨i-16,z⟩
 rfl):p:=h
theorem aoy(h:p:=by
 have:=qr.cells (g:=g) (by rw[lU];rfl) j ss[j] ao
 rw[Fl]at this
 rw[this,e]):p:=h
theorem aob(h:p:=by
 simp only[q2,rh,pe,cond_false,cq]at h
 exact ax1 h.symm):p:=h
theorem an'(h:p:=by
 rw[oZ,if_pos z]at this
 simp only[World.cell?,bq]
 simpa using this):p:=h
theorem anW(h:p:=by
 simp only[aN,iz]at h
 obtain⟨p,ag,rfl⟩:=h
 exact⟨p,ag,rfl⟩):p:=h
theorem aoJ(h:p:=by simp only[execOp,h,aj,eZ,afr,dG,eW,fJ]):p:=h
theorem aoB(h:p:=by
 rw[p9 (by rw[jC];exact h),X5]
 rfl):p:=h
theorem aou(h:p:=by
 obtain⟨dR,eM,Gm,a,bb,A⟩:=I ae
 exact⟨dR,eM,Gm,a,bb,L _ _ _ _ ak A⟩):p:=h
theorem aEo(h:p:=by
 obtain⟨w4,gA,k_,gn,U⟩:=lz Y
 simp[fW,h,Op.operands]at U
 simp only[aN,cq]at k_ gn
 subst k_;subst gn
 exact acp):p:=h
theorem UI(h:p:=by
 obtain⟨e6,H,I,ah⟩:=h.o
 exact aoI):p:=h
theorem acy(h:p:=by
 obtain⟨ah,aM⟩:=h
 refine⟨ah,?_⟩
 exact aor):p:=h
theorem acv(h:p:=by
 by_cases h:i<16;exact aEl;exact aEj):p:=h
end Go
namespace Go
open Go.Proofs.Tryz
theorem oU{P:Program}{ops:Array Oper}{dY:Exit→Act→World→Prop}{qF:Region.Mode}{S:World→Prop}{oI:Nat}{lG:Array Bool}{a:Act}{w:World}(i:Nat){o:Oper}
 (h:∀wQ:Act→World→Prop,Shut (∀a w,S w→(S w→wpAnyH P qF ops dY S oI (lG.setIfInBounds i true) a w)→wQ a w)→if Region.wanted o (yielded ops a.tmps)=true then Oper.wp P o a w wQ dY else wQ (a.put o.dst undef) w)
 (ab:Region.ready qF ops lG=[i]:=by kernel_rfl)(bU:ops[i]? =some o:=by rfl):wpAnyH P qF ops dY S (oI+1) lG a w:=Rh ab (by simp) (CT bU h Q5)

variable{p:Prop}
theorem ki{q r:Prop}(X:r)(k:q)(h:r→q→p:=by intro X k;exact bodyPost_ret (aHM rfl _ _ _ 42 _ (0,0) _ _ rfl rfl (EE X _ _ _ _ _ _ _) Wj rfl Qx) rfl k):p:=h X k

theorem aof(h:p:=by
 refine cF.out _ _ ⟨(fx.cell oT).trans fe,(fx.cell OZ).trans cl,(fx.cell qD).trans dt,(fx.cell Kw).trans ej⟩ (fun j_=>?_)
 clear cF bE
 refine h_ ?_
 refine oU 30 (fun bE cF=>?_)
 have GI:=cM.K fx
 obtain⟨bN,r5,Ef⟩:=GI.Gq rs[k].h n b9 jn
 obtain⟨zs,h2,KA⟩:=Pf.g8 (fun h=>(vE h).1)
 have J:(∃ad,EG=some ad∧ ∀(j:Nat) u,zs[j]? =some u→w7.cell? (ad.add j)=some u)∨(EG=none∧sb.length=0):=(by rcases KA with h|⟨H,I⟩;exact .inl h;exact .inr ⟨H,by rw[I];rfl⟩)
 refine arT (d:=some 108) _ rfl rfl _ _ 23 rfl (w.heap.size+2) 22 xt _ 1 24 Is xi kc hE h0 rfl ak (E rs[k].h n) _ bN rfl r5 EG sb Le zs rfl (by rw[h2.len,tm]) J h2.xy (by unfold maxLen;omega) z (cO kT fx.size) ?_
 intro ms dc r3 mL ak9
 obtain⟨Lp,Lq,rfl⟩:=ac7 r3
 obtain⟨KP,ab6,cg,_,aBm,⟨aNm,ak7⟩,_⟩:=GI.Vl ub
 cases cg
 have DN:=fun(b:Nat) (cs:Array Value) (t:TypeId) (fr:Nat×Nat) (A:w7.heap[b]? =some (Obj.cells cs t fr)) (ai:t≠22)=>show dc.heap[b]? =some (Obj.cells cs t fr) by
  rw[mL.block b (c8 A) (CB r5 A ai)];exact A
 have ali:w7.heap[b2 rs[k].h]? =some (Obj.cells awC 23 (0,0)):=by rw[fx.block _ PF];exact mg
 have Kc:=DN _ _ _ _ ali ak
 have aw_:=ly Kc (aax n jn)
 have azp:dc.frozen? ⟨b2 rs[k].h,n,none⟩=false:=by simp[World.frozen?,Kc]
 have IW:=hb.K fx
 have o1:=cm.K fx
 have D2:=DN _ _ _ _ o1.g ak
 have GM:=DN _ _ _ _ IW ak
 have aa4:=DN _ _ _ _ ak7 ak
 have YF:dc.cell? ⟨w.heap.size+1,6,none⟩=_:=ly GM rfl
 have ZL:dc.cell? ⟨w,4,none⟩=_:=ly D2 rfl
 have Ny:dc.cell? ⟨cb,rs[k].h,none⟩=_:=(mL.cell_far ⟨cb,rs[k].h,none⟩ aBm (CB r5 ak7 ak)).trans ((fx.cell OZ).trans cl)
 have adj:dc.cell? ⟨rb,aE+k*4+3,none⟩=_:=(mL.cell_far ⟨rb,aE+k*4+3,none⟩ (cS fx Kw) (y0 r5 (show rb<w.heap.size+2 by omega))).trans ((fx.cell Kw).trans ej)
 have aBp:cb≠b2 rs[k].h:=fun e=>by
  rw[e]at aa4;rw[aa4]at Kc;cases Kc
 refine cF.out _ _ ⟨YF,Ny,ZL,adj⟩ (fun j_=>?_)
 clear cF bE
 refine h_ ?_
 refine ci 31 109 ?_
 refine oU 32 (fun bE cF=>?_)
 go_simp
 refine cF.out _ _ ⟨(nt (g_ _ _ _ _ (show w.heap.size+1≠b2 rs[k].h by omega))).trans YF,(nt (g_ _ _ _ _ aBp)).trans Ny,(nt (g_ _ _ _ _ (show w.heap.size≠b2 rs[k].h by omega))).trans ZL,(nt (g_ _ _ _ _ (show rb≠b2 rs[k].h by omega))).trans adj⟩ (fun j_=>?_)
 clear cF bE
 refine h_ ?_
 refine wpAnyH_done av ?_ _
 have akX:=(lx.grown GI b9 jn r5 Ef h2 r3 mL ak9).congr auC.out
 have W8:kz (dc.setCell ⟨b2 rs[k].h,n,none⟩ (.slice Lp ((part rs Z f (n-1) k rs[k].h n).length+sb.length) Lq)) (w.heap.size+1) 332 #[S.nm,S.db,.slice ca S.bw cc,.slice (some ⟨bL,eG,none⟩) S.aD aW,.slice (some ⟨rb,aE,none⟩) rs rc,S.al,.slice (some ⟨cb,0,none⟩) S.aD hj]:=by
  unfold kz;rw[g_ _ _ _ _ (show w.heap.size+1≠b2 rs[k].h by omega)];exact GM
 have TD:Below w w dc:=o1.b.grown mL o1.b.size (fun g an=>by
  rcases x1 g (w.heap.size+2)with U|U
  ·exact absurd an.symm (y0 r5 U)
  ·omega)
 have RT:hX w (eg S rs ca (some ⟨bL,eG,none⟩) cc aW rb aE rc) (dc.setCell ⟨b2 rs[k].h,n,none⟩ (.slice Lp ((part rs Z f (n-1) k rs[k].h n).length+sb.length) Lq)):=hX.set (wr:=dc) ⟨TD,D2⟩ z
 have akJ:m0 (dc.setCell ⟨b2 rs[k].h,n,none⟩ (.slice Lp ((part rs Z f (n-1) k rs[k].h n).length+sb.length) Lq)) eo S.aD f:=((vu.kept (am9 fx)).kept (Hd r5 mL)).kept (Uv Kc ak)
 have alf:w.heap.size+2≤(dc.setCell ⟨b2 rs[k].h,n,none⟩ (.slice Lp ((part rs Z f (n-1) k rs[k].h n).length+sb.length) Lq)).heap.size:=by have:=c8 W8;omega
 clear cm hb cM vu GI o1 IW D2 GM aa4 YF ZL Ny adj aw_ azp Kc ali r3 mL r5 Ef h2 J Pf DN DB aiu fe cl dt ej NA j_ yu mg aax ak9
 generalize (dc.setCell ⟨b2 rs[k].h,n,none⟩ (.slice Lp ((part rs Z f (n-1) k rs[k].h n).length+sb.length) Lq))=gG at*
 go_wp2
 go_roundw
 case rel=>first|exact⟨k+1,_,z,bG,alf,RT,W8,akJ,akX⟩|((repeat apply Exists.intro);refine⟨?_,rfl⟩;exact⟨k+1,_,z,bG,alf,RT,W8,akJ,akX⟩)
 case measure=>simp[RowKit.intOf];omega):p:=h
theorem KT(h:p:=by
 have r1:k<ea.length:=z
 obtain⟨dR,eM,rfl,_,jl,jw⟩:=o4.out _ eL.out.b.drew z
 obtain⟨PA,aDp,rfl,OW,GW⟩:=gz.out _ bg.drew z
 obtain⟨b4,bV,b1,cP,b5,gJ,nI,gK,gu,nW,gv,ag,Y⟩:=jw k au
 have fo:=GW k r1
 have eN:=Y.bo
 have dv:=Y.c1
 have dy:=Y.c2
 have gj:=Y.c3
 have hF:=Y.c4
 have hQ:=Y.c5
 have i8:=Y.fe
 have hA:(0:Int)≤(k:Int):=z
 have gU:(k:Int)<l.length:=z
 have kf:(k:Int)<i7:=z
 have yR:dR<wr.heap.size:=jl
 have acc:PA<wr.heap.size:=OW
 obtain⟨DK,Cg⟩:=sk.out _ (fP au)
 have GU:=BF.out _ (fP r1)
 have aug:Hid (l[k].kind=(ea[k]:Int)→o8 ea l (k+1)):=G fun aA=>qs.next au r1 aA
 clear jw GW Y
 generalize l[k]=v at*
 generalize ea[k]=q at*
 obtain⟨Ih,vs,aeq,aes,aey,aev,aeA⟩:=v
 have pA:=G (Sw Ih aeq aes aey vs aev aeA Cg (q:Int) z _ _ ag)
 clear Cg ag
 go_wp2
 go_still_tail 8,av
 change wpList _ _ _ _ _ wr.drew
 have hZ:=G (eL.out.K (lh wr))
 have alj:=bg.drew
 have abr:aq.heap.size≤wr.drew.heap.size:=bg.size
 clear eL bg
 generalize wr.drew=bX at*
 go_upto_region 19 with(go_at_call 465;refine(pA.out).mono ?_;rintro e bn ⟨⟨rW,rfl,ol,la,lE⟩,bu⟩)
 have hp:=G (hZ.out.K bu)
 have bD:=alj.trans (bu.mono abr)
 clear eN dv dy gj hF hQ i8 fo jl OW yR acc hZ bu pA alj
 by_cases qu:rW=0
 ·subst qu
  have RV:=aug.out (lE rfl)
  go_wp2
  go_roundw
  case rel=>first|exact⟨k+1,z,bG,bD,RV⟩|exact⟨k+1,z,z,RV⟩|exact⟨k+1,z,z,bD,RV⟩|((repeat apply Exists.intro);refine⟨?_,rfl⟩;exact⟨k+1,z,bG,bD,RV⟩)
  case measure=>simp[RowKit.intOf];omega
 ·have aj:(rW !=0)=true:=by simpa using qu
  have em:=hp.out.o
  obtain⟨g3,di,dL,fN,gt,g4,g9⟩:=eX em;obtain⟨z0,cy,dz,z3,z4,z5,eO⟩:=he em
  go_wp2
  refine ki em ?_
  exact⟨e7.none _ _ _ rW z la,iJ hp.out.b z _ _ _ _ _ _ _⟩):p:=h
theorem aon(h:p:=by
 refine cF.out _ _ ⟨(ey.cell C_).trans bx,(ey.cell Ky).trans tH⟩ (fun j_=>?_)
 clear cF bE
 refine h_ ?_
 refine oU 16 (fun bE cF=>?_)
 refine ad0 (d:=some 37) _ rfl rfl _ _ 259 rfl (w.heap.size+2) 262 aCB _ 1 24 underlying259 aA_ s0 hM nQ rfl ak v k _ rfl (cM.K ey).row ⟨wr.heap.size+1,0,none⟩ 1 1 [.slice (some ⟨wr,0,none⟩) af af] rfl rfl (rA (cs:=#[.slice (some ⟨wr,0,none⟩) af af]) (t:=262) (fr:=(0,0)) (agx _ rfl)) (by simp[Value.oneCell']) ak (by unfold maxLen;omega) z (cO kT ey.size) _ rfl ?_
 intro hf z_ bi gi fT _ _
 have vq:=fun(b:Nat) (cs:Array Value) (t:TypeId) (fr:Nat×Nat) (A:wr.heap[b]? =some (Obj.cells cs t fr)) (ai:t≠262)=>show bi.heap[b]? =some (Obj.cells cs t fr) by
  have bp:((wr.drew.alloc (.cells (Array.replicate af (.slice none 0 0)) 23)).alloc (.cells #[.slice (some ⟨wr,0,none⟩) af af] 262)).heap[b]? =some (Obj.cells cs t fr):=by rw[ey.block b (c8 A)];exact A
  rw[fT.block b (c8 bp) (CB (cM.K ey).row bp ai)];exact bp
 have aw2:bi.cell? ⟨w.heap.size+1,6,none⟩=some v:=ly (vq _ _ _ _ hb ak) rfl
 have azo:bi.frozen? ⟨w.heap.size+1,6,none⟩=false:=by simp[World.frozen?,vq _ _ _ _ hb ak]
 have ZK:bi.cell? ⟨w,3,none⟩=_:=ly (vq _ _ _ _ cm.g ak) rfl
 have YL:bi.cell? ⟨bL,eG+k*3+2,none⟩=some (.int .i64 (M k)):=(fT.cell_far ⟨bL,eG+k*3+2,none⟩ (cS ey Ky) (y0 (cM.K ey).row (show bL<w.heap.size+2 by omega))).trans ((ey.cell Ky).trans tH)
 refine cF.out _ _ ⟨ZK,YL⟩ (fun j_=>?_)
 clear cF bE
 refine h_ ?_
 refine ci 17 38 ?_
 refine ci 18 39 ?_
 refine oU 19 (fun bE cF=>?_)
 go_simp
 refine cF.out _ _ ⟨(nt (g_ _ _ _ _ (show w.heap.size≠w.heap.size+1 by omega))).trans ZK,(nt (g_ _ _ _ _ (show bL≠w.heap.size+1 by omega))).trans YL⟩ (fun j_=>?_)
 clear cF bE
 refine h_ ?_
 refine wpAnyH_done av ?_ _
 have J9:=cM.K ey
 have pm:((wr.drew.alloc (.cells (Array.replicate af (.slice none 0 0)) 23)).alloc (.cells #[.slice (some ⟨wr,0,none⟩) af af] 262)).heap[wr.heap.size]? =some (Obj.cells (Array.replicate (Z k) (.slice none 0 0)) 23 (0,0)):=by
  rw[←ag7.out,tT _ _ (by rw[i_];exact Fv _)];exact cW _ _
 have al':bi.ownsRow (w.heap.size+2) 262 1 (.slice (some ⟨hf,0,none⟩) (k+1) z_) (k+1) (((List.range k).map fun s=>.slice (some ⟨b2 s,0,none⟩) (Z s) (Z s))++[.slice (some ⟨wr,0,none⟩) (Z k) (Z k)]):=by rw[←ag7.out];exact gi
 have akW:=lx.next J9 kT pm (fun s Y=>wK (by obtain⟨_,arr,g,_⟩:=cM.aY s Y;exact c8 g)) (fun _=>rfl) (fun _=>rfl) al' fT
 have W6:=vq _ _ _ _ hb ak
 have GI:=akW.set (i:=6) (x:=.slice (some ⟨hf,0,none⟩) (k+1) z_) W6 ak ak ak ak
 have IW:kz (bi.setCell ⟨w.heap.size+1,6,none⟩ (.slice (some ⟨hf,0,none⟩) (k+1) z_)) (w.heap.size+1) 332 #[S.nm,S.db,.slice ca S.bw cc,.slice (some ⟨bL,eG,none⟩) S.aD aW,.slice (some ⟨rb,aE,none⟩) rs rc,S.al,.slice (some ⟨hf,0,none⟩) (k+1) z_]:=hT W6 _
 have aAx:Below w w bi:=(cj cm.b ey).grown fT (cO cm.b.size ey.size) (fun g an=>by
  rcases x1 g (w.heap.size+2)with U|U
  ·exact absurd an.symm (y0 J9.row U)
  ·omega)
 have o1:hX w (eg S rs ca (some ⟨bL,eG,none⟩) cc aW rb aE rc) (bi.setCell ⟨w.heap.size+1,6,none⟩ (.slice (some ⟨hf,0,none⟩) (k+1) z_)):=hX.set (wr:=bi) ⟨aAx,vq _ _ _ _ cm.g ak⟩ (Fv _)
 have ale:w.heap.size+2≤(bi.setCell ⟨w.heap.size+1,6,none⟩ (.slice (some ⟨hf,0,none⟩) (k+1) z_)).heap.size:=by
  have:=c8 IW
  omega
 clear cm hb cM J9 pm gi al' fT akW W6 vq aw2 azo ZK YL cC ey kl agx j_ yu pR
 generalize (bi.setCell ⟨w.heap.size+1,6,none⟩ (.slice (some ⟨hf,0,none⟩) (k+1) z_))=w7 at*
 generalize (Value.slice (some ⟨hf,0,none⟩) (k+1) z_)=nr at*
 go_wp2
 go_roundw
 case rel=>first|exact⟨k+1,nr,_,z,bG,ale,o1,IW,GI⟩|((repeat apply Exists.intro);refine⟨?_,rfl⟩;exact⟨k+1,nr,_,z,bG,ale,o1,IW,GI⟩)
 case measure=>simp[RowKit.intOf];omega):p:=h
theorem an2(h:p:=by
 have He:dR<bn.drew.heap.size:=ab4
 clear fX cn dw er j0 uq xF t0 ab4 anx bD mY o2 azK qf
 generalize bn.drew=a_ at*
 go_upto_region 12 with(go_at_call 465;refine(Bw.out).mono ?_;rintro e bi ⟨⟨Zu,rfl,pP,ka,tU⟩,dm⟩)
 have x9:=G (qh.out.K dm)
 have auy:=G (uR.out.K dm)
 by_cases alw:Zu=0
 ·subst alw
  have bo:=az dm He hv
  have c1:=az dm He eD
  have c2:=az dm He e'
  have c3:=az dm He hw
  have c4:=az dm He j6
  have c5:=az dm He ma
  have fe:=az dm He pJ
  clear hv eD e' hw j6 ma pJ qh uR dm Bw
  have AM:w.heap.size≤bi.heap.size:=x9.out.b.size
  have kb:w.heap.size<bi.heap.size:=bF x9.out.o
  have zA:=G (ND 0 bi _ _ auy.out)
  go_wp2_with (go_at_call 466;(with_reducible refine zA.out.mono ?_);rintro e oV ⟨⟨ato,rfl,GA⟩,oj⟩;obtain⟨it,bJ,j7,lT,kr,mb,lV,mc,md,lX,me,rfl⟩:=GA.art;have BB:=G GA;clear GA;have dq:=G (x9.out.K oj);have hq:=dq.out.o;obtain⟨g3,di,dL,fN,gt,g4,g9⟩:=eX hq;obtain⟨z0,cy,dz,z3,z4,z5,eO⟩:=he hq)
  refine ki hq ?_
  exact⟨e7.put (base:=bi.heap.size) (e7.some _ _ _ BB.out lO.out) kb AM,iJ dq.out.b z _ _ _ _ _ _ _⟩
 ·have aj:(Zu !=0)=true:=by simpa using alw
  have em:=x9.out.o
  obtain⟨g3,di,dL,fN,gt,g4,g9⟩:=eX em;obtain⟨z0,cy,dz,z3,z4,z5,eO⟩:=he em
  go_wp2
  refine ki em ?_
  exact⟨e7.none _ _ _ Zu z ka,iJ x9.out.b z _ _ _ _ _ _ _⟩):p:=h
theorem Hi(h:p:=by
 have dC:((l.length:Int) !=(i7:Int))=true:=bz
 clear fu
 have j3:=eS.out.o
 obtain⟨g3,di,dL,fN,gt,g4,g9⟩:=eX j3;obtain⟨z0,cy,dz,z3,z4,z5,eO⟩:=he j3
 go_wp2
 refine ki j3 ?_
 exact⟨e7.none _ _ _ 14 ak ak,iJ eS.out.b z _ _ _ _ _ _ _⟩):p:=h
theorem aEk(h:p:=by
 obtain⟨k,L,rfl⟩:=hrel
 by_cases au:k<s.size
 ·have Q:=aw.out k au
  have jq:(k:Int)<s.size:=z
  rcases Q with⟨a,b⟩|⟨a,b⟩|⟨af,a|⟨a,b⟩⟩
  ·go_wp2
   all_goals first
    |(
     go_round
     case rel=>exact⟨k+1,z,bG⟩
     case measure=>simp[RowKit.intOf];omega)
    |(exfalso;omega)
  ·have c:¬97≤(s[k].toNat:Int):=z
   go_wp2
   all_goals first
    |(
     go_round
     case rel=>exact⟨k+1,z,bG⟩
     case measure=>simp[RowKit.intOf];omega)
    |(exfalso;omega)
  ·have c1:decide (97≤(s[k].toNat:Int))=false:=by rw[a];rfl
   have c2:decide ((s[k].toNat:Int)≤90)=false:=by rw[a];rfl
   have c3:((k:Int)==0)=false:=bz
   have c4:((s[k].toNat:Int) !=95)=false:=by rw[a];rfl
   clear a
   go_wp2
   all_goals first
    |(
     go_round
     case rel=>exact⟨k+1,z,bG⟩
     case measure=>simp[RowKit.intOf];omega)
    |(exfalso;omega)
  ·have c1:¬97≤(s[k].toNat:Int):=z
   have c2:¬65≤(s[k].toNat:Int):=z
   have c3:((k:Int)==0)=false:=bz
   have c4:((s[k].toNat:Int) !=95)=true:=bz
   have c5:¬(s[k].toNat:Int)<48:=z
   have fe:¬57<(s[k].toNat:Int):=z
   go_wp2
   all_goals first
    |(
     go_round
     case rel=>exact⟨k+1,z,bG⟩
     case measure=>simp[RowKit.intOf];omega)
    |(exfalso;omega)
 ·have jq:¬(k:Int)<s.size:=z
  go_wp2
  go_ret
  exact⟨rfl,rfl⟩):p:=h
theorem aEn(h:p:=by
 go_wp2
 all_goals first
  |(
   go_round
   case rel=>exact⟨k+1,z,bG⟩
   case measure=>simp[RowKit.intOf];omega)
  |(exfalso;omega)):p:=h
theorem an1{p:Prop}(h:p:=by
 go_wp2
 go_loop [5] (fun i=>∃k:Nat,k≤l.length∧i=.int .i64 k∧Hid (∀j (aa:j<l.length),j<k→l[j]≠s)) (fun i=>l.length-(RowKit.intOf i).toNat)
 case atStart=>exact⟨0,dx _,rfl,G fun j _ aa=>z⟩
 case round=>
  obtain⟨k,L,rfl,gz⟩:=hrel
  by_cases au:k<l.length
  ·obtain⟨b,o,rfl,_,A,Q⟩:=aw.out z
   have bo:=Q k au
   have hA:(0:Int)≤(k:Int):=z
   have gU:(k:Int)<l.length:=z
   by_cases V:l[k]=s
   ·rw[V]at bo
    have aj:=q0 s
    clear Q
    go_wp2
    go_ret
    exact⟨⟨_,rfl,.inl ⟨k,au,rfl,V⟩⟩,rfl⟩
   ·have aj:=fS V
    have Xi:Hid (∀j (aa:j<l.length),j<k+1→l[j]≠s):=G fun j aa mM=>by
     by_cases e:j=k;subst e;exact V;exact gz.out j aa z
    generalize l[k]=x at*
    clear Q
    go_wp2
    go_round
    case rel=>exact⟨k+1,z,bG,Xi⟩
    case measure=>simp[RowKit.intOf];omega
  ·go_wp2
   go_ret
   refine⟨⟨_,rfl,.inr ⟨rfl,fun ap=>?_⟩⟩,rfl⟩
   obtain⟨j,aa,e⟩:=IF.1 ap
   exact gz.out j aa z e):p:=h
theorem qE(h:p:=by intro w aal;(try dsimp only at aal);(go_simp<;>with_reducible rfl)):p:=h
theorem aop(h:p:=by
 go_wp2_with (at_builtin;refine wpList_append_own _ rfl _ _ 22 rfl w 3 ei (.int .i64 0) 1 8 oY kV nR iY kY rfl ak _ _ _ rfl (cX.alloc _) ⟨wr,0,none⟩ 1 1 [_] rfl rfl (xv _ _ _) (by simp[Value.oneCell']) (by unfold maxLen;omega) z (by have:=bg.size;simp;omega) ?_;intro d_ bi gi fT _;have fy:Below w w bi:=((bg.alloc bg.size _).grown fT (by have:=bg.size;simp;omega) (vP cX));have lr:=G gi;clear gi fT)
 exact⟨⟨k+1,1,l++[d],z,z,bG,rfl,by simp[de],kv.xG z,rG.out d 1 z,by rw[Gl];exact lr.out,fy⟩,by simp[RowKit.intOf];omega⟩):p:=h
theorem aoo(h:p:=by
 go_wp2_with (at_builtin;refine wpList_append_own _ rfl _ _ 22 rfl w 3 ei (.int .i64 0) 1 8 oY kV nR iY kY rfl ak _ _ _ rfl (cX.alloc _) ⟨wr,0,none⟩ 1 1 [_] rfl rfl (xv _ _ _) (by simp[Value.oneCell']) (by unfold maxLen;omega) z (by have:=bg.size;simp;omega) ?_;intro d_ bi gi fT _;have fy:Below w w bi:=((bg.alloc bg.size _).grown fT (by have:=bg.size;simp;omega) (vP cX));have lr:=G gi;clear gi fT)
 exact⟨⟨k+1,0,l++[d],z,z,bG,rfl,by simp[de],kv.xG z,rG.out d 0 z,by rw[Gl];exact lr.out,fy⟩,by simp[RowKit.intOf];omega⟩):p:=h
theorem acD(h:p:=by
 go_wp2
 go_roundw
 case rel=>first|exact⟨k+1,z,bG,iC.out,jG.out,lN.out,st.out,uX.out,wU.out⟩|((repeat apply Exists.intro);refine⟨?_,rfl⟩;exact⟨k+1,z,bG,iC.out,jG.out,lN.out,st.out,uX.out,wU.out⟩)
 case measure=>simp[RowKit.intOf];omega):p:=h
theorem aoA(h:p:=by
 have ng:er.size=0:=jK.zero.2 aA
 have ii:¬0<(er.size:Int):=z
 have hx:=cE.out.x.c2
 have cy:=cE.out.x.af (i:=1)
 have dz:=cE.out.x.af (i:=2)
 go_wp2
 have GV:=cE.out.k
 rw[show wrap64 (fg:Int)=(fg:Int)from Q6 _ ⟨z,z⟩]
 refine⟨⟨m/10,fg,ej,?_,z,z⟩,?_⟩
 ·have:=cE.out.step vD (IG _ _) nc
  exact this
 ·have:=(cE.out.step vD (IG _ _) nc).x.c2
  simp only[this,c2]
  omega):p:=h
theorem aoj(h:p:=by
 have ng:er.size=0:=jK.zero.2 aA
 have ii:¬0<(er.size:Int):=z
 have hx:=cE.out.x.c2
 have cy:=cE.out.x.af (i:=1)
 have dz:=cE.out.x.af (i:=2)
 go_wp2
 have GV:=cE.out.k
 rw[show wrap64 (fg:Int)=(fg:Int)from Q6 _ ⟨z,z⟩]
 refine⟨⟨m/10,fg,ej,?_,z⟩,?_⟩
 ·have:=cE.out.step vD (IG _ _) nc
  exact this
 ·have:=(cE.out.step vD (IG _ _) nc).x.c2
  simp only[this,c2]
  omega):p:=h
theorem acF(h:p:=by
 go_enter func181,ntmps181
 go_wp2_with (go_at_call 270;refine(n7.out _ (Sy _ _ _)).mono ?_;rintro e w' ⟨⟨Qp,rfl⟩,Zf,rfl⟩)
 all_goals(go_ret;exact⟨rfl,(Sy _ _ _).trans (qV.K ⟨Zf,rfl⟩ _)⟩)):p:=h
theorem aox(h:p:=by
 go_ret
 rw[gP,zt]at yI
 have uM:Below w w gG:=(x7.alloc x7.size _).grown yD (cO x7.size cC.size) (fun g an=>by simp[Value.ownBlock]at an;subst an;exact x7.size)
 obtain⟨pL,vf,cg,aAc,jn,mK,jJ⟩:=aH1 (l:=q) yI rfl ao
 cases cg
 exact⟨⟨_,_,_,q,by first|rfl|simp,aAc,Av,jn,mK,fun x V=>by cases V;exact jJ⟩,uM⟩):p:=h
theorem anT(h:p:=by
 go_wp2_with (go_at_call 191;(with_reducible refine(El _ _ _ cE.out.t (p_ cE.out.n ak)).mono ?_);rintro e gG ⟨rfl,rfl⟩)
 refine bodyPost_ret (by simp[results,results395,go_sem,fX,cn];rfl) rfl ?_
 exact⟨⟨_,_,rfl,Vo false cE.out.n cE.out.k x'.out _ ao,cE.out.k,z,ku⟩,(cE.out.b.setCell (p:=⟨bQ,0,none⟩) cE.out.g.2.1 _).setCell (p:=⟨bQ,1,none⟩) cE.out.g.2.1 _⟩):p:=h
theorem an0(h:p:=by
 go_wp2_with (go_at_call 191;(with_reducible refine(El _ _ _ cE.out.t (p_ cE.out.n ak)).mono ?_);rintro e gG ⟨rfl,rfl⟩)
 refine bodyPost_ret (by simp[results,results395,go_sem,fX,cn];rfl) rfl ?_
 exact⟨⟨_,_,rfl,Vo true cE.out.n cE.out.k x'.out _ ao,cE.out.k,z,ku⟩,(cE.out.b.setCell (p:=⟨bQ,0,none⟩) cE.out.g.2.1 _).setCell (p:=⟨bQ,1,none⟩) cE.out.g.2.1 _⟩):p:=h
theorem aoH(h:p:=by
 go_wp2_with (go_at_call 191;(with_reducible refine(El _ _ _ cE.out.t (p_ cE.out.n ak)).mono ?_);rintro e gG ⟨rfl,rfl⟩)
 refine bodyPost_ret (by simp[results,results395,go_sem,fX,cn];rfl) rfl ?_
 exact⟨⟨_,_,rfl,Vo false cE.out.n cE.out.k x'.out _ ao,cE.out.k⟩,(cE.out.b.setCell (p:=⟨bQ,0,none⟩) cE.out.g.2.1 _).setCell (p:=⟨bQ,1,none⟩) cE.out.g.2.1 _⟩):p:=h
theorem aoE(h:p:=by
 go_wp2_with (go_at_call 191;(with_reducible refine(El _ _ _ cE.out.t (p_ cE.out.n ak)).mono ?_);rintro e gG ⟨rfl,rfl⟩)
 refine bodyPost_ret (by simp[results,results395,go_sem,fX,cn];rfl) rfl ?_
 exact⟨⟨_,_,rfl,Vo true cE.out.n cE.out.k x'.out _ ao,cE.out.k⟩,(cE.out.b.setCell (p:=⟨bQ,0,none⟩) cE.out.g.2.1 _).setCell (p:=⟨bQ,1,none⟩) cE.out.g.2.1 _⟩):p:=h
theorem acC(h:p:=by
 go_enter V_,ntmps202
 go_wp2_with (first|(go_at_call 53;(with_reducible refine(bH.out _).mono ?_);rintro e aq ⟨rfl,bp⟩;have ey:=G (cj T.h bp)))
 go_ret
 exact⟨rfl,ey.out⟩):p:=h
theorem aoQ(h:p:=by
 go_wp2_with (first|(go_at_call 110;((with_reducible refine(bl.out _).mono ?_);rintro e w' ⟨rfl,rfl⟩))|(go_at_call 110;((with_reducible refine(bH.out _).mono ?_);rintro e w' ⟨rfl,rfl⟩))|(go_at_call 108;((with_reducible refine(hV.out _).mono ?_);rintro e w' ⟨⟨t,rfl,J,aA⟩,A⟩)))
 go_ret
 exact⟨⟨t,rfl,J,aA⟩,A⟩):p:=h
theorem an7(h:p:=by
 first
  |(
   go_roundw
   case rel=>first|exact⟨k+1,z,bG,cj bk bu⟩|((repeat apply Exists.intro);refine⟨?_,rfl⟩;exact⟨k+1,z,bG,cj bk bu⟩)
   case measure=>simp[RowKit.intOf];omega)
  |(go_ret;exact⟨⟨_,rfl,fun e=>absurd e (ht.out fun aF=>by have:=AL aF;simp_all)⟩,cj bk bu⟩)):p:=h
theorem anX(h:p:=by
 go_wp2_with (first|(go_at_call 110;((with_reducible refine(bl.out _).mono ?_);rintro e w' ⟨rfl,rfl⟩))|(go_at_call 110;((with_reducible refine(bH.out _).mono ?_);rintro e w' ⟨rfl,rfl⟩))|(go_at_call 108;((with_reducible refine(hV.out _).mono ?_);rintro e w' ⟨⟨t,rfl,J⟩,A⟩)))
 go_ret
 exact⟨⟨t,rfl,J⟩,A⟩):p:=h
theorem acr(h:p:=by
 go_wp2
 refine ki em.o ?_
 exact⟨e7.some _ _ _ (aU.iW _ 1 _ 2 bO N S 0 none 0 none 0) (cm.out N S ka tV xh),iJ em.b z _ _ _ _ _ _ _⟩):p:=h
theorem acq(h:p:=by
 go_wp2
 exact⟨⟨p+1,false,z,bG,rfl,.inr (ht.out (by unfold Mc;omega)),Mp.out,MA.out,Mk.out,abE,XC.out⟩,by simp[RowKit.intOf];omega⟩):p:=h
theorem aoP(h:p:=by
 have A:=ahF t.data.toList k z
 have ax:=G (ahG t k au)
 have Q:=Rw t[k]
 generalize J:aT (t.data.toList.take k)=v at*
 clear J
 go_wp2
 go_round
 case rel=>exact⟨k+1,z,bG,by rw[ax.out];go_num⟩
 case measure=>simp[RowKit.intOf];omega):p:=h
theorem aoq(h:p:=by
 clear cM
 go_wp2
 go_roundw
 case rel=>first|exact⟨k+1,E,z,bG,kT,cm,hb,vu,Oy⟩|((repeat apply Exists.intro);refine⟨?_,rfl⟩;exact⟨k+1,E,z,bG,kT,cm,hb,vu,Oy⟩)
 case measure=>simp[RowKit.intOf];omega):p:=h
theorem PN(h:p:=by
 go_ret
 exact⟨rfl,rfl⟩):p:=h
theorem an9(h:p:=by
 go_enter func557,ntmps557
 go_wp2_with (go_at_call 53;(with_reducible refine(bl.out).mono ?_);rintro e am ⟨⟨cn,rfl,_⟩,aS⟩;have es:=T.K aS;have eN:=aK 0 es.p;have cC:=G (cj j1 aS))
 go_ret
 exact⟨⟨_,rfl⟩,cC.out⟩):p:=h
theorem aos(h:p:=by
 go_wp2
 go_roundw
 case rel=>first|exact⟨k+1,l,z,bG,U,eH.out,jG.out,dh.out,aA⟩|((repeat apply Exists.intro);refine⟨?_,rfl⟩;exact⟨k+1,l,z,bG,U,eH.out,jG.out,dh.out,aA⟩)
 case measure=>simp[RowKit.intOf];omega):p:=h
theorem aEe(h:p:=by
 clear gi fT gT aaD OQ bD
 go_wp2
 go_roundw
 case rel=>first|exact⟨m+1,z,bG,lr,fy⟩|((repeat apply Exists.intro);refine⟨?_,rfl⟩;exact⟨m+1,z,bG,lr,fy⟩)
 case measure=>simp[RowKit.intOf];omega):p:=h
theorem acz(h:p:=by
 go_wp2
 exact⟨⟨p+1,true,z,bG,rfl,.inl rfl,Mp.out,MA.out,Mk.out,abE,XC.out⟩,by simp[RowKit.intOf];omega⟩):p:=h
theorem aoW(h:p:=by
 go_wp2
 refine ki em.o ?_
 exact⟨e7.put (base:=am.drew.heap.size) ⟨_,_,_,_,_,_,_,_,_,_,_,_,rfl,ol,la,lE⟩ (show w.heap.size+1<am.heap.size from dT) (show w.heap.size≤am.heap.size by omega),iJ em.b z _ _ _ _ _ _ _⟩):p:=h
theorem ao0(h:p:=by
 refine bodyPost_ret (by simp[results,aeX,go_sem,fX,cn,dw];rfl) rfl ?_
 exact⟨⟨t,rfl,ai⟩,((hB.out.setCell (p:=⟨cw,0,none⟩) bx.out _).setCell (p:=⟨cw,1,none⟩) bx.out _).setCell (p:=⟨cw,2,none⟩) bx.out _⟩):p:=h
theorem ao1(h:p:=by
 rw[←wN.out]at RI
 go_roundw
 case rel=>first|exact⟨i+1,z,bG,RI.out,uM.out⟩|((repeat apply Exists.intro);refine⟨?_,rfl⟩;exact⟨i+1,z,bG,RI.out,uM.out⟩)
 case measure=>simp[RowKit.intOf];omega):p:=h
theorem anR(h:p:=by
 go_enter func531,ntmps531
 go_wp2_with (go_at_call 414;(with_reducible refine(bl.out _ _).mono ?_);rintro e am ⟨rfl,rfl⟩;rw[aj])
 go_ret2
 exact⟨⟨0,false,rfl,fun h=>by simp at h⟩,rfl⟩):p:=h
theorem an5(h:p:=by
 have aC:((((s[k]'au).toNat:Nat):Int)==0)=true:=by assumption
 go_round
 case rel=>exact⟨k+1,z,bG,asF aA.out (by rw[Yz s k au,aim aC])⟩
 case measure=>simp[RowKit.intOf];omega):p:=h
theorem anS(h:p:=by
 go_wp2
 refine⟨⟨j+1,x.tdiv 10,_,?_,rfl,?_,rfl,s0,hM,z,A.alloc A.size _⟩,?_⟩;rw[Lz,iY,Y];omega;congr 1;omega;simp only[RowKit.intOf];omega):p:=h
theorem aoU(h:p:=by
 obtain⟨g3,di,dL,fN,gt,g4,g9⟩:=eX em.o;obtain⟨z0,cy,dz,z3,z4,z5,eO⟩:=he em.o
 go_wp2
 refine ki em.o ?_
 exact⟨e7.none _ _ _ 3 ak ak,iJ em.b z _ _ _ _ _ _ _⟩):p:=h
theorem acx(h:p:=by
 have gU:¬(k:Int)<l.length:=z
 go_wp2
 go_ret
 exact⟨⟨_,rfl,fun _=>rfl⟩,A⟩):p:=h
theorem aod(h:p:=by
 have:n=1∨n=2∨n=3∨n=4∨n=5∨n=6∨n=7∨n=8∨n=9∨n=10∨n=11∨n=12:=z
 rcases this with rfl|rfl|rfl|rfl|rfl|rfl|rfl|rfl|rfl|rfl|rfl|rfl
 all_goals(intro w;kernel_rfl)):p:=h
theorem an6(h:p:=by
 obtain⟨a',fd,cg,fu⟩:=ce.Ut pM
 cases cg
 go_wp2
 go_ret
 exact⟨⟨_,_,l,rfl,z,(fu.low fun b A=>cO (qQ _) A),fV.out⟩,b'.b⟩):p:=h
theorem act(h:p:=by
 go_wp2
 go_ret
 exact⟨⟨_,rfl,fun e=>absurd e ht.out⟩,br _ _⟩):p:=h
theorem aoR(h:p:=by
 unfold N.cA
 split;kernel_rfl
 split;kernel_rfl
 split;kernel_rfl
 split;kernel_rfl
 split;kernel_rfl;kernel_rfl):p:=h
theorem anY(h:p:=by
 clear hD qy h
 go_wp2
 go_ret
 exact⟨⟨_,_,rfl,cM,eJ,kv.take _,by rw[nu];omega⟩,rfl⟩):p:=h
theorem acG(h:p:=by simp[go_sem,b5,eK,g0,rQ,ve,q1,h8 b5,h8 eK,h8 g0]):p:=h
theorem aoD(h:p:=by
 have au0:=G aby
 clear aby Kn
 go_wp2
 go_ret2
 exact⟨by unfold uZ;rw[←au0.out];rfl,rfl⟩):p:=h
theorem aEg(h:p:=by
 go_wp2
 go_roundw
 case rel=>exact⟨k+1,z,bG,_,rfl⟩
 case measure=>simp[RowKit.intOf];omega):p:=h
theorem acu(h:p:=by simp[go_sem,b5,eK,g0,c4,c5,fe,h8 b5,h8 eK,h8 g0]):p:=h
theorem aol(h:p:=by
 go_wp2
 exact⟨⟨k+1,z,bG,j'.mono fun i _=>ap5 W C n k m i,iv⟩,by simp[RowKit.intOf];omega⟩):p:=h
theorem anQ(h:p:=by
 go_wp2
 all_goals
  go_ret
  exact⟨⟨none,_,rfl,ao,fun ae=>absurd ae ao⟩,br _ _⟩):p:=h
theorem aoN(h:p:=by
 go_ret
 exact⟨⟨_,_,rfl,ao,fun ae=>absurd ae ao⟩,(br _ _).alloc (aZ _) _⟩):p:=h
theorem aoS(h:p:=by
 go_ret
 exact⟨⟨_,rfl,by rw[Lz];exact IH 1 _⟩,ey.out⟩):p:=h
theorem aoX(h:p:=by
 go_enter func509,ntmps509
 go_wp2
 go_ret
 exact⟨by simp[h],rfl⟩):p:=h
theorem aoY(h:p:=by
 go_ret
 exact⟨⟨_,rfl,by first|(simp only[SF,oP];simp)|simp[oP]⟩,jc.out⟩):p:=h
theorem acB(h:p:=by
 go_wp2
 go_ret
 exact⟨⟨_,rfl⟩,dh⟩):p:=h
theorem aoe(h:p:=by
 refine cF.out _ _ ⟨(cC.cell oT).trans fe,(cC.cell OZ).trans cl,(cC.cell qD).trans dt,(cC.cell Kw).trans ej⟩ (fun j_=>?_)
 clear cF bE
 refine h_ ?_
 refine oU 29 (fun bE cF=>?_)
 go_simp
 go_at_call 287
 refine(sl.out _ cC zJ).mono ?_
 rintro e w7 ⟨⟨EG,Le,rfl,Pf,vE,kE⟩,iu⟩
 have fx:=cj cC iu
 have aiu:=az fx PF DB
 exact aof):p:=h
theorem aoZ(h:p:=by
 refine cF.out _ _ ⟨(cC.cell C_).trans bx,(cC.cell Ky).trans tH⟩ (fun j_=>?_)
 clear cF bE
 refine h_ ?_
 refine oU 15 (fun bE cF=>?_)
 go_simp
 have ey:=cC.alloc cC.size (.cells #[.slice (some ⟨wr,0,none⟩) af af] 262)
 exact aon):p:=h
theorem aEf(h:p:=by
 obtain⟨k,L,rfl⟩:=hrel
 by_cases au:k<s.size
 ·obtain⟨a,b⟩:=aw.out k au
  have jq:(k:Int)<s.size:=z
  have c1:¬(s[k].toNat:Int)<32:=z
  have c2:¬126<(s[k].toNat:Int):=z
  exact aEn
 ·have jq:¬(k:Int)<s.size:=z
  go_wp2
  exact PN):p:=h
end Go
