/- ConflictAuthors. -/
import Derived.KernelRfl
import Derived.Calls
import Derived.Below
import Derived.BigQuiet
import Derived.Deep.AppendLies
import Derived.Deep.CutBlock
import Derived.Deep.DeepCutAuto
import Derived.Deep.QuietTactic
import Derived.Deep.RegionHeld3
import Derived.Deep.RegionLaw
import Derived.Deep.Upon
import Derived.Laws.IdiomStrings
import Derived.Laws.OwnMore
import Derived.Lib.Hide
import Derived.Lib.IndexBytes
import Derived.Lib.ItoaNum
import Derived.Lib.Join
import Derived.Lib.SlBytesRow
import Derived.Lib.SmallJoins
import Derived.LoopIn
import Derived.LoopNIn
import Derived.OneCell
import Derived.OwnWalkIn
import Derived.RangeFuncBox
import Derived.RangeFuncLeaves
import Derived.RangeFuncWrites
import Derived.StillTailTactics
import Derived.TacticsInMore
import Derived.WalkKit
import Derived.WalkLawsBesides
import Derived.WalkSpells
import Derived.Laws.Sem
import Derived.IntWalk
import Derived.Laws.StructEq
import Derived.Laws.BytesString
import Derived.Lib.UnsafeStr
import Derived.Lib.Bytealg
import Derived.Lib.MakeNoZero
import Derived.Shelf.SortM.Plain
import Derived.Shelf.SortM.SortNone
import Derived.Shelf.Slices.CompactI
import Derived.Ground.SlgmProg
import Derived.Ground.Names2Prog
import Derived.Laws.Rows
import Derived.Laws.AppendOwn
import Derived.Deep.AppendSrc
import Derived.Laws.IdiomCopy
import Derived.Shelf.LaySoft
import Derived.Shelf.Strings.Builder1
import Derived.Shelf.Strings.OnBuilder
import Derived.Shelf.Strings.BuilderK
import Derived.Shelf.Strings.Count
import Derived.Shelf.Strconv.Itoa0
import Derived.Shelf.Strconv.Itoa1
import Derived.Shelf.LaysM
import Derived.Shelf.Strconv.Itoa2
import Derived.Shelf.Strconv.Itoa3
import Derived.Shelf.Abstract
import Derived.Maps.AppendAt
import Derived.Sort.OwnSortedInts
import Derived.Lib.SlicesCompact
import Derived.Lib.AppendIntMem
import Derived.Test.YtfgcglgpfgifkaaGreatDoorProg
set_option linter.all false
set_option maxRecDepth 100000
set_option maxHeartbeats 16000000
namespace Go
open Go.Proofs.Tryz Go.RowKit
def G:=@Go.Lib.hid
def aZ:=@Nat.le_refl
def bi:=@Go.RowKit.Below.refl
def bn:=@if_neg
def cb:=@Option.some.injEq
def cv:=@if_pos
def db:=@Nat.le_trans
def dq:=@Nat.zero_le
def dz:=@Bool.and_eq_true
def dX:=@Go.Result.andThen_ok
def d':=@Go.Sem.run_bind
def er:=@cond_true
def eQ:=@Go.Sem.run_pure
def fL:=@Go.bodyPost_ret
def fM:=@List.getElem_mem
def gl:=@List.mem_cons
def gm:=@Nat.zero_add
def gn:=@Option.some.inj
def gP:=@Nat.le_of_ble_eq_true
def gV:=@Nat.eq_of_beq_eq_true
def g9:=@Prod.mk.injEq
def hl:=@Array.getElem?_eq_some_iff
def hm:=@Go.RowKit.Below.heap_setCell
def hs:=@List.all_eq_true
def ht:=@Ne.symm
def hG:=@Nat.add_zero
def hS:=@Go.Joins.block_setCell
def h5:=@trivial
def ie:=@List.length_append
def ig:=@Option.map_eq_some_iff
def ih:=@congrArg
def iz:=@Nat.lt_of_lt_of_le
def iK:=@cond_false
def i6:=@List.mem_cons_of_mem
def ji:=@Array.length_toList
def jt:=@Go.info_parts
def j2:=@List.getElem?_eq_some_iff
def kq:=@List.not_mem_nil
def kr:=@Nat.add_assoc
def ks:=@Nat.pow_le_pow_right
def ln:=@List.getElem?_eq_getElem
def lP:=@Go.wpList_append_own
def l8:=@beq_eq_false_iff_ne
def mo:=@Go.World.ownsRow_nil
def mp:=@Go.step_lone_go
def mO:=@Go.World.cell?_of_block
def mP:=@List.length_cons
def mQ:=@List.mem_cons_self
def nJ:=@List.mem_append
def n_:=@List.length_take
def oa:=@List.map_cons
def ob:=@Option.map_some
def oQ:=@Go.IntWalk.i64_in
def oR:=@Go.below_drewN
def oS:=@List.getElem?_take
def oT:=@Nat.le_succ
def oU:=@Nat.mul_le_mul_right
def oV:=@if_false
def pj:=@Go.wpAnyH_take
def pk:=@List.cons.injEq
def pm:=@List.getD_eq_getElem?_getD
def pn:=@List.getElem?_map
def pp:=@List.length_drop
def p0:=@Bool.false_eq_true
def p1:=@Go.heap_alloc_new
def p2:=@Nat.lt_of_le_of_lt
def p3:=@Nat.ne_of_lt
def qJ:=@Go.wpStill_nil
def qK:=@List.append_nil
def rv:=@Go.Steps.trans
def rx:=@Go.rounds_succ
def ry:=@Nat.mod_eq_of_lt
def sy:=@Go.World.news_of_block
def sz:=@Nat.add_comm
def sA:=@if_true
def tp:=@Go.World.cell?_setCell_far
def tq:=@Go.wp_region_still_lit
def ts:=@List.mem_range
def tt:=@List.take_of_length_le
def tu:=@List.take_succ_eq_append_getElem
def tv:=@Nat.mul_one
def tw:=@Nat.zero_mul
def uz:=@or_false
def vE:=@Array.ext'
def vF:=@List.nil_append
def vG:=@List.take_length
def vH:=@Nat.add_mul
def vI:=@Nat.lt_or_ge
def w0:=@List.getElem?_append_left
def w1:=@List.map_append
def w2:=@Nat.mod_lt
def w3:=@Nat.mul_le_mul
def w4:=@Nat.pow_succ
def yF:=@Array.getElem?_setIfInBounds
def yG:=@Array.getElem?_setIfInBounds_ne
def yH:=@Go.AllReadyH.cons
def yI:=@Go.ByteArray.toList_eq
def yJ:=@Go.wp_region_held_drew
def yK:=@List.eq_nil_of_length_eq_zero
def yL:=@List.flatMap_cons
def yM:=@List.getElem?_append_right
def yN:=@List.getElem_cons_zero
def yO:=@List.length_nil
def yP:=@List.mem_filter
def yQ:=@List.mem_map
def yR:=@List.take_append_drop
def yS:=@and_true
def Aq:=@Go.Addr.add_lit
def Ar:=@Go.run_program
def As:=@Go.wpAnyH_done
def Au:=@List.getElem_append_left
def Av:=@List.getElem_append_right
def Aw:=@List.mem_of_getElem?
def Ax:=@Nat.succ_pos
def Cj:=@Array.getElem?_toList
def Ck:=@Go.RowKit.Below.heap_alloc
def Cl:=@Go.Value.slice.injEq
def Cm:=@Go.wp_loop_rounds
def Cn:=@Int.natCast_mul
def Co:=@Int.ofNat_eq_natCast
def Cp:=@List.append_assoc
def Cq:=@List.map_nil
def Cr:=@List.mem_iff_getElem
def Cs:=@List.mem_singleton
def Ct:=@Nat.le_of_lt
def Cu:=@Nat.lt_succ_of_le
def Cv:=@Nat.lt_succ_self
def Cw:=@Nat.mul_add
def Cx:=@Nat.mul_assoc
def Cy:=@Option.bind_some
def Cz:=@true_and
def EW:=@Go.Value.int.injEq
def EX:=@Go.Value.string.injEq
def EY:=@List.drop_eq_getElem_cons
def EZ:=@List.flatMap_append
def E0:=@List.getElem?_eq_none
def E1:=@List.getElem_cons_succ
def E2:=@Nat.div_le_self
def E3:=@Nat.mul_comm
def E4:=@Nat.not_lt_zero
def E5:=@Nat.pow_pos
def HH:=@ByteArray.ext
def HI:=@ByteArray.size_append
def HJ:=@Go.AllReadyH.nil
def HK:=@Go.World.ownsRow_lit
def HL:=@Go.step_append_lies
def HM:=@Go.wpAnyH_ready
def HN:=@Int.tdiv_eq_ediv_of_nonneg
def HO:=@List.any_eq_true
def HP:=@List.drop_zero
def HQ:=@List.foldl_cons
def HR:=@List.getElem?_drop
def HS:=@List.length_eq_zero_iff
def HT:=@List.length_map
def HU:=@List.length_singleton
def HV:=@List.map_map
def HW:=@List.mem_iff_getElem?
def HX:=@List.mem_nil_iff
def HY:=@Nat.beq_refl
def HZ:=@Nat.ble_eq
def H0:=@Nat.ble_eq_true_of_le
def H1:=@Nat.lt_irrefl
def H2:=@Option.getD_some
def H3:=@getElem!_pos
def MH:=@Array.ext_getElem?
def MI:=@Array.getElem?_push
def MJ:=@Bool.not_false
def MK:=@Bool.or_eq_false_iff
def ML:=@Bool.or_eq_true
def MM:=@Function.comp_def
def MN:=@Go.IntWalk.wrap64_in
def MO:=@Go.Sem.runT_eq
def MP:=@Go.run_convert_bytes_arg
def MQ:=@Go.strOfNums_size
def MR:=@List.drop_eq_nil_of_le
def MS:=@List.flatMap_nil
def MT:=@List.map_take
def MU:=@List.map_toArray
def MV:=@List.mem_flatMap
def MW:=@List.mem_of_mem_take
def MX:=@List.pairwise_cons
def MY:=@List.range_succ
def MZ:=@Nat.add_sub_cancel
def M0:=@Nat.lt_succ_iff_lt_or_eq
def M1:=@Nat.min_eq_left
def M2:=@Nat.one_mul
def M3:=@Nat.pos_of_ne_zero
def M4:=@UInt8.toNat_lt
def Rz:=@UInt8.toNat_ofNat'
def RA:=@Array.getElem?_eq_none
def RB:=@Array.getElem?_modify
def RC:=@Array.getElem_setIfInBounds
def RD:=@Bool.eq_false_or_eq_true
def RE:=@Bool.not_true
def RF:=@Go.run_convert_bytes_nil
def RG:=@Go.run_newObj
def RH:=@Go.strOfNums_data
def RI:=@Go.wpList_plain
def RJ:=@List.cons_append
def RK:=@List.drop_succ_cons
def RL:=@List.getElem?_toArray
def RM:=@List.getElem_of_mem
def RN:=@List.getElem_singleton
def RO:=@List.mem_append_left
def RP:=@List.mem_zipIdx_iff_getElem?
def RQ:=@List.pairwise_iff_getElem
def RR:=@Nat.eq_zero_or_pos
def RS:=@Nat.le_add_right
def RT:=@Nat.lt_trans
def RU:=@Nat.lt_trichotomy
def RV:=@Nat.mul_div_cancel
def RW:=@Nat.succ_lt_succ
def RX:=@UInt8.toNat_inj
def RY:=@decide_eq_decide
def RZ:=@decide_eq_false
def R0:=@decide_eq_true_eq
def aaN:=@Go.grownBy_putObj'
def aaO:=@List.range'_1_concat
def aaP:=@UInt8.toNat_ofNat_of_lt'
def aaQ:=@Array.mapM_eq_mapM_toList
def aaR:=@Go.Lib.decDigits_length
def aaS:=@Go.Lib.extract_to_end
def aaT:=@Go.Lib.nDigits_small
def aaU:=@Go.Proofs.Tryz.underlying22
def aaV:=@Go.Proofs.Tryz.underlying3
def aaW:=@Go.Proofs.Tryz.zeroValue22
def aaX:=@Go.Proofs.Tryz.zeroValue3
def aaY:=@Go.Sem.run_map
def aaZ:=@Go.World.block_lt_of_cell?
def aa0:=@Go.World.cell?_setCells_out
def aa1:=@Go.World.ownsRow.alloc
def aa2:=@Go.results_cell_row
def aa3:=@Go.run_askRoom
def aa4:=@Go.run_underlying
def aa5:=@Int.natCast_add
def aa6:=@Int.tmod_lt_of_pos
def aa7:=@Int.toNat_natCast
def aa8:=@List.filter_cons
def aa9:=@List.flatten_append
def aa_:=@List.foldl_append
def aa':=@List.getElem?_cons_succ
def aba:=@List.getElem?_range
def abb:=@List.length_range
def abc:=@List.mapM_cons
def abd:=@List.map_singleton
def abe:=@Nat.lt_of_not_le
def abf:=@Nat.pow_add
def abg:=@Nat.sub_le
def abh:=@Nat.sub_zero
def abi:=@Nat.succ_mul
def abj:=@Option.isSome_none
def abk:=@Option.isSome_some
def abl:=@Option.map_none
def abm:=@UInt8.toNat_ofNat
def abn:=@not_true_eq_false
def abo:=@of_decide_eq_false
def ani:=@Array.all_eq_true'
def anj:=@List.mem_range'_1
def ank:=@Array.foldl_toList
def anl:=@Array.getD_eq_getD_getElem?
def anm:=@Array.getElem?_append_left
def ann:=@Array.getElem?_eq_getElem
def ano:=@Array.toArray_toList
def anp:=@Bool.or_eq_true_iff
def anq:=@ByteArray.data_extract
def anr:=@Go.World.cell?_setCell_other
def ans:=@Go.World.cell?_setCell_same
def ant:=@Go.World.frozen?_setCells
def anu:=@Go.World.heap_setCells_other
def anv:=@Go.run_convert_bytes_string
def anw:=@Int.lt_tmod_of_pos
def anx:=@Int.toNat_of_nonneg
def anz:=@List.contains_iff_mem
def anA:=@List.drop_of_length_le
def anB:=@List.ext_getElem?
def anC:=@List.filter_eq_nil_iff
def anD:=@List.flatMap_eq_nil_iff
def anE:=@List.flatten_cons
def anF:=@List.getElem_drop
def anG:=@List.getElem_eraseIdx
def anH:=@List.getElem_toArray
def anI:=@List.length_eraseIdx
def anJ:=@List.length_filter_le
def anK:=@List.length_mergeSort
def anL:=@List.map_congr_left
def anM:=@List.mem_of_mem_drop
def anN:=@List.singleton_append
def anO:=@List.take_sublist
def anP:=@List.take_succ_cons
def anQ:=@Nat.div_le_div_right
def anR:=@Nat.le_div_iff_mul_le
def anS:=@Nat.le_mul_of_pos_right
def anT:=@UInt8.lt_iff_toNat_lt
def anU:=@of_decide_eq_true
theorem z{p:Prop}(h:p:=by omega):p:=h
theorem ai{p:Prop}(h:p:=by decide):p:=h
theorem am{p:Prop}(h:p:=by simp):p:=h
theorem bu{p:Prop}(h:p:=by simp;omega):p:=h
theorem dE{p:Prop}(h:p:=by rw [yI]; decide):p:=h
theorem au{p:Prop}(h:p:=by kernel_rfl):p:=h
theorem bM{p:Prop}(h:p:=by first|rfl|omega|(refine congrArg _ ?_;omega)|(simp;omega)):p:=h
theorem aA{B:Nat}{w w':World}(bG:Below B w w'){b o:Nat}(A:b<B){x:Option Value}(h:w.cell? ⟨b,o,none⟩=x):w'.cell? ⟨b,o,none⟩=x:=(bG.cell (p:=⟨b,o,none⟩) A).trans h
theorem s_{B:Nat}{w w':World}(bG:Below B w w'){b o:Nat}(A:b<B){x:Bool}(h:w.frozen? ⟨b,o,none⟩=x):w'.frozen? ⟨b,o,none⟩=x:=(bG.frozen (p:=⟨b,o,none⟩) A).trans h
theorem aS(i:Nat){w:World}{b:Nat}{cs:Array Value}{t:TypeId}{v:Value}(h:w.heap[b]? =some (.cells cs t (0,0)))(J:cs[i]? =some v:=by exact rfl):w.cell? ⟨b,i,none⟩=some v:=by simp[World.cell?,h,J]
theorem Ln(i:Nat){w:World}{b:Nat}{cs:Array Value}{t:TypeId}(h:w.heap[b]? =some (.cells cs t (0,0))):w.frozen? ⟨b,i,none⟩=false:=by simp[World.frozen?,h]
theorem fH(w:World)(o:Obj):Below w.heap.size w (w.alloc o):=(bi _ _).alloc (aZ _) o
theorem lK(w:World):Below w.heap.size w w.drew:=(bi _ _).drew
theorem b_{w ap ao:World}(h:Below w.heap.size w ap)(k:Below ap.heap.size ap ao):Below w.heap.size w ao:=h.trans (k.mono h.size)
theorem cE{B b:Nat}{w w':World}(k:Below B w w')(h:b<w.heap.size):b<w'.heap.size:=iz h k.size

theorem awV{w:World}{b n:Nat}{v0 eJ eO v3 v4 v5 h4 tl rr v9 Mv Mw Mx My Mz MA:Value}{l:List Value}(h:∀i,i<16→w.cell? ⟨b,n+i,none⟩=(v0::eJ::eO::v3::v4::v5::h4::tl::rr::v9::Mv::Mw::Mx::My::Mz::MA::l).toArray[i]?):w.cell? ⟨b,n,none⟩=some v0∧w.cell? ⟨b,n+1,none⟩=some eJ∧w.cell? ⟨b,n+2,none⟩=some eO∧w.cell? ⟨b,n+3,none⟩=some v3∧w.cell? ⟨b,n+4,none⟩=some v4∧w.cell? ⟨b,n+5,none⟩=some v5∧w.cell? ⟨b,n+6,none⟩=some h4∧w.cell? ⟨b,n+7,none⟩=some tl∧w.cell? ⟨b,n+8,none⟩=some rr∧w.cell? ⟨b,n+9,none⟩=some v9∧w.cell? ⟨b,n+10,none⟩=some Mv∧w.cell? ⟨b,n+11,none⟩=some Mw∧w.cell? ⟨b,n+12,none⟩=some Mx∧w.cell? ⟨b,n+13,none⟩=some My∧w.cell? ⟨b,n+14,none⟩=some Mz∧w.cell? ⟨b,n+15,none⟩=some MA:=⟨h 0 (by decide),h 1 (by decide),h 2 (by decide),h 3 (by decide),h 4 (by decide),h 5 (by decide),h 6 (by decide),h 7 (by decide),h 8 (by decide),h 9 (by decide),h 10 (by decide),h 11 (by decide),h 12 (by decide),h 13 (by decide),h 14 (by decide),h 15 (by decide)⟩
theorem gH{p q:Prop}(k:q)(h:q=p:=by(try simp only[Act.put,List.setIfInBounds_toArray,List.set_cons_zero,List.set_cons_succ]);rfl):p:=h▸k

theorem jK{w:World}{b:Nat}{t:TypeId}{v0 eJ:Value}{l:List Value}(h:w.heap[b]? =some (.cells (v0::eJ::l).toArray t (0,0))):w.cell? ⟨b,0,none⟩=some v0∧w.cell? ⟨b,1,none⟩=some eJ:=by simp[World.cell?,h]
theorem wj{w:World}{b:Nat}{t:TypeId}{v0 eJ eO:Value}{l:List Value}(h:w.heap[b]? =some (.cells (v0::eJ::eO::l).toArray t (0,0))):w.cell? ⟨b,0,none⟩=some v0∧w.cell? ⟨b,1,none⟩=some eJ∧w.cell? ⟨b,2,none⟩=some eO:=by simp[World.cell?,h]
theorem T'{w:World}{b:Nat}{t:TypeId}{v0 eJ eO v3:Value}{l:List Value}(h:w.heap[b]? =some (.cells (v0::eJ::eO::v3::l).toArray t (0,0))):w.cell? ⟨b,0,none⟩=some v0∧w.cell? ⟨b,1,none⟩=some eJ∧w.cell? ⟨b,2,none⟩=some eO∧w.cell? ⟨b,3,none⟩=some v3:=by simp[World.cell?,h]
theorem aew{w:World}{b:Nat}{t:TypeId}{v0 eJ eO v3 v4:Value}{l:List Value}(h:w.heap[b]? =some (.cells (v0::eJ::eO::v3::v4::l).toArray t (0,0))):w.cell? ⟨b,0,none⟩=some v0∧w.cell? ⟨b,1,none⟩=some eJ∧w.cell? ⟨b,2,none⟩=some eO∧w.cell? ⟨b,3,none⟩=some v3∧w.cell? ⟨b,4,none⟩=some v4:=by simp[World.cell?,h]
theorem fZ{w:World}{b:Nat}{t:TypeId}{v0 eJ eO v3 v4 v5:Value}{l:List Value}(h:w.heap[b]? =some (.cells (v0::eJ::eO::v3::v4::v5::l).toArray t (0,0))):w.cell? ⟨b,0,none⟩=some v0∧w.cell? ⟨b,1,none⟩=some eJ∧w.cell? ⟨b,2,none⟩=some eO∧w.cell? ⟨b,3,none⟩=some v3∧w.cell? ⟨b,4,none⟩=some v4∧w.cell? ⟨b,5,none⟩=some v5:=by simp[World.cell?,h]
theorem eU{w:World}{b:Nat}{t:TypeId}{v0 eJ eO v3 v4 v5 h4:Value}{l:List Value}(h:w.heap[b]? =some (.cells (v0::eJ::eO::v3::v4::v5::h4::l).toArray t (0,0))):w.cell? ⟨b,0,none⟩=some v0∧w.cell? ⟨b,1,none⟩=some eJ∧w.cell? ⟨b,2,none⟩=some eO∧w.cell? ⟨b,3,none⟩=some v3∧w.cell? ⟨b,4,none⟩=some v4∧w.cell? ⟨b,5,none⟩=some v5∧w.cell? ⟨b,6,none⟩=some h4:=by simp[World.cell?,h]
theorem Df{w:World}{b:Nat}{t:TypeId}{v0 eJ eO v3 v4 v5 h4 tl rr v9 Mv Mw Mx My Mz MA:Value}{l:List Value}(h:w.heap[b]? =some (.cells (v0::eJ::eO::v3::v4::v5::h4::tl::rr::v9::Mv::Mw::Mx::My::Mz::MA::l).toArray t (0,0))):w.cell? ⟨b,0,none⟩=some v0∧w.cell? ⟨b,1,none⟩=some eJ∧w.cell? ⟨b,2,none⟩=some eO∧w.cell? ⟨b,3,none⟩=some v3∧w.cell? ⟨b,4,none⟩=some v4∧w.cell? ⟨b,5,none⟩=some v5∧w.cell? ⟨b,6,none⟩=some h4∧w.cell? ⟨b,7,none⟩=some tl∧w.cell? ⟨b,8,none⟩=some rr∧w.cell? ⟨b,9,none⟩=some v9∧w.cell? ⟨b,10,none⟩=some Mv∧w.cell? ⟨b,11,none⟩=some Mw∧w.cell? ⟨b,12,none⟩=some Mx∧w.cell? ⟨b,13,none⟩=some My∧w.cell? ⟨b,14,none⟩=some Mz∧w.cell? ⟨b,15,none⟩=some MA:=by simp[World.cell?,h]
theorem nR{w:World}{b:Nat}{cs:Array Value}{t:TypeId}(h:w.heap[b]? =some (.cells cs t (0,0))):w.frozen? ⟨b,0,none⟩=false∧w.frozen? ⟨b,1,none⟩=false:=by simp[World.frozen?,h]
theorem Ge{w:World}{b:Nat}{cs:Array Value}{t:TypeId}(h:w.heap[b]? =some (.cells cs t (0,0))):w.frozen? ⟨b,0,none⟩=false∧w.frozen? ⟨b,1,none⟩=false∧w.frozen? ⟨b,2,none⟩=false:=by simp[World.frozen?,h]
theorem gI{w:World}{b:Nat}{cs:Array Value}{t:TypeId}(h:w.heap[b]? =some (.cells cs t (0,0))):w.frozen? ⟨b,0,none⟩=false∧w.frozen? ⟨b,1,none⟩=false∧w.frozen? ⟨b,2,none⟩=false∧w.frozen? ⟨b,3,none⟩=false∧w.frozen? ⟨b,4,none⟩=false∧w.frozen? ⟨b,5,none⟩=false∧w.frozen? ⟨b,6,none⟩=false:=by simp[World.frozen?,h]

theorem rj{p:Prop}(h:p:=by
 by_cases h:b<16
 ·rcases oH h with rfl|rfl|rfl|rfl|rfl|rfl|rfl|rfl|rfl|rfl|rfl|rfl|rfl|rfl|rfl|rfl<;>rfl
 ·obtain⟨k,rfl⟩:∃k,b=k+16:=⟨b-16,z⟩
  rfl):p:=h
theorem ajS{p:Prop}(h:p:=by
 refine⟨fun b x A=>?_,fun b df x cD p bQ A fq ag ew iY=>?_,fun b A=>?_⟩
 ·rcases oI b x A with H|⟨rfl,rfl⟩
  ·obtain⟨p,e,vs,rfl,ag,_,_,c'⟩:=base b x H
   exact⟨p,X b p ag,c'.ext X⟩
  ·refine⟨_,Kg,uR S.bs,aek _ _ _,?_,fun i hi=>?_⟩
   ·show w.heap[ed]? =some (Obj.cells (mB w ed) 138 (pF w ed))
    rw[VR,xV];exact l0
   ·show(mB w ed)[o+i]? =_
    rw[VR]
    exact aeg S.bs o L i (by rw[←aef];exact hi)
 ·have mixed:∀b x p,(b,x)∈mZ→j1 b=some p→p.aU≠ed:=fun b x p H I e=>by
   obtain⟨q,ak,vs,_,az,U_,⟨ze,J',e4⟩,_⟩:=base b x H
   obtain rfl:p=q:=gn (I.symm.trans (X b q az))
   rw[e,l0]at e4
   cases e4
   exact U_ rfl
  rcases oI b x A with H|⟨rfl,rfl⟩<;>rcases oI df cD fq with I|⟨rfl,rfl⟩
  ·obtain⟨e,vs,t,wr,rfl,ql⟩:=yl qq H
   obtain⟨cw,yx,jD,am9,rfl,Pb⟩:=yl qq I
   obtain⟨q,az,_⟩:=bw.aU b _ ql
   obtain⟨ic,jf,_⟩:=bw.aU df _ Pb
   obtain rfl:p=q:=gn (ag.symm.trans (X b q az))
   obtain rfl:bQ=ic:=gn (ew.symm.trans (X df ic jf))
   exact bw.inj b df _ _ p bQ ql Pb az jf iY
  ·rw[Kg]at ew;cases ew;exact mixed b x p H ag
  ·rw[Kg]at ag;cases ag;exact ht (mixed df cD bQ I ew)
  ·exact absurd rfl iY
 ·rw[B0]at A
  have A:22≤b:=A
  rw[x8]
  simp only
  rw[if_neg z]
  exact kh b z):p:=h
theorem ayt{p:Prop}(h:p:=by rcases oH h with rfl|rfl|rfl|rfl|rfl|rfl|rfl|rfl|rfl|rfl|rfl|rfl|rfl|rfl|rfl|rfl<;>rfl):p:=h
theorem Xy{p:Prop}(h:p:=by
 refine bodyPost_ret (jp (fn:=f373) rfl _ _ (w.heap.size+1) 44 _ (0,0) _ _ rfl rfl (h3 dP.o _ _ _ _ _ _ _) underlying44 rfl iJ) rfl ?_
 exact⟨eS.some _ _ _ (aY.iE _ 1 _ 1 _ 0 0 0 none 0 none 0) (.g8 _ cd.out),ib dP.b z _ _ _ _ _ _ _⟩):p:=h
theorem P4{p:Prop}(h:p:=by
 refine J7 h L fun cs=>?_
 have aL:c.args.map (dT a)=#[u,x]:=by apply vE;rw[O]
 rw[aL]
 simp only[builtin,d',Y,dX,eQ]):p:=h
theorem aju{p:Prop}(h:p:=by
 rcases aM with aM|⟨g,cap,cj,ak,aJ,bv,cT⟩
 ·exact .inl aM
 ·exact .inr ⟨g,cap,cj,ak,aJ,by rw[A.block g (hl.1 bv).1];exact bv,cT⟩):p:=h
theorem Xx{p:Prop}(h:p:=by
 refine⟨(((bi _ _).alloc (aZ _) _).alloc am _).alloc bu _,?_,?_,?_⟩
 ·rw[wB _ _ z,wB _ _ z];exact da _ _
 ·rw[wB _ _ z,←cy];exact da _ _
 ·rw[←cy,←dv];exact da _ _):p:=h
theorem ai8{p:Prop}(h:p:=by
 have b2:s.data.toList.length=s.size:=ji
 have cL:t.data.toList.length=t.size:=ji
 have hp:t.size=s.size-k:=by rw[←cL,ak,pp,b2]
 refine⟨by rw[ak];exact I_ _ _ ax,z,fun n aw=>?_⟩
 by_cases h:k<s.data.toList.length
 ·rw[←I_ _ _ ax,EY h]at aw
  have I:=ac' (aL h) aw
  rw[←EY h,←ak,cL]at I
  exact I
 ·omega):p:=h
theorem Xt{p:Prop}(h:p:=by
 rcases Int.le_total 0 x with h|h
 ·rw[HN h];omega
 ·have aM:=Int.neg_tdiv (a:= -x) (b:=10);have bZ:=HN (a:= -x) (b:=10) z;rw[Int.neg_neg,bZ]at aM;omega):p:=h
theorem Xq{p:Prop}(h:p:=by
 refine⟨fun b x A=>?_,fun b df x cD p bQ A=>?_,fun b A=>?_⟩
 ·simp[gU,ay.cK,T.cK]at A
 ·simp[gU,ay.cK,T.cK]at A
 ·have A:13≤b:=A
  unfold nc
  rw[if_neg z]):p:=h
theorem aj2{p:Prop}(h:p:=by
 have e:(jI n 8).map (fun x=>UInt8.ofNat x.toNat)=[UInt8.ofNat (n/72057594037927936%256),UInt8.ofNat (n/281474976710656%256),UInt8.ofNat (n/1099511627776%256),UInt8.ofNat (n/4294967296%256),UInt8.ofNat (n/16777216%256),UInt8.ofNat (n/65536%256),UInt8.ofNat (n/256%256),UInt8.ofNat (n/1%256)]:=rfl
 rw[e]
 simp only[aT,HQ,List.foldl_nil,XY]
 omega):p:=h
theorem ai0{p:Prop}(h:p:=by
 have H:aE (ρ.at w) j1 zg=some bp:=by
  rw[FY (ρ:=ρ.at w) (ρ':=ρ) rfl];exact tT X Gw
 have I:aE (ρ.at w) j1 (.slice 21 0 S.bs.length 2 none)=some (.slice (some ⟨ed,o,none⟩) S.bs.length cc):=by
  simp only[aE,Kg,ob,i9]
  simp
 simp only[bU,zl,H,I]):p:=h
theorem P1{p:Prop}(h:p:=by exact Ga h O.1 O.2 (kN _ _) (fun n=>by simp[Op.equalIn,gF hd]) rfl rfl J):p:=h
theorem ajs{p:Prop}(h:p:=by
 refine bodyPost_ret (jp (fn:=f284) rfl _ _ w.heap.size 44 _ (0,0) _ _ rfl rfl (h3 gX _ _ _ _ _ _ _) underlying44 rfl iJ) rfl ?_
 exact⟨eS.put (base:=di.heap.size) ⟨_,_,_,_,_,_,_,_,_,_,_,_,rfl,ny,kM,lf⟩ lg x4,ib dc.out.b z _ _ _ _ _ _ _⟩):p:=h
theorem aj7{p:Prop}(h:p:=by
 induction l with
 |nil=>intro n;simp[aT]
 |cons c l e1=>
  intro n
  simp only[HQ,mP,aT]
  rw[e1,e1 (0*256+c.toNat),w4]
  have:n*(256^l.length*256)=n*256*256^l.length:=by rw[Cx,E3 256]
  rw[this]
  simp only[tw,gm,vH]
  omega):p:=h
theorem ajN{p:Prop}(h:p:=by
 rw[xp]at h
 have H:1≤c.toNat:=by
  have:c.toNat≠0:=fun e=>L (RX.1 (by simpa using e))
  omega
 have I:256^l.length≤c.toNat*256^l.length:=Nat.le_mul_of_pos_left _ H
 have af:256^l.length<256^n:=z
 have:=(Nat.pow_lt_pow_iff_right z).1 af
 simp only[mP]
 omega):p:=h
theorem ajm{p:Prop}(h:p:=by
 obtain⟨gq,w',⟨rfl,rfl⟩,V⟩:=NW (R:=fun gq w'=>gq=c∧w'=w) (b:=b) (ds:=ds) (k:=k) (cs:=cs) (rest:=rest) bI e4 uW.r.Qe (.inl ⟨c,w,Y,rfl,rfl⟩)
 exact⟨σ,_,_,v.alq aj bI hd jm uW.r.dst ev hB (fun _ _ _ h=>by cases h) (fun _ _ _ h=>by cases h) L,V⟩):p:=h
theorem P2{p:Prop}(h:p:=by
 rcases I.2 with⟨aM,bZ⟩|⟨o4,cap,cj,ak,aJ,_⟩
 ·rw[bZ];exact⟨_,_,aM⟩
 ·exact⟨_,_,ak⟩):p:=h
theorem ajV{p:Prop}(h:p:=by
 obtain⟨sW,gr,jz,fC,O⟩:=j6 V
 simp[fm,h,Op.operands]at O
 simp only[aE,cb]at jz fC
 subst jz;subst fC
 exact Ga h O.1 O.2 (fun op=>Ds (.inl am) am) (fun n=>by simp[Op.equalIn,gF hd]) rfl rfl J):p:=h
theorem ajK{p:Prop}(h:p:=by
 obtain⟨e,vs,t,wr,rfl,ql⟩:=yl qq an
 obtain⟨p,ag,c'⟩:=bw.aU b _ ql
 have U_:=hs.1 ay9 _ an
 refine⟨p,e,vs,rfl,ag,fun ak=>?_,?_,Yt c'⟩
 ·subst ak;simp at U_
 ·obtain⟨arr,bg,H,_⟩:=c';exact⟨arr,bg,H⟩):p:=h
theorem ajJ{p:Prop}(h:p:=by
 rcases aM with⟨aM,bZ⟩|⟨o4,cap,cj,ak,aJ,_⟩
 ·subst aM;simp[Value.ownBlock]at al
 ·subst ak;simp[Value.ownBlock]at al;omega):p:=h
theorem LF{p:Prop}(h:p:=by exact⟨rfl,(bi _ _).alloc (aZ _) _⟩):p:=h
theorem ajq{p:Prop}(h:p:=by
 unfold te at e
 refine afB Q (fun aL=>?_) e
 cases az:v with
 |none=>rw[az]at aL;simp[dU.i2]at aL
 |some u=>
  rw[az]at aL
  simp only at aL
  rw[X']at aL
  simp only[zf,xs,J u az,Cy]
  exact Q _ _ aL):p:=h
theorem ai3{p:Prop}(h:p:=by
 obtain⟨af,aM⟩:=h
 rcases aM with⟨aM,_⟩|⟨g,cap,cj,ak,aJ,bv,cT⟩
 ·subst aM;simp[Value.ownBlock]
 ·subst ak
  simp only[Value.ownBlock,ne_eq,cb]
  intro jw
  subst jw
  rw[A]at bv
  cases bv
  exact ah rfl):p:=h
theorem ajf{p:Prop}(h:p:=by
 obtain⟨c,L,O⟩:=iW V
 simp[fm,h,Op.operands]at O
 simp only[aE,cb]at L
 subst L
 refine⟨_,rfl,?_⟩
 simp[execOp,h,O,convert,gF jU,gF hd,Conv.unsafePointer]):p:=h
theorem aiT{p:Prop}(h:p:=by
 obtain⟨fN,H,I,af⟩:=h.o
 intro g al
 rcases I.2 with⟨aM,_⟩|⟨o4,cap,cj,ak,aJ,bv,cT⟩
 ·subst aM;simp[Value.ownBlock]at al
 ·subst ak
  simp[Value.ownBlock]at al
  subst al
  exact⟨aJ,b1 bv⟩):p:=h
theorem Xv{p:Prop}(h:p:=by
 intro j u aa
 cases j with
 |zero=>
  simp at aa
  subst aa
  exact aS 0 (da w _)
 |succ j=>simp at aa):p:=h
theorem ai1{p:Prop}(h:p:=by
 rw[ln I]at H
 simp only[World.cell?,kL,gm]
 simp only[Cj]at H
 rw[H,pm,ln I]
 rfl):p:=h
theorem ajB{p:Prop}(h:p:=by
 have H:=wd (l.take k)
 have I:(l.take k).length≤6:=by rw[n_];omega
 have af:256^(l.take k).length≤256^6:=ks z I
 have aM:(256:Nat)^6=281474976710656:=ai
 omega):p:=h
theorem ajz{p:Prop}(h:p:=by
 obtain⟨c,L,O⟩:=iW V
 simp[fm,h,Op.operands]at O
 have kJ:=L
 simp only[aE,ig]at L
 obtain⟨p,ag,rfl⟩:=L
 exact⟨_,kJ,by simp[execOp,h,O]⟩):p:=h
theorem P3{p:Prop}(h:p:=by
 refine⟨_,rfl,Yu h L O ?_⟩
 simp[Builtin.len_,ah,gF hu]):p:=h
theorem aiX{p:Prop}(h:p:=by
 rcases h.2 with⟨ak,_⟩|⟨g,cap,cj,ak,aJ,bv,cT,jw,ly,nr⟩
 ·exact absurd ak ab
 ·refine⟨g,cap,cj,ak,aJ,bv,cT,ly,fun i hi=>?_⟩
  rw[←nr,oS,if_pos hi]
  simp):p:=h
theorem aja{p:Prop}(h:p:=by
 refine J7 h L fun cs=>?_
 have aL:c.args.map (dT a)=#[u]:=by apply vE;rw[O]
 rw[aL]
 simp only[builtin,d',Y,dX,eQ]
 rfl):p:=h
theorem XF{p:Prop}(h:p:=by exact Ga h O.1 O.2 (kN _ _ _ _ _ _) (fun n=>by simp[Op.equalIn,gF hd]) rfl rfl J):p:=h
theorem aj0{p:Prop}(h:p:=by
 have H:AZ mZ=true:=au
 simp only[AZ]at H
 simp only[AZ,ux,List.all_append,dz]
 exact⟨H,by simp[em.PP]⟩):p:=h
theorem aj4{p:Prop}(h:p:=by
 simp only[aE,cb]at L
 subst L
 have:l=[]:=by simpa using hi
 subst this
 exact⟨none,0,rfl,am,fun h=>absurd h am⟩):p:=h
theorem ajE{p:Prop}(h:p:=by
 rcases nJ.1 (yi j' A)with H|H
 ·exact .inl H
 ·simp only[Cs,g9]at H;exact .inr H):p:=h
theorem ajZ{p:Prop}(h:p:=by
 refine .inr ⟨g,cap,cj,ak,aJ,?_,cT⟩
 rw[hm _ _ _ _ (fun e=>b5 (by subst ak;simp[Value.ownBlock,e]))]
 exact bv):p:=h
theorem ajO{p:Prop}(h:p:=by
 rw[jC]at this
 exact this):p:=h
theorem ajT{p:Prop}(h:p:=by
 obtain⟨e5,dw,dO,Pg,ak,aJ,bv,cT⟩:=Bp aR
 rw[←aj.len]
 have:=(j2.1 aJ).1
 omega):p:=h
theorem aiY{p:Prop}(h:p:=by
 obtain⟨ed,fY,arr,bg,e,jP,_⟩:=h.ns.c
 rw[X]at e
 cases e
 have:=b1 jP
 show ed≠w.heap.size+2
 omega):p:=h
theorem ayu{p:Prop}(h:p:=by
 rw[ba.block _ (by simp only[jC];omega)]
 rw[wB _ _ (by simp only[jC];omega)]
 exact da w _):p:=h
theorem aiZ{p:Prop}(h:p:=by
 obtain⟨v,w',r,s⟩:=ahD (fr b a ds (.inRegion ops (i::rest)::k)) cs
 rw[zy]at s
 exact⟨v,w',r,.head H s⟩):p:=h
theorem aj6{p:Prop}(h:p:=by
 rw[A9]at ax
 have ax:¬b=0:=by simpa using ax
 subst h
 exact⟨_,fun _=>rfl,by simp[binOp,Op.intDiv,ax]⟩):p:=h
theorem ajL{p:Prop}(h:p:=by
 rw[tu aa]
 unfold qy
 rw[w1,List.filter_append,w1]
 simp[h]):p:=h
theorem ayq{p:Prop}(h:p:=by
 obtain⟨Q,e4⟩:=akU (base:=base) (n:=n) (cap:=cap) al fB
 exact(h.lt.gf (Q.wY fun b A=>A.1)).low e4):p:=h
theorem ajP{p:Prop}(h:p:=by
 obtain⟨fN,H,I,af⟩:=h.o
 exact⟨fN,H,n2 I Q,fun j a b=>(af j a b).gf (Q.wY fun b A=>A.1)⟩):p:=h
theorem ajA{p:Prop}(h:p:=by exact⟨eS.some _ _ _ (aY.iE _ 1 _ 4 bL 0 0 q none 0 none 0) (.lU q az),ib dP.b z _ _ _ _ _ _ _⟩):p:=h
theorem ajo{p:Prop}(h:p:=by
 simp only[ig]at h
 obtain⟨l,O,rfl⟩:=h
 simp[aE,BV O]):p:=h
theorem Xr{p:Prop}(h:p:=by simp[gj,yF,ht this]):p:=h
theorem ajj{p:Prop}(h:p:=by
 apply anL
 intro s V
 rw[if_neg (by have:=ts.1 V;omega)]):p:=h
theorem ayr{p:Prop}(h:p:=by
 obtain⟨k,rfl⟩:∃k,i=k+16:=⟨i-16,z⟩
 rfl):p:=h
theorem ajD{p:Prop}(h:p:=by
 have:=qh.cells (g:=g) (by rw[mf];rfl) j ss[j] am
 rw[Aq]at this
 rw[this,e]):p:=h
theorem ajh{p:Prop}(h:p:=by
 simp only[qe,qs,ov,cond_false,cb]at h
 exact asp h.symm):p:=h
theorem ajg{p:Prop}(h:p:=by
 rw[oS,if_pos z]at this
 simp only[World.cell?,bv]
 simpa using this):p:=h
theorem ai6{p:Prop}(h:p:=by
 simp only[aE,ig]at h
 obtain⟨p,ag,rfl⟩:=h
 exact⟨p,ag,rfl⟩):p:=h
theorem ajM{p:Prop}(h:p:=by simp only[execOp,h,ak,d',abl,eD,dX,eQ]):p:=h
theorem ajH{p:Prop}(h:p:=by
 rw[tu (by rw[ji];exact h),Ta]
 rfl):p:=h
theorem ajy{p:Prop}(h:p:=by
 obtain⟨dJ,eH,Dn,a,bg,A⟩:=I ab
 exact⟨dJ,eH,Dn,a,bg,Q _ _ _ _ ai A⟩):p:=h
theorem ajF{p:Prop}(h:p:=by
 obtain⟨sW,gr,jz,fC,O⟩:=j6 V
 simp[fm,h,Op.operands]at O
 simp only[aE,cb]at jz fC
 subst jz;subst fC
 exact P1):p:=h
theorem Xz{p:Prop}(h:p:=by
 obtain⟨af,aM⟩:=h
 refine⟨af,?_⟩
 exact aju):p:=h
theorem Xw{p:Prop}(h:p:=by
 by_cases h:i<16
 ·exact ayt
 ·exact ayr):p:=h
end Go
namespace Go
open Go.Proofs.Tryz
theorem n4{P:Program}{ops:Array Oper}{ea:Exit→Act→World→Prop}{pS:Region.Mode}{S:World→Prop}{q7:Nat}{lk:Array Bool}{a:Act}{w:World}(i:Nat){o:Oper}
 (h:∀IN:Act→World→Prop,Shut (∀a w,S w→(S w→wpAnyH P pS ops ea S q7 (lk.setIfInBounds i true) a w)→IN a w)→if Region.wanted o (yielded ops a.tmps)=true then Oper.wp P o a w IN ea else IN (a.put o.dst undef) w)
 (Y:Region.ready pS ops lk=[i]:=by kernel_rfl)(bI:ops[i]? =some o:=by rfl):wpAnyH P pS ops ea S (q7+1) lk a w:=HM Y (by simp) (yH bI h HJ)

theorem G9{p:Prop}(h:p:=by
 have vl:k<dR.length:=z
 obtain⟨dJ,eH,rfl,_,ja,jO⟩:=pu.out _ eG.out.b.drew z
 obtain⟨Lo,axE,rfl,KP,DX⟩:=ha.out _ bc.drew z
 obtain⟨ce,cg,ci,cY,cz,k',tR,la,kB,ut,kC,ag,V⟩:=jO k aq
 have fV:=DX k vl
 have ft:=V.br
 have dS:=V.c1
 have eo:=V.c2
 have hj:=V.c3
 have jW:=V.c4
 have kb:=V.c5
 have ll:=V.fk
 have g4:(0:Int)≤(k:Int):=z
 have gx:(k:Int)<l.length:=z
 have i3:(k:Int)<m_:=z
 have wM:dJ<wr.heap.size:=ja
 have Xg:Lo<wr.heap.size:=KP
 obtain⟨Bc,zA⟩:=rG.out _ (fM aq)
 have Ph:=y3.out _ (fM vl)
 have aoS:Hid (l[k].kind=(dR[k]:Int)→oh dR l (k+1)):=G fun ax=>pG.next aq vl ax
 clear jO DX V
 generalize l[k]=v at*
 generalize dR[k]=q at*
 obtain⟨ET,vs,aas,aau,aaA,aax,aaC⟩:=v
 have oW:=G (N1 ET aas aau aaA vs aax aaC zA (q:Int) z _ _ ag)
 clear zA ag
 go_wp2
 go_still_tail 8,au
 change wpList _ _ _ _ _ wr.drew
 have iR:=G (eG.out.U (lK wr))
 have agK:=bc.drew
 have WB:ao.heap.size≤wr.drew.heap.size:=bc.size
 clear eG bc
 generalize wr.drew=bz at*
 go_upto_region 19 with(go_at_call 364;refine(oW.out).mono ?_;rintro e bh ⟨⟨q5,rfl,ny,kM,lf⟩,bt⟩)
 have iA:=G (iR.out.U bt)
 have bC:=agK.trans (bt.mono WB)
 clear ft dS eo hj jW kb ll fV ja KP wM Xg iR bt oW agK
 by_cases pJ:q5=0
 ·subst pJ
  have Nv:=aoS.out (lf rfl)
  go_wp2
  go_roundw
  case rel=>first|exact⟨k+1,z,bM,bC,Nv⟩|exact⟨k+1,z,z,Nv⟩|exact⟨k+1,z,z,bC,Nv⟩|((repeat apply Exists.intro);refine⟨?_,rfl⟩;exact⟨k+1,z,bM,bC,Nv⟩)
  case measure=>simp[RowKit.intOf];omega
 ·have ak:(q5 !=0)=true:=by simpa using pJ
  have dP:=iA.out.o
  obtain⟨gC,c_,dL,fU,gE,gM,gT⟩:=eU dP;obtain⟨z0,cy,dv,z3,z4,z5,eP⟩:=gI dP
  go_wp2
  refine bodyPost_ret (jp (fn:=f284) rfl _ _ w.heap.size 44 _ (0,0) _ _ rfl rfl (h3 dP _ _ _ _ _ _ _) underlying44 rfl iJ) rfl ?_
  exact⟨eS.none _ _ _ q5 z kM,ib iA.out.b z _ _ _ _ _ _ _⟩):p:=h
theorem ajb{p:Prop}(h:p:=by
 refine cC.out _ _ ⟨(gb.cell n1).trans fk,(gb.cell KS).trans cl,(gb.cell zT).trans dF,(gb.cell GL).trans ep⟩ (fun jM=>?_)
 clear cC b0
 refine gH ?_
 refine n4 30 (fun b0 cC=>?_)
 have DH:=dC.U gb
 obtain⟨bE,rh,vr⟩:=DH.Dq rs[k].h n b7 jP
 obtain⟨zs,fG,BA⟩:=K7.e7 (fun h=>(ug h).1)
 have J:(∃ad,B4=some ad∧ ∀(j:Nat) u,zs[j]? =some u→w7.cell? (ad.add j)=some u)∨(B4=none∧rp.length=0):=(by rcases BA with h|⟨H,I⟩;exact .inl h;exact .inr ⟨H,by rw[I];rfl⟩)
 refine amz (d:=some 108) _ rfl rfl _ _ 23 rfl (w.heap.size+2) 22 vt _ 1 24 underlying23 vk jT ir i0 rfl ai (E rs[k].h n) _ bE rfl rh B4 rp.length Hs zs rfl (by rw[fG.len,tv]) J fG.Ep (by unfold maxLen;omega) z (db jb gb.size) ?_
 intro rr di mG ki Bl
 obtain⟨HD,HE,rfl⟩:=akW mG
 obtain⟨G4,W9,cw,_,avG,⟨aFk,agx⟩,_⟩:=DH.QQ s8
 cases cw
 have Bf:=fun(b:Nat) (cs:Array Value) (t:TypeId) (fr:Nat×Nat) (A:w7.heap[b]? =some (Obj.cells cs t fr)) (ah:t≠22)=>show di.heap[b]? =some (Obj.cells cs t fr) by
  rw[ki.block b (cX A) (Aa rh A ah)];exact A
 have agJ:w7.heap[bT rs[k].h]? =some (Obj.cells aq4 23 (0,0)):=by rw[gb.block _ Lt];exact l0
 have Gu:=Bf _ _ _ _ agJ ai
 have arC:=lb Gu (VI n jP)
 have atJ:di.frozen? ⟨bT rs[k].h,n,none⟩=false:=by simp[World.frozen?,Gu]
 have Ff:=hU.U gb
 have sF:=cd.U gb
 have Bs:=Bf _ _ _ _ sF.g ai
 have DO:=Bf _ _ _ _ Ff ai
 have Wb:=Bf _ _ _ _ agx ai
 have TL:di.cell? ⟨w.heap.size+1,6,none⟩=_:=lb DO rfl
 have UV:di.cell? ⟨w.heap.size,4,none⟩=_:=lb Bs rfl
 have JF:di.cell? ⟨cF,rs[k].h,none⟩=_:=(ki.cell_far ⟨cF,rs[k].h,none⟩ avG (Aa rh agx ai)).trans ((gb.cell KS).trans cl)
 have Ya:di.cell? ⟨rb,aC+k*4+3,none⟩=_:=(ki.cell_far ⟨rb,aC+k*4+3,none⟩ (cE gb GL) (wV rh (show rb<w.heap.size+2 by omega))).trans ((gb.cell GL).trans ep)
 have avJ:cF≠bT rs[k].h:=fun e=>by
  rw[e]at Wb;rw[Wb]at Gu;cases Gu
 refine cC.out _ _ ⟨TL,JF,UV,Ya⟩ (fun jM=>?_)
 clear cC b0
 refine gH ?_
 refine b8 31 109 ?_
 refine n4 32 (fun b0 cC=>?_)
 go_simp
 refine cC.out _ _ ⟨(mO (hm _ _ _ _ (show w.heap.size+1≠bT rs[k].h by omega))).trans TL,(mO (hm _ _ _ _ avJ)).trans JF,(mO (hm _ _ _ _ (show w.heap.size≠bT rs[k].h by omega))).trans UV,(mO (hm _ _ _ _ (show rb≠bT rs[k].h by omega))).trans Ya⟩ (fun jM=>?_)
 clear cC b0
 refine gH ?_
 refine wpAnyH_done au ?_ _
 have ago:=(k9.grown DH b7 jP rh vr fG mG ki Bl).congr apc.out
 have So:kd (di.setCell ⟨bT rs[k].h,n,none⟩ (.slice HD ((part rs Z f (n-1) k rs[k].h n).length+rp.length) HE)) (w.heap.size+1) 235 #[.string S.bo,.int .i64 S.cZ,.slice ca S.bs.length cc,.slice (some ⟨bJ,eB,none⟩) S.aB.length aV,.slice (some ⟨rb,aC,none⟩) rs.length rc,.int .i64 S.aj,.slice (some ⟨cF,0,none⟩) S.aB.length g6]:=by
  unfold kd;rw[hm _ _ _ _ (show w.heap.size+1≠bT rs[k].h by omega)];exact DO
 have O2:Below w.heap.size w di:=sF.b.grown ki sF.b.size (fun g al=>by
  rcases vI g (w.heap.size+2)with O|O
  ·exact absurd al.symm (wV rh O)
  ·omega)
 have Ns:hw w (eh S rs ca (some ⟨bJ,eB,none⟩) cc aV rb aC rc) (di.setCell ⟨bT rs[k].h,n,none⟩ (.slice HD ((part rs Z f (n-1) k rs[k].h n).length+rp.length) HE)):=hw.set (wr:=di) ⟨O2,Bs⟩ z
 have agb:mw (di.setCell ⟨bT rs[k].h,n,none⟩ (.slice HD ((part rs Z f (n-1) k rs[k].h n).length+rp.length) HE)) eA S.aB.length f:=((tZ.kept (aik gb)).kept (Ee rh ki)).kept (PR Gu ai)
 have agG:w.heap.size+2≤(di.setCell ⟨bT rs[k].h,n,none⟩ (.slice HD ((part rs Z f (n-1) k rs[k].h n).length+rp.length) HE)).heap.size:=by have:=cX So;omega
 clear cd hU dC tZ DH sF Ff Bs DO Wb TL UV JF Ya arC atJ Gu agJ mG ki rh vr fG J K7 Bf JC ad2 fk cl dF ep JH jM ws l0 VI Bl
 generalize (di.setCell ⟨bT rs[k].h,n,none⟩ (.slice HD ((part rs Z f (n-1) k rs[k].h n).length+rp.length) HE))=gD at*
 go_wp2
 go_roundw
 case rel=>first|exact⟨k+1,_,z,bM,agG,Ns,So,agb,ago⟩|((repeat apply Exists.intro);refine⟨?_,rfl⟩;exact⟨k+1,_,z,bM,agG,Ns,So,agb,ago⟩)
 case measure=>simp[RowKit.intOf];omega):p:=h
theorem ai_{p:Prop}(h:p:=by
 refine cC.out _ _ ⟨(eT.cell AI).trans bR,(eT.cell GN).trans sT⟩ (fun jM=>?_)
 clear cC b0
 refine gH ?_
 refine n4 16 (fun b0 cC=>?_)
 refine YX (d:=some 37) _ rfl rfl _ _ 148 rfl (w.heap.size+2) 151 awY _ 1 24 underlying148 avp sd it m7 rfl ai v k _ rfl (dC.U eT).e2 ⟨wr.heap.size+1,0,none⟩ 1 1 [.slice (some ⟨wr.heap.size,0,none⟩) ae ae] rfl rfl (sy (cs:=#[.slice (some ⟨wr.heap.size,0,none⟩) ae ae]) (t:=151) (fr:=(0,0)) (aca _ rfl)) (by simp[Value.oneCell']) ai (by unfold maxLen;omega) z (db jb eT.size) _ rfl ?_
 intro ho xv bq f' fD _ _
 have tW:=fun(b:Nat) (cs:Array Value) (t:TypeId) (fr:Nat×Nat) (A:wr.heap[b]? =some (Obj.cells cs t fr)) (ah:t≠151)=>show bq.heap[b]? =some (Obj.cells cs t fr) by
  have bm:((wr.drew.alloc (.cells (Array.replicate ae (.slice none 0 0)) 23)).alloc (.cells #[.slice (some ⟨wr.heap.size,0,none⟩) ae ae] 151)).heap[b]? =some (Obj.cells cs t fr):=by rw[eT.block b (cX A)];exact A
  rw[fD.block b (cX bm) (Aa (dC.U eT).e2 bm ah)];exact bm
 have arv:bq.cell? ⟨w.heap.size+1,6,none⟩=some v:=lb (tW _ _ _ _ hU ai) rfl
 have atI:bq.frozen? ⟨w.heap.size+1,6,none⟩=false:=by simp[World.frozen?,tW _ _ _ _ hU ai]
 have UU:bq.cell? ⟨w.heap.size,3,none⟩=_:=lb (tW _ _ _ _ cd.g ai) rfl
 have TS:bq.cell? ⟨bJ,eB+k*3+2,none⟩=some (.int .i64 (M k)):=(fD.cell_far ⟨bJ,eB+k*3+2,none⟩ (cE eT GN) (wV (dC.U eT).e2 (show bJ<w.heap.size+2 by omega))).trans ((eT.cell GN).trans sT)
 refine cC.out _ _ ⟨UU,TS⟩ (fun jM=>?_)
 clear cC b0
 refine gH ?_
 refine b8 17 38 ?_
 refine b8 18 39 ?_
 refine n4 19 (fun b0 cC=>?_)
 go_simp
 refine cC.out _ _ ⟨(mO (hm _ _ _ _ (show w.heap.size≠w.heap.size+1 by omega))).trans UU,(mO (hm _ _ _ _ (show bJ≠w.heap.size+1 by omega))).trans TS⟩ (fun jM=>?_)
 clear cC b0
 refine gH ?_
 refine wpAnyH_done au ?_ _
 have Vv:=dC.U eT
 have oA:((wr.drew.alloc (.cells (Array.replicate ae (.slice none 0 0)) 23)).alloc (.cells #[.slice (some ⟨wr.heap.size,0,none⟩) ae ae] 151)).heap[wr.heap.size]? =some (Obj.cells (Array.replicate (Z k) (.slice none 0 0)) 23 (0,0)):=by
  rw[←acz.out,wB _ _ (by rw[jC];exact Cv _)];exact da _ _
 have ahu:bq.ownsRow (w.heap.size+2) 151 1 (.slice (some ⟨ho,0,none⟩) (k+1) xv) (k+1) (((List.range k).map fun s=>.slice (some ⟨bT s,0,none⟩) (Z s) (Z s))++[.slice (some ⟨wr.heap.size,0,none⟩) (Z k) (Z k)]):=by rw[←acz.out];exact f'
 have agn:=k9.next Vv jb oA (fun s V=>p3 (by obtain⟨_,arr,g,_⟩:=dC.aU s V;exact cX g)) (fun _=>rfl) (fun _=>rfl) ahu fD
 have Sm:=tW _ _ _ _ hU ai
 have DH:=agn.set (i:=6) (x:=.slice (some ⟨ho,0,none⟩) (k+1) xv) Sm ai ai ai ai
 have Ff:kd (bq.setCell ⟨w.heap.size+1,6,none⟩ (.slice (some ⟨ho,0,none⟩) (k+1) xv)) (w.heap.size+1) 235 #[.string S.bo,.int .i64 S.cZ,.slice ca S.bs.length cc,.slice (some ⟨bJ,eB,none⟩) S.aB.length aV,.slice (some ⟨rb,aC,none⟩) rs.length rc,.int .i64 S.aj,.slice (some ⟨ho,0,none⟩) (k+1) xv]:=hS Sm _
 have auW:Below w.heap.size w bq:=(b_ cd.b eT).grown fD (db cd.b.size eT.size) (fun g al=>by
  rcases vI g (w.heap.size+2)with O|O
  ·exact absurd al.symm (wV Vv.e2 O)
  ·omega)
 have sF:hw w (eh S rs ca (some ⟨bJ,eB,none⟩) cc aV rb aC rc) (bq.setCell ⟨w.heap.size+1,6,none⟩ (.slice (some ⟨ho,0,none⟩) (k+1) xv)):=hw.set (wr:=bq) ⟨auW,tW _ _ _ _ cd.g ai⟩ (Cv _)
 have agF:w.heap.size+2≤(bq.setCell ⟨w.heap.size+1,6,none⟩ (.slice (some ⟨ho,0,none⟩) (k+1) xv)).heap.size:=by
  have:=cX Ff
  omega
 clear cd hU dC Vv oA f' ahu fD agn Sm tW arv atI UU TS cr eT kF aca jM ws sa
 generalize (bq.setCell ⟨w.heap.size+1,6,none⟩ (.slice (some ⟨ho,0,none⟩) (k+1) xv))=w7 at*
 generalize (Value.slice (some ⟨ho,0,none⟩) (k+1) xv)=tl at*
 go_wp2
 go_roundw
 case rel=>first|exact⟨k+1,tl,_,z,bM,agF,sF,Ff,DH⟩|((repeat apply Exists.intro);refine⟨?_,rfl⟩;exact⟨k+1,tl,_,z,bM,agF,sF,Ff,DH⟩)
 case measure=>simp[RowKit.intOf];omega):p:=h
theorem Ei{p:Prop}(h:p:=by
 have eg:((l.length:Int) !=(m_:Int))=true:=bu
 clear hN
 have nl:=eK.out.o
 obtain⟨gC,c_,dL,fU,gE,gM,gT⟩:=eU nl;obtain⟨z0,cy,dv,z3,z4,z5,eP⟩:=gI nl
 go_wp2
 refine bodyPost_ret (jp (fn:=f284) rfl _ _ w.heap.size 44 _ (0,0) _ _ rfl rfl (h3 nl _ _ _ _ _ _ _) underlying44 rfl iJ) rfl ?_
 exact⟨eS.none _ _ _ 14 ai ai,ib eK.out.b z _ _ _ _ _ _ _⟩):p:=h
theorem aiV{p:Prop}(h:p:=by
 have Ef:dJ<bh.drew.heap.size:=W7
 clear fu b' dt eq jX vz yk t0 W7 aiH bC mu p' at4 oY
 generalize bh.drew=a' at*
 go_upto_region 12 with(go_at_call 364;refine(yU.out).mono ?_;rintro e bq ⟨⟨UG,rfl,o8,jQ,s1⟩,dl⟩)
 have vQ:=G (pv.out.U dl)
 have ao_:=G (tA.out.U dl)
 by_cases agW:UG=0
 ·subst agW
  have br:=aA dl Ef hX
  have c1:=aA dl Ef et
  have c2:=aA dl Ef fA
  have c3:=aA dl Ef hL
  have c4:=aA dl Ef lV
  have c5:=aA dl Ef np
  have fk:=aA dl Ef q4
  clear hX et fA hL lV np q4 pv tA dl yU
  have x4:w.heap.size≤bq.heap.size:=vQ.out.b.size
  have lg:w.heap.size<bq.heap.size:=b1 vQ.out.o
  have Az:=G (JK 0 bq _ _ ao_.out)
  go_wp2_with (go_at_call 365;(with_reducible refine Az.out.mono ?_);rintro e yz ⟨⟨an6,rfl,DA⟩,nu⟩;obtain⟨hY,bB,lz,lA,j7,lW,lB,lX,lY,lD,lZ,rfl⟩:=DA.al_;have yZ:=G DA;clear DA;have dc:=G (vQ.out.U nu);have gX:=dc.out.o;obtain⟨gC,c_,dL,fU,gE,gM,gT⟩:=eU gX;obtain⟨z0,cy,dv,z3,z4,z5,eP⟩:=gI gX)
  refine bodyPost_ret (jp (fn:=f284) rfl _ _ w.heap.size 44 _ (0,0) _ _ rfl rfl (h3 gX _ _ _ _ _ _ _) underlying44 rfl iJ) rfl ?_
  exact⟨eS.put (base:=bq.heap.size) (eS.some _ _ _ yZ.out qO.out) lg x4,ib dc.out.b z _ _ _ _ _ _ _⟩
 ·have ak:(UG !=0)=true:=by simpa using agW
  have dP:=vQ.out.o
  obtain⟨gC,c_,dL,fU,gE,gM,gT⟩:=eU dP;obtain⟨z0,cy,dv,z3,z4,z5,eP⟩:=gI dP
  go_wp2
  refine bodyPost_ret (jp (fn:=f284) rfl _ _ w.heap.size 44 _ (0,0) _ _ rfl rfl (h3 dP _ _ _ _ _ _ _) underlying44 rfl iJ) rfl ?_
  exact⟨eS.none _ _ _ UG z jQ,ib vQ.out.b z _ _ _ _ _ _ _⟩):p:=h
theorem ays{p:Prop}(h:p:=by
 obtain⟨k,Q,rfl⟩:=hrel
 by_cases aq:k<s.size
 ·have L:=ay.out k aq
  have li:(k:Int)<s.size:=z
  rcases L with⟨a,b⟩|⟨a,b⟩|⟨ae,a|⟨a,b⟩⟩
  ·go_wp2
   all_goals first
    |(
     go_round
     case rel=>exact⟨k+1,z,bM⟩
     case measure=>simp[RowKit.intOf];omega)
    |(exfalso;omega)
  ·have c:¬97≤(s[k].toNat:Int):=z
   go_wp2
   all_goals first
    |(
     go_round
     case rel=>exact⟨k+1,z,bM⟩
     case measure=>simp[RowKit.intOf];omega)
    |(exfalso;omega)
  ·have c1:decide (97≤(s[k].toNat:Int))=false:=by rw[a];rfl
   have c2:decide ((s[k].toNat:Int)≤90)=false:=by rw[a];rfl
   have c3:((k:Int)==0)=false:=bu
   have c4:((s[k].toNat:Int) !=95)=false:=by rw[a];rfl
   clear a
   go_wp2
   all_goals first
    |(
     go_round
     case rel=>exact⟨k+1,z,bM⟩
     case measure=>simp[RowKit.intOf];omega)
    |(exfalso;omega)
  ·have c1:¬97≤(s[k].toNat:Int):=z
   have c2:¬65≤(s[k].toNat:Int):=z
   have c3:((k:Int)==0)=false:=bu
   have c4:((s[k].toNat:Int) !=95)=true:=bu
   have c5:¬(s[k].toNat:Int)<48:=z
   have fk:¬57<(s[k].toNat:Int):=z
   go_wp2
   all_goals first
    |(
     go_round
     case rel=>exact⟨k+1,z,bM⟩
     case measure=>simp[RowKit.intOf];omega)
    |(exfalso;omega)
 ·have li:¬(k:Int)<s.size:=z
  go_wp2
  go_ret
  exact⟨rfl,rfl⟩):p:=h
theorem ayv{p:Prop}(h:p:=by
 go_wp2
 all_goals first
  |(
   go_round
   case rel=>exact⟨k+1,z,bM⟩
   case measure=>simp[RowKit.intOf];omega)
  |(exfalso;omega)):p:=h
theorem ai9{p:Prop}(h:p:=by
 go_wp2
 go_loop [5] (fun i=>∃k:Nat,k≤l.length∧i=.int .i64 k∧Hid (∀j (aa:j<l.length),j<k→l[j]≠s)) (fun i=>l.length-(RowKit.intOf i).toNat)
 case atStart=>exact⟨0,dq _,rfl,G fun j _ aa=>z⟩
 case round=>
  obtain⟨k,Q,rfl,ha⟩:=hrel
  by_cases aq:k<l.length
  ·obtain⟨b,o,rfl,_,A,L⟩:=ay.out z
   have br:=L k aq
   have g4:(0:Int)≤(k:Int):=z
   have gx:(k:Int)<l.length:=z
   by_cases X:l[k]=s
   ·rw[X]at br
    have ak:=qc s
    clear L
    go_wp2
    go_ret
    exact⟨⟨_,rfl,.inl ⟨k,aq,rfl,X⟩⟩,rfl⟩
   ·have ak:=fy X
    have Sv:Hid (∀j (aa:j<l.length),j<k+1→l[j]≠s):=G fun j aa nX=>by
     by_cases e:j=k
     ·subst e;exact X
     ·exact ha.out j aa z
    generalize l[k]=x at*
    clear L
    go_wp2
    go_round
    case rel=>exact⟨k+1,z,bM,Sv⟩
    case measure=>simp[RowKit.intOf];omega
  ·go_wp2
   go_ret
   refine⟨⟨_,rfl,.inr ⟨rfl,fun an=>?_⟩⟩,rfl⟩
   obtain⟨j,aa,e⟩:=Cr.1 an
   exact ha.out j aa z e):p:=h
theorem pR{p:Prop}(h:p:=by intro w Vu;(try dsimp only at Vu);(go_simp<;>with_reducible rfl)):p:=h
theorem aiW{p:Prop}(h:p:=by
 go_wp2_with (at_builtin;refine wpList_append_own _ rfl _ _ 22 rfl w.heap.size 3 ex (.int .i64 0) 1 8 underlying22 kw m8 jg kU rfl ai _ _ _ rfl (cQ.alloc _) ⟨wr.heap.size,0,none⟩ 1 1 [_] rfl rfl (wQ _ _ _) (by simp[Value.oneCell']) (by unfold maxLen;omega) z (by have:=bc.size;simp;omega) ?_;intro dO bq f' fD _;have fO:Below w.heap.size w bq:=((bc.alloc bc.size _).grown fD (by have:=bc.size;simp;omega) (up cQ));have k4:=G f';clear f' fD)
 exact⟨⟨k+1,1,l++[d],z,z,bM,rfl,by simp[dh],j'.vA z,qP.out d 1 z,by rw[Dm];exact k4.out,fO⟩,by simp[RowKit.intOf];omega⟩):p:=h
theorem ajQ{p:Prop}(h:p:=by
 go_wp2_with (at_builtin;refine wpList_append_own _ rfl _ _ 22 rfl w.heap.size 3 ex (.int .i64 0) 1 8 underlying22 kw m8 jg kU rfl ai _ _ _ rfl (cQ.alloc _) ⟨wr.heap.size,0,none⟩ 1 1 [_] rfl rfl (wQ _ _ _) (by simp[Value.oneCell']) (by unfold maxLen;omega) z (by have:=bc.size;simp;omega) ?_;intro dO bq f' fD _;have fO:Below w.heap.size w bq:=((bc.alloc bc.size _).grown fD (by have:=bc.size;simp;omega) (up cQ));have k4:=G f';clear f' fD)
 exact⟨⟨k+1,0,l++[d],z,z,bM,rfl,by simp[dh],j'.vA z,qP.out d 0 z,by rw[Dm];exact k4.out,fO⟩,by simp[RowKit.intOf];omega⟩):p:=h
theorem Xu{p:Prop}(h:p:=by
 go_wp2
 refine bodyPost_ret (jp (fn:=f375) rfl _ _ (w.heap.size+1) 44 _ (0,0) _ _ rfl rfl (h3 dP.o _ _ _ _ _ _ _) underlying44 rfl iJ) rfl ?_
 exact⟨eS.some _ _ _ (aY.iE _ 1 _ 2 bL N S 0 none 0 none 0) (cd.out N S jQ s2 vh),ib dP.b z _ _ _ _ _ _ _⟩):p:=h
theorem XG{p:Prop}(h:p:=by
 go_upto_region 9 with fail
 go_quiet (fail)
 go_wp2
 exact⟨⟨m+1,z,by rw[IC.out],by rw[g'.out],n2 fX.out (.g0 (below_drewN (bi _ _) _)),cS.out.trans ((below_drewN (bi _ _) _).mono cS.out.size)⟩,by rw[IC.out];simp[RowKit.intOf];omega⟩):p:=h
theorem XE{p:Prop}(h:p:=by
 go_wp2
 go_roundw
 case rel=>first|exact⟨k+1,z,bM,fX.out,ij.out,lu.out,rN.out,tF.out,uI.out⟩|((repeat apply Exists.intro);refine⟨?_,rfl⟩;exact⟨k+1,z,bM,fX.out,ij.out,lu.out,rN.out,tF.out,uI.out⟩)
 case measure=>simp[RowKit.intOf];omega):p:=h
theorem ajG{p:Prop}(h:p:=by
 have nB:eq.size=0:=jl.zero.2 ax
 have j_:¬0<(eq.size:Int):=z
 have hg:=ct.out.x.c2
 have cy:=ct.out.x.ae (i:=1)
 have dv:=ct.out.x.ae (i:=2)
 go_wp2
 have DW:=ct.out.k
 rw[show wrap64 (e5:Int)=(e5:Int)from MN _ ⟨z,z⟩]
 refine⟨⟨m/10,e5,ep,?_,z,z⟩,?_⟩
 ·have:=ct.out.step uf (E2 _ _) mD
  exact this
 ·have:=(ct.out.step uf (E2 _ _) mD).x.c2
  simp only[this,c2]
  omega):p:=h
theorem ajn{p:Prop}(h:p:=by
 have nB:eq.size=0:=jl.zero.2 ax
 have j_:¬0<(eq.size:Int):=z
 have hg:=ct.out.x.c2
 have cy:=ct.out.x.ae (i:=1)
 have dv:=ct.out.x.ae (i:=2)
 go_wp2
 have DW:=ct.out.k
 rw[show wrap64 (e5:Int)=(e5:Int)from MN _ ⟨z,z⟩]
 refine⟨⟨m/10,e5,ep,?_,z⟩,?_⟩
 ·have:=ct.out.step uf (E2 _ _) mD
  exact this
 ·have:=(ct.out.step uf (E2 _ _) mD).x.c2
  simp only[this,c2]
  omega):p:=h
theorem XB{p:Prop}(h:p:=by
 go_enter func124,ntmps124
 go_wp2_with (go_at_call 199;refine(lS.out _ (N3 _ _ _)).mono ?_;rintro e w' ⟨⟨Mc,rfl⟩,Up,rfl⟩)
 all_goals(go_ret;exact⟨rfl,(N3 _ _ _).trans (p6.U ⟨Up,rfl⟩ _)⟩)):p:=h
theorem XA{p:Prop}(h:p:=by
 go_enter func101,ntmps101
 go_wp2_with (first
  |(go_at_call 186;(with_reducible refine(bK.out _).mono ?_);rintro e ao ⟨rfl,bm⟩;have eT:=G (b_ T.h bm)))
 go_ret
 exact⟨rfl,eT.out⟩):p:=h
theorem aj9{p:Prop}(h:p:=by
 go_wp2_with (go_at_call 174;(with_reducible refine(BI _ _ _ ct.out.t (p2 ct.out.n ai)).mono ?_);rintro e gD ⟨rfl,rfl⟩)
 refine bodyPost_ret (by simp[results,results285,go_sem,fu,b'];rfl) rfl ?_
 exact⟨⟨_,_,rfl,QT false ct.out.n ct.out.k vS.out _ am,ct.out.k,z,j9⟩,(ct.out.b.setCell (p:=⟨bF,0,none⟩) ct.out.g.2.1 _).setCell (p:=⟨bF,1,none⟩) ct.out.g.2.1 _⟩):p:=h
theorem aj5{p:Prop}(h:p:=by
 go_wp2_with (go_at_call 174;(with_reducible refine(BI _ _ _ ct.out.t (p2 ct.out.n ai)).mono ?_);rintro e gD ⟨rfl,rfl⟩)
 refine bodyPost_ret (by simp[results,results285,go_sem,fu,b'];rfl) rfl ?_
 exact⟨⟨_,_,rfl,QT true ct.out.n ct.out.k vS.out _ am,ct.out.k,z,j9⟩,(ct.out.b.setCell (p:=⟨bF,0,none⟩) ct.out.g.2.1 _).setCell (p:=⟨bF,1,none⟩) ct.out.g.2.1 _⟩):p:=h
theorem ajC{p:Prop}(h:p:=by
 go_ret
 rw[gm,vF]at o_
 have R2:Below w.heap.size w gD:=(yY.alloc yY.size _).grown o9 (db yY.size cr.size) (fun g al=>by simp[Value.ownBlock]at al;subst al;exact yY.size)
 obtain⟨o4,wh,cw,aux,jP,nv,jR⟩:=aBw (l:=q) o_ rfl am
 cases cw
 exact⟨⟨_,_,_,q,by first|rfl|simp,aux,xK,jP,nv,fun x X=>by cases X;exact jR⟩,R2⟩):p:=h
theorem aj8{p:Prop}(h:p:=by
 go_wp2_with (go_at_call 174;(with_reducible refine(BI _ _ _ ct.out.t (p2 ct.out.n ai)).mono ?_);rintro e gD ⟨rfl,rfl⟩)
 refine bodyPost_ret (by simp[results,results285,go_sem,fu,b'];rfl) rfl ?_
 exact⟨⟨_,_,rfl,QT false ct.out.n ct.out.k vS.out _ am,ct.out.k⟩,(ct.out.b.setCell (p:=⟨bF,0,none⟩) ct.out.g.2.1 _).setCell (p:=⟨bF,1,none⟩) ct.out.g.2.1 _⟩):p:=h
theorem aje{p:Prop}(h:p:=by
 go_wp2_with (go_at_call 174;(with_reducible refine(BI _ _ _ ct.out.t (p2 ct.out.n ai)).mono ?_);rintro e gD ⟨rfl,rfl⟩)
 refine bodyPost_ret (by simp[results,results285,go_sem,fu,b'];rfl) rfl ?_
 exact⟨⟨_,_,rfl,QT true ct.out.n ct.out.k vS.out _ am,ct.out.k⟩,(ct.out.b.setCell (p:=⟨bF,0,none⟩) ct.out.g.2.1 _).setCell (p:=⟨bF,1,none⟩) ct.out.g.2.1 _⟩):p:=h
theorem ai4{p:Prop}(h:p:=by
 first
  |(
    go_roundw
    case rel=>first|exact⟨k+1,z,bM,hI.out (vo.1 (by simp_all)),b_ bG bt⟩|((repeat apply Exists.intro);refine⟨?_,rfl⟩;exact⟨k+1,z,bM,hI.out (vo.1 (by simp_all)),b_ bG bt⟩)
    case measure=>simp[RowKit.intOf];omega)
  |(go_ret;exact⟨⟨_,rfl,am,fun e=>absurd e (gW.out fun aJ=>by have:=vo.2 aJ;simp_all)⟩,b_ bG bt⟩)):p:=h
theorem ajx{p:Prop}(h:p:=by
 go_wp2
 refine bodyPost_ret (jp (fn:=f374) rfl _ _ (w.heap.size+1) 44 _ (0,0) _ _ rfl rfl (h3 dP.o _ _ _ _ _ _ _) underlying44 rfl iJ) rfl ?_
 exact⟨eS.put (base:=ap.drew.heap.size) ⟨_,_,_,_,_,_,_,_,_,_,_,_,rfl,ny,kM,lf⟩ (show w.heap.size+1<ap.heap.size from dN) (show w.heap.size≤ap.heap.size by omega),ib dP.b z _ _ _ _ _ _ _⟩):p:=h
theorem aiU{p:Prop}(h:p:=by
 go_wp2_with (first
  |(go_at_call 88;((with_reducible refine(bk.out _).mono ?_);rintro e w' ⟨rfl,rfl⟩))
  |(go_at_call 88;((with_reducible refine(bK.out _).mono ?_);rintro e w' ⟨rfl,rfl⟩))
  |(go_at_call 86;((with_reducible refine(h6.out _).mono ?_);rintro e w' ⟨⟨t,rfl,J,ax⟩,A⟩)))
 go_ret
 exact⟨⟨t,rfl,J,ax⟩,A⟩):p:=h
theorem ajR{p:Prop}(h:p:=by
 go_wp2_with (first
  |(go_at_call 88;((with_reducible refine(bk.out _).mono ?_);rintro e w' ⟨rfl,rfl⟩))
  |(go_at_call 88;((with_reducible refine(bK.out _).mono ?_);rintro e w' ⟨rfl,rfl⟩))
  |(go_at_call 86;((with_reducible refine(h6.out _).mono ?_);rintro e w' ⟨⟨t,rfl,J⟩,A⟩)))
 go_ret
 exact⟨⟨t,rfl,J⟩,A⟩):p:=h
theorem Xs{p:Prop}(h:p:=by
 have gx:¬(k:Int)<l.length:=z
 go_wp2
 go_ret
 exact⟨⟨_,rfl,fun _=>List.ext_getElem es.out fun j H I=>HEq.out j H I z,fun _=>rfl⟩,A⟩):p:=h
theorem ajU{p:Prop}(h:p:=by
 have A:=ada t.data.toList k z
 have aw:=G (adb t k aq)
 have L:=M4 t[k]
 generalize J:aT (t.data.toList.take k)=v at*
 clear J
 go_wp2
 go_round
 case rel=>exact⟨k+1,z,bM,by rw[aw.out];go_num⟩
 case measure=>simp[RowKit.intOf];omega):p:=h
theorem G8{p:Prop}(h:p:=by intro W ar;(try dsimp only at ar);(go_simp<;>with_reducible rfl)):p:=h
theorem ajt{p:Prop}(h:p:=by
 clear dC
 go_wp2
 go_roundw
 case rel=>first|exact⟨k+1,E,z,bM,jb,cd,hU,tZ,Ks⟩|((repeat apply Exists.intro);refine⟨?_,rfl⟩;exact⟨k+1,E,z,bM,jb,cd,hU,tZ,Ks⟩)
 case measure=>simp[RowKit.intOf];omega):p:=h
theorem ajW{p:Prop}(h:p:=by
 go_enter func574,ntmps574
 go_wp2_with (go_at_call 186;(with_reducible refine(bk.out).mono ?_);rintro e ap ⟨⟨b',rfl,_⟩,aO⟩;have eC:=T.U aO;have ft:=aS 0 eC.p;have cr:=G (b_ jF aO))
 go_ret
 exact⟨⟨_,rfl⟩,cr.out⟩):p:=h
theorem LD{p:Prop}(h:p:=by
 go_ret
 exact⟨rfl,rfl⟩):p:=h
theorem ajv{p:Prop}(h:p:=by
 go_wp2
 go_roundw
 case rel=>first|exact⟨k+1,l,z,bM,O,ez.out,ij.out,cS.out,ax⟩|((repeat apply Exists.intro);refine⟨?_,rfl⟩;exact⟨k+1,l,z,bM,O,ez.out,ij.out,cS.out,ax⟩)
 case measure=>simp[RowKit.intOf];omega):p:=h
theorem ayn{p:Prop}(h:p:=by
 clear f' fD gw VO KG bC
 go_wp2
 go_roundw
 case rel=>first|exact⟨m+1,z,bM,k4,fO⟩|((repeat apply Exists.intro);refine⟨?_,rfl⟩;exact⟨m+1,z,bM,k4,fO⟩)
 case measure=>simp[RowKit.intOf];omega):p:=h
theorem ai5{p:Prop}(h:p:=by
 refine bodyPost_ret (by simp[results,results577,go_sem,fu,b',dt];rfl) rfl ?_
 exact⟨⟨t,rfl,ah⟩,((hT.out.setCell (p:=⟨co,0,none⟩) bR.out _).setCell (p:=⟨co,1,none⟩) bR.out _).setCell (p:=⟨co,2,none⟩) bR.out _⟩):p:=h
theorem ajl{p:Prop}(h:p:=by
 go_enter func506,ntmps506
 go_wp2_with (go_at_call 295;(with_reducible refine(bk.out _ _).mono ?_);rintro e ap ⟨rfl,rfl⟩;rw[ak])
 go_ret2
 exact⟨⟨0,false,rfl,fun h=>by simp at h⟩,rfl⟩):p:=h
theorem ai'{p:Prop}(h:p:=by
 have ua:=OE b a (mk++ds) (.inRangeFunc l::k)
 simp only[fr,A]at ua
 simp only[yE]at Y
 exact step_lone_go (by simp only[fr,A];simp[stepG,stepG.exec,stepG.apply,MO,aL,ua,Y,Frame.finish])):p:=h
theorem ajc{p:Prop}(h:p:=by
 have az:((((s[k]'aq).toNat:Nat):Int)==0)=true:=by assumption
 go_round
 case rel=>exact⟨k+1,z,bM,ang ax.out (by rw[TF s k aq,adU az])⟩
 case measure=>simp[RowKit.intOf];omega):p:=h
theorem ajr{p:Prop}(h:p:=by
 have ua:=OE b a (mk++ds) (.inRangeFunc l::k)
 simp only[fr,A]at ua
 simp only[yE]at Y
 exact step_lone_go (by simp only[fr,A];simp[stepG,stepG.exec,stepG.apply,MO,aL,ua,Y])):p:=h
theorem ai2{p:Prop}(h:p:=by
 go_wp2
 refine⟨⟨j+1,x.tdiv 10,_,?_,rfl,?_,rfl,sd,it,z,A.alloc A.size _⟩,?_⟩
 ·rw[HI,jg,V];omega
 ·congr 1;omega
 ·simp only[RowKit.intOf];omega):p:=h
theorem aji{p:Prop}(h:p:=by
 have:n=1∨n=2∨n=3∨n=4∨n=5∨n=6∨n=7∨n=8∨n=9∨n=10∨n=11∨n=12:=z
 rcases this with rfl|rfl|rfl|rfl|rfl|rfl|rfl|rfl|rfl|rfl|rfl|rfl
 all_goals(intro w;kernel_rfl)):p:=h
theorem ajk{p:Prop}(h:p:=by
 obtain⟨dI,gq,cw,hN⟩:=cV.axq z
 cases cw
 go_wp2
 go_ret
 exact⟨⟨_,_,l,rfl,z,(hN.low fun b A=>db (oT _) A),fW.out⟩,b9.b⟩):p:=h
theorem XD{p:Prop}(h:p:=by
 go_wp2
 go_ret
 exact⟨⟨_,rfl,am,fun e=>absurd e gW.out⟩,bi _ _⟩):p:=h
theorem ajX{p:Prop}(h:p:=by
 unfold N.cn
 split
 ·kernel_rfl
 split
 ·kernel_rfl
 split
 ·kernel_rfl
 split
 ·kernel_rfl
 split
 ·kernel_rfl
 ·kernel_rfl):p:=h
theorem ai7{p:Prop}(h:p:=by
 clear hZ pN h
 go_wp2
 go_ret
 exact⟨⟨_,_,rfl,dC,ev,j'.take _,by rw[n_];omega⟩,rfl⟩):p:=h
theorem ajI{p:Prop}(h:p:=by
 have apy:=G WH
 clear WH Pk
 go_wp2
 go_ret2
 exact⟨by unfold y_;rw[←apy.out];rfl,rfl⟩):p:=h
theorem ayp{p:Prop}(h:p:=by
 go_wp2
 go_roundw
 case rel=>exact⟨k+1,z,bM,_,rfl⟩
 case measure=>simp[RowKit.intOf];omega):p:=h
theorem ajp{p:Prop}(h:p:=by
 go_wp2
 exact⟨⟨k+1,z,bM,jN.mono fun i _=>ak1 W C n k m i,gS⟩,by simp[RowKit.intOf];omega⟩):p:=h
theorem aj3{p:Prop}(h:p:=by
 go_enter func567,ntmps567
 go_wp2
 go_ret
 exact⟨by simp[h],rfl⟩):p:=h
theorem ajY{p:Prop}(h:p:=by
 go_ret
 exact⟨⟨_,rfl,by rw[HI];exact RS 1 _⟩,eT.out⟩):p:=h
theorem aj1{p:Prop}(h:p:=by
 go_ret
 exact⟨⟨_,rfl,by first|(simp only[Oa,nZ];simp)|simp[nZ]⟩,iL.out⟩):p:=h
theorem XC{p:Prop}(h:p:=by
 go_wp2
 go_ret
 exact⟨⟨_,rfl⟩,cS⟩):p:=h
theorem ajd{p:Prop}(h:p:=by
 refine cC.out _ _ ⟨(cr.cell n1).trans fk,(cr.cell KS).trans cl,(cr.cell zT).trans dF,(cr.cell GL).trans ep⟩ (fun jM=>?_)
 clear cC b0
 refine gH ?_
 refine n4 29 (fun b0 cC=>?_)
 go_simp
 go_at_call 176
 refine(p_.out _ cr Sw).mono ?_
 rintro e w7 ⟨⟨B4,Hs,rfl,K7,ug,kj⟩,ip⟩
 have gb:=b_ cr ip
 have ad2:=aA gb Lt JC
 exact ajb):p:=h
theorem ajw{p:Prop}(h:p:=by
 refine cC.out _ _ ⟨(cr.cell AI).trans bR,(cr.cell GN).trans sT⟩ (fun jM=>?_)
 clear cC b0
 refine gH ?_
 refine n4 15 (fun b0 cC=>?_)
 go_simp
 have eT:=cr.alloc cr.size (.cells #[.slice (some ⟨wr.heap.size,0,none⟩) ae ae] 151)
 exact ai_):p:=h
theorem ayo{p:Prop}(h:p:=by
 obtain⟨k,Q,rfl⟩:=hrel
 by_cases aq:k<s.size
 ·obtain⟨a,b⟩:=ay.out k aq
  have li:(k:Int)<s.size:=z
  have c1:¬(s[k].toNat:Int)<32:=z
  have c2:¬126<(s[k].toNat:Int):=z
  exact ayv
 ·have li:¬(k:Int)<s.size:=z
  go_wp2
  exact LD):p:=h
end Go
