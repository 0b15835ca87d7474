/-
  PipelineNil returns true in every world that fits.
-/
import Derived.Test.YthbmgkbfmddhnaaGreatDoorRows
import Derived.Test.YthbmgkbfmddhnaaGreatDoorWalkJ
import Derived.Test.YthbmgkbfmddhnaaGreatDoorWitB
import Derived.Test.YthbmgkbfmddhnaaGreatDoorWitC
import Derived.Test.YthbmgkbfmddhnaaGreatDoorWitD
import Derived.ProofKit
import Derived.LaidMore
import Derived.OpenShut
import Derived.Stop.Joined
import Derived.Lay
import Derived.Carry
import Derived.Lib.LaidU8
set_option linter.all false
namespace Go.Proofs.YthbmgkbfmddhnaaGreatDoor
open Go Go.EvNil Go.ChangeShapes Go.WideShapes Go.ChangeAt Go.WideMaps Go.WideElems Go.RowKit

theorem nil_own : ownKnob Tryz.prog.godebug = none := by kernel_rfl
theorem nil_laidOut : laidOutB Tryz.prog = true := by kernel_rfl
theorem nil_g1 : Tryz.prog.globalNamed "concord/decimal.tens" = some 1 := by kernel_rfl
theorem nil_t1 : (Tryz.prog.globals[1]?).map (·.type) = some 374 := by kernel_rfl
theorem nil_u374 : Tryz.prog.underlying 374 = some (.array 7 3) := by kernel_rfl
theorem nil_c3 : Tryz.prog.cellsOf 3 = 1 := by kernel_rfl
theorem nil_c374 : Tryz.prog.cellsOf 374 = 7 := by kernel_rfl
theorem nil_gs : Tryz.prog.globals.size = 13 := by kernel_rfl
theorem nil_b1 : (((begin Tryz.prog (fun _ _ => 0) default).world.heap[1]?).bind Obj.row?).map (·.2) = some 374 := by kernel_rfl
theorem nil_b12 : (((begin Tryz.prog (fun _ _ => 0) default).world.heap[12]?).bind Obj.row?).isSome = true := by kernel_rfl

/-- Seven numbers, one after the other. -/
theorem seven {W : World} {fuel : Nat} {cs : List Value} {p : List MemPlace} (h : DataW.trod (fun _ : TypeId × Value => ()) Tryz.prog W 0 (fun _ => true) false fuel 374 cs = some (Rows.laid_concord_decimal_tens, p)) :
    cs = [.int .i64 1, .int .i64 10, .int .i64 100, .int .i64 1000, .int .i64 10000, .int .i64 100000, .int .i64 1000000] := by
  obtain ⟨xs, m, _, hx, hlen, hn, hel⟩ := DataW.trod_array nil_u374 h
  rw [nil_c374] at hlen
  rw [nil_c3] at hel
  simp only [Nat.mul_one] at hel
  have hd : (xs.map (·.1)) = [.lit (.int .i64 1), .lit (.int .i64 10), .lit (.int .i64 100), .lit (.int .i64 1000), .lit (.int .i64 10000), .lit (.int .i64 100000), .lit (.int .i64 1000000)] := by
    have := congrArg Prod.fst hx
    simp only [Rows.laid_concord_decimal_tens, DataW.agg.injEq] at this
    exact this.symm
  have one : ∀ i (hi : i < 7), ∃ k : Int, cs[i]? = some (.int .i64 k) ∧ (xs.map (·.1))[i]? = some (.lit (.int .i64 k)) := fun i hi => by
    have h1 := hel i hi
    have hlt : i < xs.length := by omega
    rw [List.getElem?_eq_getElem hlt] at h1
    obtain ⟨k, e1, e2, _⟩ := DataW.trod_int Tryz.underlying3 h1
    refine ⟨k, ?_, ?_⟩
    · have : ((cs.drop i).take 1)[0]? = some (.int .i64 k) := by rw [e1]; rfl
      rw [List.getElem?_take, if_pos (by omega), List.getElem?_drop] at this
      simpa using this
    · rw [List.getElem?_map, List.getElem?_eq_getElem hlt, e2]; rfl
  apply List.ext_getElem?
  intro i
  by_cases hi : i < 7
  · obtain ⟨k, e1, e2⟩ := one i hi
    rw [hd] at e2
    have : i = 0 ∨ i = 1 ∨ i = 2 ∨ i = 3 ∨ i = 4 ∨ i = 5 ∨ i = 6 := by omega
    rw [e1]
    rcases this with rfl | rfl | rfl | rfl | rfl | rfl | rfl <;> (cases e2; rfl)
  · rw [List.getElem?_eq_none (by omega), List.getElem?_eq_none (by simp; omega)]

theorem tens_of {W : World} (hS : W.ShapedOpen Tryz.prog) (hL : laidMetH Tryz.prog nilLaid W) : Tens W := by
  have hm : laidMet Tryz.prog nilLaid W := by rw [wit_plain] at hL; exact hL
  obtain ⟨g, t, cs, fuel, p, hg, ht, hv, hd⟩ := Lib.laidMet.reads hm (n := "concord/decimal.tens") (d := Rows.laid_concord_decimal_tens) (by simp [nilLaid, Rows.pipelineNilRow])
  obtain rfl := Option.some.inj (nil_g1.symm.trans hg)
  obtain rfl := Option.some.inj (nil_t1.symm.trans ht)
  have h7 := seven hd
  refine ⟨?_, ?_⟩
  · obtain ⟨x, hx⟩ := Option.isSome_iff_exists.1 nil_b12
    obtain ⟨cs', h1, _⟩ := hS.1 12 x.1 x.2 (by rw [nil_gs]; decide) hx
    have := (Array.getElem?_eq_some_iff.1 h1).1
    omega
  · have hb := nil_b1
    rw [Option.map_eq_some_iff] at hb
    obtain ⟨x, hx, ht'⟩ := hb
    obtain ⟨cs', h1, _⟩ := hS.1 1 x.1 x.2 (by rw [nil_gs]; decide) hx
    rw [ht'] at h1
    have e : cs' = cs := by
      simp only [World.var?, nil_g1, Option.bind_some, h1, Option.some.injEq] at hv
      exact hv
    refine ⟨(0, 0), ?_⟩
    rw [h1, e]
    have : cs = #[.int .i64 1, .int .i64 10, .int .i64 100, .int .i64 1000, .int .i64 10000, .int .i64 100000, .int .i64 1000000] := by
      apply Array.toList_inj.1
      rw [h7]
    rw [this]

set_option maxRecDepth 100000 in
/-- A slice of numbers that comes in. -/
theorem nums_of {H : Type} {enc : TypeId × Value → H} {W : World} {base : Nat} {v : Value} {d : DataW H} {p : List MemPlace} (hv : Value.okWide Tryz.prog W .any base 22 v) (h : DataW.Trod enc Tryz.prog W 0 (fun _ => true) true 22 v d p) :
    ∃ a n c, v = .slice a n c ∧ Nums W a n ∧ (∀ q, a = some q → q.block < W.heap.size) ∧ n ≤ maxLen := by
  obtain ⟨a, n, c, rfl⟩ := okWide_slice Tryz.underlying22 hv
  refine ⟨a, n, c, rfl, ?_⟩
  obtain ⟨fuel, h⟩ := h
  have hok : ∀ q, a = some q → q.spot = none ∧ q.block < W.heap.size := fun q hq => by
    subst hq
    simp only [Value.okWide, Tryz.underlying22, Cell.okWide, Cell.ok] at hv
    obtain ⟨_, _, _, hs, row, cells, hsh, _⟩ := hv
    refine ⟨hs, ?_⟩
    by_cases hlt : q.block < W.heap.size
    · exact hlt
    · simp [World.shape?, hlt] at hsh
  rcases open_ints Tryz.underlying22 Tryz.underlying3 nil_c3 h with ⟨hcs, _⟩ | ⟨q, len, cap, zs, hcs, _, hlc, hcm, hzl, _, hcell, _⟩
  · simp [Value.cells] at hcs
    obtain ⟨rfl, rfl, rfl⟩ := hcs
    exact ⟨.inl rfl, fun q hq => (by cases hq), Nat.zero_le _⟩
  · simp [Value.cells] at hcs
    obtain ⟨rfl, rfl, rfl⟩ := hcs
    obtain ⟨hs, hb⟩ := hok q rfl
    obtain ⟨b, o, sp⟩ := q
    simp only at hs
    subst hs
    refine ⟨.inr ⟨b, o, rfl, fun i hi => ⟨zs.getD i 0, ?_⟩⟩, fun q' hq' => (hok q' hq').2, Nat.le_trans hlc hcm⟩
    have := hcell i (by rw [hzl]; simp; omega)
    rw [add_none] at this
    exact this

set_option maxRecDepth 100000 in
theorem nil_wit (os : Os) (H : Type) (enc : TypeId × Value → H) : ∃ (w : World) (tape : Tape) (i : Input), w.os = os ∧ (w.forCall tape i).Shaped Tryz.checked.prog ∧ i.vars = [] ∧ Input.okWide Tryz.checked.prog (w.forCall tape i) .any w.heap.size 3 i ∧
      ((Rows.pipelineNilSpec.pre enc Tryz.checked.prog Tryz.f3 [] false (w.forCall tape i).memory i.args ∧ laidMetH Tryz.prog nilLaid (w.forCall tape i).memory) ∧ sizedMet enc Tryz.checked.prog Tryz.f3 (OpenSpec.ofChange Rows.pipelineNilSpec) false (w.forCall tape i).memory i.args) ∧ ({} : Assume).holds Tryz.checked.prog (lone (Frame.enter Tryz.checked.prog 3 i.args .normal) [] (w.forCall tape i)) :=
  ChangeSpec.witness_shaped (enc := enc) (C := Tryz.checked) (os := os) (X := fun w _ => laidMetH Tryz.prog nilLaid w) false (World.laidAll Tryz.prog os nilLaid) #[.int .i64 0, .slice none 0 0, .slice none 0 0] 8 (World.laidAll_os _ _ _)
    (World.shaped_of_ZipB (wit_zip os) (wit_rest os)) (wit_ok os) (wit_pre enc os) (wit_sized enc os)
    (by rw [wit_plain]; exact laidMet_laidAll _ (wit_fits os) (wit_ifaces os))

set_option maxRecDepth 100000 in
theorem nil_lifted (os : Os) (started : os.Started) (H : Type) (enc : TypeId × Value → H) :
    ReturnsInHanded {} Tryz.checked os 3 .any (fun w args => (Rows.pipelineNilSpec.pre enc Tryz.prog Tryz.f3 [] false w args ∧ laidMetH Tryz.prog nilLaid w) ∧ sizedMet enc Tryz.prog Tryz.f3 (OpenSpec.ofChange Rows.pipelineNilSpec) false w args)
      (Rows.pipelineNilSpec.post enc Tryz.prog Tryz.f3 false true false false) := by
  refine returnsInHanded_of_calls (C := Tryz.checked) nil_own started (by kernel_rfl) (nil_wit os H enc) ?_
  intro w tape i _ hshape _ hok hpre hholds
  obtain ⟨_, _, _, fn', hfn', _, _, _, _, hval0⟩ := hok
  have e : fn' = Tryz.f3 := Option.some.inj (hfn'.symm.trans Tryz.func3)
  subst e
  obtain ⟨⟨⟨ds, gs, before, hw, hc⟩, hx⟩, hz⟩ := hpre
  have hw' := DataW.Whole.of_heap (w' := w.forCall tape i) (by rfl) hw
  have hL : laidMetH Tryz.prog nilLaid (w.forCall tape i) := hx.of_heap (by rfl)
  have key : Calls Tryz.checked.prog 3 i.args (w.forCall tape i) fun e W' => ∃ v, e = .returned v ∧ Rows.pipelineNilSpec.post enc Tryz.checked.prog Tryz.f3 false true false false (w.forCall tape i) i.args v W' := by
    have hT := tens_of hshape hL
    have hval : ∀ (j : Nat) t v, Tryz.f3.params[j]? = some t → i.args[j]? = some v → Value.okWide Tryz.prog (w.forCall tape i) .any w.heap.size t v := hval0
    generalize w.forCall tape i = W at *
    generalize i.args = args at *
    have hW' := hw'
    obtain ⟨p, q, hA0, hV, rfl, _, _⟩ := hw'
    have hA : DataW.TrodAll enc Tryz.prog W 0 (fun _ => true) true Tryz.f3.params.toList args.toList ds p := hA0
    rw [Tryz.params3] at hA hval
    obtain ⟨v0, v1, v2, d0, d1, d2, p0, p1, p2, rfl, rfl, rfl, h0, h1, h2⟩ := trodAll_three hA
    obtain ⟨rfl, rfl⟩ := trodVars_none hV
    obtain ⟨x, rfl, rfl, rfl, wx⟩ := open_int Tryz.underlying3 (hval 0 3 v0 rfl rfl) h0
    simp only [List.append_nil] at hW'
    have hlt1 : ∀ y ∈ p1, y.block < W.heap.size := fun y hy => hW'.lt y (by simp [hy])
    have hlt2 : ∀ y ∈ p2, y.block < W.heap.size := fun y hy => hW'.lt y (by simp [hy])
    obtain ⟨a1, n1, c1, e1, N1, z1, m1⟩ := nums_of (hval 1 22 v1 rfl rfl) h1
    obtain ⟨a2, n2, c2, e2, N2, z2, m2⟩ := nums_of (hval 2 22 v2 rfl rfl) h2
    subst e1 e2
    refine (nil_any W hT x a1 a2 n1 c1 n2 c2 N1 z1 m1 N2 z2 m2).mono fun e W' ⟨he, hb⟩ => ?_
    subst he
    exact ⟨_, rfl, _, _, _, [], _, [], hW', trodAll_mk1 (shut_bool Tryz.underlying4 _), trodAll_mk3 (shut_int Tryz.underlying3 wx) (Below.trod nil_laidOut (by kernel_rfl) (of_decide_eq_true (by kernel_rfl)) h1 hb hlt1) (Below.trod nil_laidOut (by kernel_rfl) (of_decide_eq_true (by kernel_rfl)) h2 hb hlt2), rfl, hb.frame _, fun h => by cases h⟩
  refine key.mono fun e W' ⟨v, he, hp⟩ => ?_
  subst he
  exact ChangeSpec.post_blind hp

end Go.Proofs.YthbmgkbfmddhnaaGreatDoor
