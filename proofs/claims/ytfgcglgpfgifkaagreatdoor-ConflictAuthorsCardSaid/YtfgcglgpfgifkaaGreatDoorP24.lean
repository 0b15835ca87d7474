/- ConflictAuthors: the row is proved at each world. -/
import Derived.Test.YtfgcglgpfgifkaaGreatDoorRows
import Derived.Test.YtfgcglgpfgifkaaGreatDoorP19
import Derived.Test.YtfgcglgpfgifkaaGreatDoorP21
import Derived.Test.YtfgcglgpfgifkaaGreatDoorP22
import Derived.Test.YtfgcglgpfgifkaaGreatDoorP23
import Derived.ProofKit
import Derived.LaidMore
import Derived.OpenShut
import Derived.Stop.Joined
import Derived.Lay
import Derived.Carry
import Derived.Lib.LaidU8
set_option linter.all false
namespace Go.Proofs.YtfgcglgpfgifkaaGreatDoor
open Go Go.aI Go.b3 Go.ChangeShapes Go.WideShapes Go.ChangeAt Go.WideMaps Go.WideElems Go.RowKit

theorem prop_own : ownKnob Tryz.prog.godebug = none := by kernel_rfl
theorem prop_laidOut : laidOutB Tryz.prog = true := by kernel_rfl
abbrev nmTens : String := ((Rows.conflictAuthorsRow.laid[9]?).map (·.1)).getD ""
abbrev nmPow : String := ((Rows.conflictAuthorsRow.laid[0]?).map (·.1)).getD ""
theorem prop_g0 : Tryz.prog.globalNamed nmTens = some 1 := by kernel_rfl
theorem prop_t0 : (Tryz.prog.globals[1]?).map (·.type) = some 406 := by kernel_rfl
theorem prop_u0 : Tryz.prog.underlying 406 = some (.array 7 3) := by kernel_rfl
theorem prop_g1 : Tryz.prog.globalNamed nmPow = some 2 := by kernel_rfl
theorem prop_t1 : (Tryz.prog.globals[2]?).map (·.type) = some 488 := by kernel_rfl
theorem prop_u1 : Tryz.prog.underlying 488 = some (.array 20 173) := by kernel_rfl
theorem prop_ui : Tryz.prog.underlying 3 = some (.int .i64) := by kernel_rfl
theorem prop_uu : Tryz.prog.underlying 173 = some (.int .u64) := by kernel_rfl
theorem prop_u8 : Tryz.prog.underlying 5 = some (.int .u8) := by kernel_rfl
theorem prop_ub : Tryz.prog.underlying 4 = some .bool := by kernel_rfl
theorem prop_ul : Tryz.prog.underlying 22 = some (.slice 3) := by kernel_rfl
theorem prop_c3 : Tryz.prog.cellsOf 3 = 1 := by kernel_rfl
theorem prop_cu : Tryz.prog.cellsOf 173 = 1 := by kernel_rfl
theorem prop_c0 : Tryz.prog.cellsOf 406 = 7 := by kernel_rfl
theorem prop_c1 : Tryz.prog.cellsOf 488 = 20 := by kernel_rfl
theorem prop_gs : Tryz.prog.globals.size = 13 := by kernel_rfl
theorem prop_b0 : (((begin Tryz.prog (fun _ _ => 0) default).world.heap[1]?).bind Obj.row?).map (·.2) = some 406 := by kernel_rfl
theorem prop_b1 : (((begin Tryz.prog (fun _ _ => 0) default).world.heap[2]?).bind Obj.row?).map (·.2) = some 488 := by kernel_rfl

/-- Numbers, one after the other. -/
theorem nums_at {W : World} {fuel n : Nat} {t e : TypeId} {kd : IntKind} {cs : List Value} {p : List MemPlace} {zs : List Int} (hu : Tryz.prog.underlying t = some (.array n e)) (he : Tryz.prog.underlying e = some (.int kd)) (hce : Tryz.prog.cellsOf e = 1) (hct : Tryz.prog.cellsOf t = n) (hz : zs.length = n)
    (h : DataW.trod (fun _ : TypeId × Value => ()) Tryz.prog W 0 (fun _ => true) false fuel t cs = some (.agg (zs.map fun z => .lit (.int kd z)), p)) : cs = zs.map fun z => Value.int kd z := by
  obtain ⟨xs, m, _, hx, hlen, hn, hel⟩ := DataW.trod_array hu h
  rw [hct] at hlen
  rw [hce] at hel
  simp only [Nat.mul_one] at hel
  have hd : (xs.map (·.1)) = zs.map fun z => .lit (.int kd z) := by
    have := congrArg Prod.fst hx
    simp only [DataW.agg.injEq] at this
    exact this.symm
  apply List.ext_getElem?
  intro i
  by_cases hi : i < n
  · have h1 := hel i hi
    have hlt : i < xs.length := by omega
    rw [List.getElem?_eq_getElem hlt] at h1
    obtain ⟨k, e1, e2, _⟩ := DataW.trod_int he h1
    have a1 : cs[i]? = some (.int kd k) := by
      have : ((cs.drop i).take 1)[0]? = some (.int kd k) := by rw [e1]; rfl
      rw [List.getElem?_take, if_pos (by omega), List.getElem?_drop] at this
      simpa using this
    have a2 : (xs.map (·.1))[i]? = some (.lit (.int kd k)) := by
      rw [List.getElem?_map, List.getElem?_eq_getElem hlt, e2]; rfl
    rw [hd, List.getElem?_map, List.getElem?_eq_getElem (by omega)] at a2
    have a3 : (DataW.lit (.int kd (zs[i]'(by omega))) : DataW Unit) = .lit (.int kd k) := Option.some.inj a2
    cases a3
    rw [a1, List.getElem?_map, List.getElem?_eq_getElem (by omega)]
    rfl
  · rw [List.getElem?_eq_none (by omega), List.getElem?_eq_none (by simp; omega)]

theorem laid_at {W : World} (hS : W.ShapedOpen Tryz.prog) (hL : laidMetH Tryz.prog propLaid W) {nm : String} {g n : Nat} {t e : TypeId} {kd : IntKind} {zs : List Int} (hm : (nm, (.agg (zs.map fun z => .lit (.int kd z)) : DataW Unit)) ∈ propLaid) (hg : Tryz.prog.globalNamed nm = some g) (ht : (Tryz.prog.globals[g]?).map (·.type) = some t) (hu : Tryz.prog.underlying t = some (.array n e)) (he : Tryz.prog.underlying e = some (.int kd)) (hce : Tryz.prog.cellsOf e = 1) (hct : Tryz.prog.cellsOf t = n) (hz : zs.length = n) (hlt : g < 13)
    (hb : (((begin Tryz.prog (fun _ _ => 0) default).world.heap[g]?).bind Obj.row?).map (·.2) = some t) : ∃ fz, W.heap[g]? = some (.cells (zs.map fun z => Value.int kd z).toArray t fz) := by
  have hm' : laidMet Tryz.prog propLaid W := by rw [wit_plain] at hL; exact hL
  obtain ⟨g', t', cs, fuel, p, hg', ht', hv, hd⟩ := Lib.laidMet.reads hm' hm
  obtain rfl := Option.some.inj (hg.symm.trans hg')
  obtain rfl := Option.some.inj (ht.symm.trans ht')
  have h7 := nums_at hu he hce hct hz hd
  rw [Option.map_eq_some_iff] at hb
  obtain ⟨x, hx, htx⟩ := hb
  obtain ⟨cs', h1, _⟩ := hS.1 g x.1 x.2 (by rw [prop_gs]; exact hlt) hx
  rw [htx] at h1
  have e : cs' = cs := by
    simp only [World.var?, hg, Option.bind_some, h1, Option.some.injEq] at hv
    exact hv
  refine ⟨(0, 0), ?_⟩
  rw [h1, e]
  have : cs = (zs.map fun z => Value.int kd z).toArray := by
    apply Array.toList_inj.1
    rw [h7]
  rw [this]

theorem tens_at {W : World} (hS : W.ShapedOpen Tryz.prog) (hL : laidMetH Tryz.prog propLaid W) : FG W :=
  laid_at hS hL (nm := nmTens) (zs := [1, 10, 100, 1000, 10000, 100000, 1000000]) (kd := .i64) (List.mem_iff_getElem?.2 ⟨9, rfl⟩) prop_g0 prop_t0 prop_u0 prop_ui prop_c3 prop_c0 rfl (by omega) prop_b0
theorem pow_at {W : World} (hS : W.ShapedOpen Tryz.prog) (hL : laidMetH Tryz.prog propLaid W) : Fx W :=
  laid_at hS hL (nm := nmPow) (zs := Lib.pow10Tab) (kd := .u64) (List.mem_iff_getElem?.2 ⟨0, rfl⟩) prop_g1 prop_t1 prop_u1 prop_uu prop_cu prop_c1 Lib.pow10Tab_length (by omega) prop_b1

theorem addr_none (b o j : Nat) : (⟨b, o, none⟩ : Addr).add j = ⟨b, o + j, none⟩ := by unfold Addr.add; split <;> simp_all

set_option maxRecDepth 100000 in
/-- A slice of numbers that comes in. -/
theorem nums_of {H : Type} {enc : TypeId × Value → H} {W : World} {base : Nat} {v : Value} {d : DataW H} {p : List MemPlace} (hv : Value.okWide Tryz.prog W .any base 22 v) (h : DataW.Trod enc Tryz.prog W 0 (fun _ => true) true 22 v d p) :
    ∃ a n c, v = .slice a n c ∧ k7 W a n ∧ (∀ q, a = some q → q.block < W.heap.size) ∧ n ≤ maxLen := by
  obtain ⟨a, n, c, rfl⟩ := okWide_slice prop_ul hv
  refine ⟨a, n, c, rfl, ?_⟩
  obtain ⟨fuel, h⟩ := h
  have hok : ∀ q, a = some q → q.spot = none ∧ q.block < W.heap.size := fun q hq => by
    subst hq
    simp only [Value.okWide, prop_ul, Cell.okWide, Cell.ok] at hv
    obtain ⟨_, _, _, hs, row, cells, hsh, _⟩ := hv
    refine ⟨hs, ?_⟩
    by_cases hlt : q.block < W.heap.size
    · exact hlt
    · simp [World.shape?, hlt] at hsh
  rcases open_ints prop_ul prop_ui prop_c3 h with ⟨hcs, _⟩ | ⟨q, len, cap, zs, hcs, _, hlc, hcm, hzl, _, hcell, _⟩
  · simp [Value.cells] at hcs
    obtain ⟨rfl, rfl, rfl⟩ := hcs
    exact ⟨.inl rfl, fun q hq => (by cases hq), Nat.zero_le _⟩
  · simp [Value.cells] at hcs
    obtain ⟨rfl, rfl, rfl⟩ := hcs
    obtain ⟨hs, hb⟩ := hok q rfl
    obtain ⟨b, o, sp⟩ := q
    simp only at hs
    subst hs
    refine ⟨.inr ⟨b, o, rfl, fun i hi => ⟨zs.getD i 0, ?_⟩⟩, fun q' hq' => (hok q' hq').2, Nat.le_trans hlc hcm⟩
    have := hcell i (by rw [hzl]; simp; omega)
    rw [addr_none] at this
    exact this

set_option maxRecDepth 100000 in
/-- A slice of numbers that comes in, with its numbers. -/
theorem ids_of {H : Type} {enc : TypeId × Value → H} {W : World} {base : Nat} {v : Value} {d : DataW H} {p : List MemPlace} (hv : Value.okWide Tryz.prog W .any base 22 v) (h : DataW.Trod enc Tryz.prog W 0 (fun _ => true) true 22 v d p) :
    ∃ a c zs, v = .slice a (zs : List Int).length c ∧ tD W a zs := by
  obtain ⟨a, n, c, rfl⟩ := okWide_slice prop_ul hv
  obtain ⟨fuel, h⟩ := h
  have hok : ∀ q, a = some q → q.spot = none ∧ q.block < W.heap.size := fun q hq => by
    subst hq
    simp only [Value.okWide, prop_ul, Cell.okWide, Cell.ok] at hv
    obtain ⟨_, _, _, hs, row, cells, hsh, _⟩ := hv
    refine ⟨hs, ?_⟩
    by_cases hlt : q.block < W.heap.size
    · exact hlt
    · simp [World.shape?, hlt] at hsh
  rcases open_ints prop_ul prop_ui prop_c3 h with ⟨hcs, _⟩ | ⟨q, len, cap, zs, hcs, _, hlc, hcm, hzl, _, hcell, _⟩
  · simp [Value.cells] at hcs
    obtain ⟨rfl, rfl, rfl⟩ := hcs
    exact ⟨none, 0, [], rfl, Nat.zero_le _, fun h => absurd h (Nat.lt_irrefl _)⟩
  · simp [Value.cells] at hcs
    obtain ⟨rfl, rfl, rfl⟩ := hcs
    obtain ⟨hs, hb⟩ := hok q rfl
    obtain ⟨b, o, sp⟩ := q
    simp only at hs
    subst hs
    have hln : n ≤ zs.length := by rw [hzl]; simp; omega
    have hl : (zs.take n).length = n := by rw [List.length_take]; omega
    refine ⟨some ⟨b, o, none⟩, c, zs.take n, by rw [hl], by rw [hl]; exact Nat.le_trans hlc hcm, fun _ => ⟨b, o, rfl, hb, fun i hi => ?_⟩⟩
    rw [hl] at hi
    have := hcell i (by omega)
    rw [addr_none] at this
    rw [this, List.getElem_take, List.getD_eq_getElem?_getD, List.getElem?_eq_getElem (by omega)]
    rfl

set_option maxRecDepth 100000 in
theorem prop_wit (os : Os) (H : Type) (enc : TypeId × Value → H) : ∃ (w : World) (tape : Tape) (i : Input), w.os = os ∧ (w.forCall tape i).Shaped Tryz.checked.prog ∧ i.vars = [] ∧ Input.okWide Tryz.checked.prog (w.forCall tape i) .any w.heap.size 3 i ∧
      ((Rows.conflictAuthorsSpec.pre enc Tryz.checked.prog Tryz.f3 [] false (w.forCall tape i).memory i.args ∧ laidMetH Tryz.prog propLaid (w.forCall tape i).memory) ∧ sizedMet enc Tryz.checked.prog Tryz.f3 (OpenSpec.ofChange Rows.conflictAuthorsSpec) false (w.forCall tape i).memory i.args) ∧ ({} : Assume).holds Tryz.checked.prog (lone (Frame.enter Tryz.checked.prog 3 i.args .normal) [] (w.forCall tape i)) :=
  ChangeSpec.witness_shaped (enc := enc) (C := Tryz.checked) (os := os) (X := fun w _ => laidMetH Tryz.prog propLaid w) false (World.laidAll Tryz.prog os propLaid) #[.slice none 0 0, .slice none 0 0, .slice none 0 0] 8 (World.laidAll_os _ _ _)
    (World.shaped_of_ZipB (wit_zip os) (wit_rest os)) (wit_ok os) (wit_pre enc os) (wit_sized enc os)
    (by rw [wit_plain]; exact laidMet_laidAll _ (wit_fits os) (wit_ifaces os))

theorem prop_ull : Tryz.prog.underlying 23 = some (.slice 22) := by kernel_rfl
theorem prop_cl : Tryz.prog.cellsOf 22 = 1 := by kernel_rfl
theorem prop_b12 : (((begin Tryz.prog (fun _ _ => 0) default).world.heap[12]?).bind Obj.row?).isSome = true := by kernel_rfl
theorem heap_13 {W : World} (hS : W.ShapedOpen Tryz.prog) : 13 ≤ W.heap.size := by
  obtain ⟨x, hx⟩ := Option.isSome_iff_exists.1 prop_b12
  obtain ⟨cs', h1, _⟩ := hS.1 12 x.1 x.2 (by rw [prop_gs]; omega) hx
  exact (Array.getElem?_eq_some_iff.1 h1).1
theorem cells_one {W : World} {x : Addr} {cs : List Value} (h : W.cells? 0 x 1 = some cs) : ∃ c, cs = [c] ∧ W.cell? x = some c := by
  have e0 : x.add 0 = x := by simp [Addr.add]
  simp [World.cells?, List.range_succ, e0] at h
  cases hc : W.cell? x with
  | none => simp [hc] at h
  | some c =>
    simp [hc] at h
    exact ⟨c, h.symm, rfl⟩
set_option maxRecDepth 100000 in
/-- A slice of slices of numbers that comes in. -/
theorem numls_of {H : Type} {enc : TypeId × Value → H} {W : World} {base : Nat} {v : Value} {d : DataW H} {p : List MemPlace} (hv : Value.okWide Tryz.prog W .any base 23 v) (h : DataW.Trod enc Tryz.prog W 0 (fun _ => true) true 23 v d p) :
    ∃ a n c, v = .slice a n c ∧ IQ W a n := by
  obtain ⟨a, n, c, rfl⟩ := okWide_slice prop_ull hv
  refine ⟨a, n, c, rfl, ?_⟩
  obtain ⟨fuel, h⟩ := h
  have hok : ∀ q, a = some q → q.spot = none ∧ q.block < W.heap.size := fun q hq => by
    subst hq
    simp only [Value.okWide, prop_ull, Cell.okWide, Cell.ok] at hv
    obtain ⟨_, _, _, hs, row, cells, hsh, _⟩ := hv
    refine ⟨hs, ?_⟩
    by_cases hlt : q.block < W.heap.size
    · exact hlt
    · simp [World.shape?, hlt] at hsh
  rcases DataW.trod_slice prop_ull h with ⟨hcs, _⟩ | ⟨q, len, cap, elems, rest, m, _, hcs, _, _, _, _, hlen, hel, _, _⟩
  · simp [Value.cells] at hcs
    obtain ⟨rfl, rfl, rfl⟩ := hcs
    exact .inl rfl
  · simp [Value.cells] at hcs
    obtain ⟨rfl, rfl, rfl⟩ := hcs
    obtain ⟨hs, hbk⟩ := hok q rfl
    obtain ⟨b, o, sp⟩ := q
    simp only at hs
    subst hs
    refine .inr ⟨b, o, rfl, hbk, fun i hi => ?_⟩
    have h1 := hel i hi
    rw [prop_cl, Nat.mul_one, List.getElem?_eq_getElem (by omega), Option.bind_eq_some_iff] at h1
    obtain ⟨cs', hc1, h2⟩ := h1
    rw [addr_none] at hc1
    obtain ⟨cv, rfl, hcell⟩ := cells_one hc1
    rcases open_ints prop_ul prop_ui prop_c3 h2 with ⟨e1, _⟩ | ⟨q', len', cap', zs, e1, _, hlc, hcm, hzl, _, hcell', _⟩
    · obtain rfl : cv = .slice none 0 0 := by injection e1
      exact ⟨none, 0, 0, hcell, .inl rfl, fun q hq => (by cases hq), Nat.zero_le _⟩
    · obtain rfl : cv = .slice (some q') len' cap' := by injection e1
      have key : 0 < len' → q'.spot = none ∧ q'.block < W.heap.size := fun h0 => by
        have h3 := hcell' 0 (by rw [hzl]; simp; omega)
        rw [show q'.add 0 = q' by simp [Addr.add]] at h3
        refine ⟨?_, World.block_lt_of_cell? W _ h3⟩
        cases hsp : q'.spot with
        | none => rfl
        | some k =>
          exfalso
          unfold World.cell? at h3
          rw [hsp] at h3
          split at h3
          · simp at h3
          · cases h3
      refine ⟨some q', len', cap', hcell, ?_, fun q hq h0 => by cases hq; exact (key h0).2, Nat.le_trans hlc hcm⟩
      by_cases h0 : len' = 0
      · exact .inl h0
      · have hs := (key (by omega)).1
        obtain ⟨b', o', sp'⟩ := q'
        simp only at hs
        subst hs
        refine .inr ⟨b', o', rfl, fun k hk => ⟨zs.getD k 0, ?_⟩⟩
        have := hcell' k (by rw [hzl]; simp; omega)
        rw [addr_none] at this
        exact this

set_option maxRecDepth 100000 in
theorem prop_lifted (os : Os) (started : os.Started) (H : Type) (enc : TypeId × Value → H) :
    ReturnsInHanded {} Tryz.checked os 3 .any (fun w args => (Rows.conflictAuthorsSpec.pre enc Tryz.prog Tryz.f3 [] false w args ∧ laidMetH Tryz.prog propLaid w) ∧ sizedMet enc Tryz.prog Tryz.f3 (OpenSpec.ofChange Rows.conflictAuthorsSpec) false w args)
      (Rows.conflictAuthorsSpec.post enc Tryz.prog Tryz.f3 false true false false) := by
  refine returnsInHanded_of_calls (C := Tryz.checked) prop_own started (by kernel_rfl) (prop_wit os H enc) ?_
  intro w tape i _ hshape _ hok hpre hholds
  obtain ⟨_, _, _, fn', hfn', _, _, _, _, hval0⟩ := hok
  have e : fn' = Tryz.f3 := Option.some.inj (hfn'.symm.trans Tryz.func3)
  subst e
  obtain ⟨⟨⟨ds, gs, before, hw, hc⟩, hx⟩, hz⟩ := hpre
  have hw' := DataW.Whole.of_heap (w' := w.forCall tape i) (by rfl) hw
  have hL : laidMetH Tryz.prog propLaid (w.forCall tape i) := hx.of_heap (by rfl)
  have key : Calls Tryz.checked.prog 3 i.args (w.forCall tape i) fun e W' => ∃ v, e = .returned v ∧ Rows.conflictAuthorsSpec.post enc Tryz.checked.prog Tryz.f3 false true false false (w.forCall tape i) i.args v W' := by
    have hT := tens_at hshape hL
    have hP := pow_at hshape hL
    have hval : ∀ (j : Nat) t v, Tryz.f3.params[j]? = some t → i.args[j]? = some v → Value.okWide Tryz.prog (w.forCall tape i) .any w.heap.size t v := hval0
    generalize w.forCall tape i = W at *
    generalize i.args = args at *
    have hW' := hw'
    obtain ⟨p, q, hA0, hV, rfl, _, _⟩ := hw'
    have hA : DataW.TrodAll enc Tryz.prog W 0 (fun _ => true) true Tryz.f3.params.toList args.toList ds p := hA0
    rw [Tryz.params3] at hA hval
    obtain ⟨v0, v1, v2, d0, d1, d2, p0, p1, p2, rfl, rfl, rfl, h0, h1, h2⟩ := trodAll_three hA
    obtain ⟨rfl, rfl⟩ := trodVars_none hV
    simp only [List.append_nil] at hW'
    have hlt0 : ∀ y ∈ p0, y.block < W.heap.size := fun y hy => hW'.lt y (by simp [hy])
    have hlt1 : ∀ y ∈ p1, y.block < W.heap.size := fun y hy => hW'.lt y (by simp [hy])
    have hlt2 : ∀ y ∈ p2, y.block < W.heap.size := fun y hy => hW'.lt y (by simp [hy])
    obtain ⟨a1, n1, c1, e1, N1, z1, m1⟩ := nums_of (hval 0 22 v0 rfl rfl) h0
    obtain ⟨a2, n2, c2, e2, N2⟩ := numls_of (hval 1 23 v1 rfl rfl) h1
    obtain ⟨a3, c3, zs, e3, N3⟩ := ids_of (hval 2 22 v2 rfl rfl) h2
    subst e1 e2 e3
    refine (aFl W hT hP (heap_13 hshape) a1 n1 c1 N1 z1 m1 a2 n2 c2 N2 a3 c3 zs N3).mono fun e W' ⟨he, hb⟩ => ?_
    have he : e = .returned (.bool true) := he
    subst he
    exact ⟨_, rfl, _, _, _, [], _, [], hW', trodAll_mk1 (shut_bool prop_ub _), trodAll_mk3 (Below.trod prop_laidOut (by kernel_rfl) (of_decide_eq_true (by kernel_rfl)) h0 hb hlt0) (Below.trod prop_laidOut (by kernel_rfl) (of_decide_eq_true (by kernel_rfl)) h1 hb hlt1) (Below.trod prop_laidOut (by kernel_rfl) (of_decide_eq_true (by kernel_rfl)) h2 hb hlt2), rfl, hb.frame _, fun h => by cases h⟩
  refine key.mono fun e W' ⟨v, he, hp⟩ => ?_
  subst he
  exact ChangeSpec.post_blind hp

end Go.Proofs.YtfgcglgpfgifkaaGreatDoor
