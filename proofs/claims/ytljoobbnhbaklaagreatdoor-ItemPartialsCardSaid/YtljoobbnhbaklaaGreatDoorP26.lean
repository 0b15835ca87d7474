/- ItemPartials, one part of the proof: PartS2. -/
import Derived.Test.YtljoobbnhbaklaaGreatDoorP24
import Derived.Test.YtljoobbnhbaklaaGreatDoorP25
import Derived.Laws.OwnMore
import Derived.Maps.AppendAt
import Derived.Deep.AppendLies
set_option linter.all false
set_option maxRecDepth 100000
set_option maxHeartbeats 16000000
namespace Go.EvPart
open Go Go.Proofs Go.RowKit Go.EvNil
def PrAt (w : World) (v : Value) (q : List Int) : Prop := ∃ qa qc, v = .slice qa q.length qc /\ ListT w qa q
theorem PrAt.kept {w w' : World} {v : Value} {q : List Int} (h : PrAt w v q) (hk : KeepI w w') : PrAt w' v q := by
 obtain ⟨qa, qc, e, hl⟩ := h
 exact ⟨qa, qc, e, hl.kept hk⟩
theorem PrAt.one {w : World} {v : Value} {q : List Int} (h : PrAt w v q) : v.oneCell' = true := by
 obtain ⟨qa, qc, rfl, _⟩ := h; rfl
def PrL (w : World) : List Value -> List (List Int) -> Prop
 | [], [] => True
 | v :: vs, q :: l => PrAt w v q /\ PrL w vs l
 | _, _ => False
theorem PrL.len {w : World} : ∀ {ys : List Value} {l : List (List Int)}, PrL w ys l -> ys.length = l.length
 | [], [], _ => rfl
 | v :: vs, q :: l, h => by simp [PrL.len h.2]
theorem PrL.kept {w w' : World} (hk : KeepI w w') : ∀ {ys : List Value} {l : List (List Int)}, PrL w ys l -> PrL w' ys l
 | [], [], _ => trivial
 | v :: vs, q :: l, h => ⟨h.1.kept hk, h.2.kept hk⟩
theorem keptInts {w w' : World} (hb : Below w.heap.size w w') : KeepI w w' := fun b arr fz hl => by rw [hb.block b (heap_lt' hl)]; exact hl
theorem PrL.below {w w' : World} {ys : List Value} {l : List (List Int)} (h : PrL w ys l) (hb : Below w.heap.size w w') : PrL w' ys l := h.kept (keptInts hb)
theorem PrL.app {w : World} : ∀ {ys zs : List Value} {l m : List (List Int)}, PrL w ys l -> PrL w zs m -> PrL w (ys ++ zs) (l ++ m)
 | [], zs, [], m, _, h => h
 | v :: vs, zs, q :: l, m, h1, h2 => ⟨h1.1, h1.2.app h2⟩
theorem PrL.at' {w : World} : ∀ {ys : List Value} {l : List (List Int)} (_ : PrL w ys l) (i : Nat) (hi : i < l.length), ∃ v, ys[i]? = some v /\ PrAt w v l[i]
 | [], [], _, _, hi => by simp at hi
 | v :: vs, q :: l, h, 0, _ => ⟨v, rfl, h.1⟩
 | v :: vs, q :: l, h, i + 1, hi => by
   obtain ⟨u, h1, h2⟩ := PrL.at' h.2 i (by simpa using hi)
   exact ⟨u, by simpa using h1, by simpa using h2⟩
theorem PrL.one {w : World} : ∀ {ys : List Value} {l : List (List Int)}, PrL w ys l -> ∀ u ∈ ys, u.oneCell' = true
 | [], [], _, u, hu => by cases hu
 | v :: vs, q :: l, h, u, hu => by
   rcases List.mem_cons.1 hu with rfl | hu
   · exact h.1.one
   · exact h.2.one u hu
def PrsAt (w : World) (va : Option Addr) (l : List (List Int)) : Prop := 0 < l.length -> ∃ b o arr fz ys, va = some ⟨b, o, none⟩ /\ w.heap[b]? = some (.cells arr 22 fz) /\ PrL w ys l /\ ∀ (i : Nat) u, ys[i]? = some u -> arr[o + i]? = some u
theorem PrsAt.cell {w : World} {va : Option Addr} {l : List (List Int)} (h : PrsAt w va l) (h0 : 0 < l.length) : ∃ b o, va = some ⟨b, o, none⟩ /\ b < w.heap.size /\ ∀ i (hi : i < l.length), ∃ v, w.cell? ⟨b, o + i, none⟩ = some v /\ PrAt w v l[i] := by
 obtain ⟨b, o, arr, fz, ys, e, hl, hp, hc⟩ := h h0
 refine ⟨b, o, e, heap_lt' hl, fun i hi => ?_⟩
 obtain ⟨u, h1, h2⟩ := hp.at' i hi
 exact ⟨u, by simp only [World.cell?, hl]; exact hc i u h1, h2⟩
theorem PrsAt.news {w : World} {va : Option Addr} {l : List (List Int)} (h : PrsAt w va l) (hn : va = none -> l = []) : ∃ ys, PrL w ys l /\ ((∃ ad, va = some ad /\ ∀ (j : Nat) u, ys[j]? = some u -> w.cell? (ad.add j) = some u) ∨ (va = none /\ l = [])) := by
 by_cases h0 : 0 < l.length
 · obtain ⟨b, o, arr, fz, ys, e, hl, hp, hc⟩ := h h0
   refine ⟨ys, hp, .inl ⟨_, e, fun j u hu => ?_⟩⟩
   have hadd : (⟨b, o, none⟩ : Addr).add j = ⟨b, o + j, none⟩ := by unfold Addr.add; split <;> simp_all
   rw [hadd]
   simp only [World.cell?, hl]
   exact hc j u hu
 · have hl : l = [] := List.eq_nil_of_length_eq_zero (by omega)
   subst hl
   refine ⟨[], trivial, ?_⟩
   cases va with
   | none => exact .inr ⟨rfl, rfl⟩
   | some ad => exact .inl ⟨ad, rfl, fun j u hu => by simp at hu⟩
theorem PrsAt.progs {T : List Int -> Prop} {w : World} {va : Option Addr} {l : List (List Int)} (h : PrsAt w va l) (hT : ∀ q ∈ l, T q) : Progs T w va l.length := fun h0 => by
 obtain ⟨b, o, e, hl, hc⟩ := h.cell h0
 refine ⟨b, o, e, hl, fun i hi => ?_⟩
 obtain ⟨v, h1, qa, qc, h2, h3⟩ := hc i hi
 exact ⟨v, h1, qa, qc, l[i], h2, h3, hT _ (List.getElem_mem hi)⟩
theorem rowNe {w : World} {base : Nat} {e t : TypeId} {size : Nat} {v : Value} {n : Nat} {xs : List Value} (h : w.ownsRow base e size v n xs) {b : Nat} {cs : Array Value} {fr : Nat × Nat} (hb : w.heap[b]? = some (.cells cs t fr)) (ht : t ≠ e) : some b ≠ v.ownBlock := by
 obtain ⟨h3, h4⟩ := h
 rcases h4 with ⟨h4, _⟩ | ⟨g, cap, cur, e1, e2, e3, e4⟩
 · subst h4; simp [Value.ownBlock]
 · subst e1
   simp only [Value.ownBlock, ne_eq, Option.some.injEq]
   intro e5
   subst e5
   rw [hb] at e3
   cases e3
   exact ht rfl
theorem keptGrown {w w' : World} {base : Nat} {size : Nat} {v : Value} {n : Nat} {xs : List Value} (h : w.ownsRow base 22 size v n xs) (hg : w.grownBy w' v.ownBlock) : KeepI w w' := fun b arr fz hl => by
 rw [hg.block b (heap_lt' hl) (rowNe h hl (by decide))]; exact hl
theorem prs_of_own {w : World} {base : Nat} {v : Value} {n : Nat} {ys : List Value} {l : List (List Int)} (h : w.ownsRow base 22 1 v n ys) (hp : PrL w ys l) (hn : l.length = n) : ∃ va vc, v = .slice va l.length vc /\ PrsAt w va l /\ (va = none -> l = [] /\ vc = 0) /\ l.length <= vc := by
 subst hn
 rcases h.2 with ⟨e1, e2⟩ | ⟨g, cap, cur, e1, e2, e3, e4, e5, e6, e7⟩
 · refine ⟨none, 0, ?_, fun h0 => by omega, fun _ => ⟨List.eq_nil_of_length_eq_zero e2, rfl⟩, by omega⟩
   rw [e1, e2]
 · refine ⟨_, cap, e1, fun h0 => ⟨g, 0, cur, (0, 0), ys, rfl, e3, hp, fun i u hu => ?_⟩, fun h => (by cases h), e4⟩
   rw [Nat.zero_add]
   have hlt : i < l.length * 1 := by
     have := (List.getElem?_eq_some_iff.1 hu).1
     rw [hp.len] at this
     omega
   rw [← e7, List.getElem?_take, if_pos hlt] at hu
   simpa using hu
theorem run_none0 {P : Program} {w : World} (base : Nat) (t ty e : TypeId) (i : TypeInfo) (size : Nat) (ht : P.underlying t = some (.slice e)) (hi : P.info? e = some i)
   (v : Value) (n c : Nat) (xs : List Value) (hown : w.ownsRow base e size v n xs) :
   (Builtin.append_ #[t, t] ty #[v, .slice none 0 c]).run P w = .ok v w := by
 rcases hown.2 with ⟨rfl, rfl⟩ | ⟨g, cap, cur, rfl, _, _, hnc, _⟩
 · simp [Builtin.append_, run_underlying ht, sizeOf, typeInfo, hi, Builtin.lenOf, Builtin.firstCells]
 · simp [Builtin.append_, run_underlying ht, sizeOf, typeInfo, hi, Builtin.lenOf, Builtin.firstCells, hnc, storeCells]
section
variable {P : Program} (w : World)
theorem wp_append_any {o : Oper} {a : Act} {K : Act -> World -> Prop} {Q : Exit -> Act -> World -> Prop} (s x : Operand) (t : TypeId)
   (ho : o.op = .call { callee := .builtin .append, args := #[s, x], argTypes := #[t, t] })
   (base : Nat) (e : TypeId) (i : TypeInfo) (z : Value) (size bytes : Nat) (ht : P.underlying t = some (.slice e)) (hi : P.info? e = some i) (hz : i.zero = some z)
   (hsize : i.size = size) (hby : i.bytes = bytes) (hzs : z.cells.size = size) (hsz : 0 < size)
   (v : Value) (n : Nat) (xs : List Value) (hs : a.eval s = v) (hown : w.ownsRow base e size v n xs)
   (va : Option Addr) (m c : Nat) (news : List Value) (hx : a.eval x = .slice va m c) (hl : news.length = m * size)
   (hv : (∃ ad, va = some ad /\ ∀ (j : Nat) u, news[j]? = some u -> w.cell? (ad.add j) = some u) ∨ (va = none /\ m = 0)) (h1 : ∀ u ∈ news, u.oneCell' = true)
   (h63 : n + m <= maxLen) (hbytes : (n + m) * bytes <= 140737488355328) (hbase : base <= w.heap.size)
   (h : ∀ v' w', w'.ownsRow base e size v' (n + m) (xs ++ news) -> w.grownBy w' v.ownBlock -> (v'.ownBlock = v.ownBlock ∨ v'.ownBlock = some w.heap.size) -> K (a.put o.dst v') w') : o.wp P a w K Q := by
 rcases hv with ⟨ad, rfl, hnews⟩ | ⟨rfl, rfl⟩
 · obtain ⟨v', w', hr, h2, h3, h4, h5⟩ := run_append_own_at (P := P) w base t o.type e i z size bytes ht hi hz hsize hby hzs hsz v n xs hown ad m c news hl hnews h1 h63 hbytes hbase
   unfold Oper.wp execOp
   simp only [ho, resolve, invoke, builtin, Sem.run_bind, Sem.run_pure, Result.andThen_ok, List.map_toArray, List.map_cons, List.map_nil, hs, hx, hr]
   exact h v' w' h2 h3 h5
 · have hn : news = [] := List.eq_nil_of_length_eq_zero (by simpa using hl)
   subst hn
   have hrun := run_none0 (P := P) (w := w) base t o.type e i size ht hi v n c xs hown
   unfold Oper.wp execOp
   simp only [ho, resolve, invoke, builtin, Sem.run_bind, Sem.run_pure, Result.andThen_ok, List.map_toArray, List.map_cons, List.map_nil, hs, hx, hrun]
   exact h v w (by simpa using hown) ⟨rfl, rfl, rfl, Nat.le_refl _, fun _ _ _ => rfl⟩ (.inl rfl)
theorem wpList_append_any {ops : Array Oper} {rest : List Oper} {o : Oper} {a : Act} {Q : Exit -> Act -> World -> Prop} (hgd : o.guard = none) (s x : Operand) (t : TypeId)
   (ho : o.op = .call { callee := .builtin .append, args := #[s, x], argTypes := #[t, t] })
   (base : Nat) (e : TypeId) (i : TypeInfo) (z : Value) (size bytes : Nat) (ht : P.underlying t = some (.slice e)) (hi : P.info? e = some i) (hz : i.zero = some z)
   (hsize : i.size = size) (hby : i.bytes = bytes) (hzs : z.cells.size = size) (hsz : 0 < size)
   (v : Value) (n : Nat) (xs : List Value) (hs : a.eval s = v) (hown : w.ownsRow base e size v n xs)
   (va : Option Addr) (m c : Nat) (news : List Value) (hx : a.eval x = .slice va m c) (hl : news.length = m * size)
   (hv : (∃ ad, va = some ad /\ ∀ (j : Nat) u, news[j]? = some u -> w.cell? (ad.add j) = some u) ∨ (va = none /\ m = 0)) (h1 : ∀ u ∈ news, u.oneCell' = true)
   (h63 : n + m <= maxLen) (hbytes : (n + m) * bytes <= 140737488355328) (hbase : base <= w.heap.size)
   (h : ∀ v' w', w'.ownsRow base e size v' (n + m) (xs ++ news) -> w.grownBy w' v.ownBlock -> (v'.ownBlock = v.ownBlock ∨ v'.ownBlock = some w.heap.size) -> wpList P ops Q rest (a.put o.dst v') w') : wpList P ops Q (o :: rest) a w :=
 wpList_plain hgd fun _ hK => wp_append_any w s x t ho base e i z size bytes ht hi hz hsize hby hzs hsz v n xs hs hown va m c news hx hl hv h1 h63 hbytes hbase fun v' w' h2 h3 h4 => hK _ _ (h v' w' h2 h3 h4)
theorem step_append_any {ops : Array Oper} {o : Oper} {a : Act} {K : Act -> World -> Prop} {Q : Exit -> Act -> World -> Prop} {E : Prop} (hgd : o.guard = none) (s x : Operand) (t : TypeId)
   (ho : o.op = .call { callee := .builtin .append, args := #[s, x], argTypes := #[t, t] })
   (base : Nat) (e : TypeId) (i : TypeInfo) (z : Value) (size bytes : Nat) (ht : P.underlying t = some (.slice e)) (hi : P.info? e = some i) (hz : i.zero = some z)
   (hsize : i.size = size) (hby : i.bytes = bytes) (hzs : z.cells.size = size) (hsz : 0 < size)
   (v : Value) (n : Nat) (xs : List Value) (hs : a.eval s = v) (hown : w.ownsRow base e size v n xs)
   (va : Option Addr) (m c : Nat) (news : List Value) (hx : a.eval x = .slice va m c) (hl : news.length = m * size)
   (hv : (∃ ad, va = some ad /\ ∀ (j : Nat) u, news[j]? = some u -> w.cell? (ad.add j) = some u) ∨ (va = none /\ m = 0)) (h1 : ∀ u ∈ news, u.oneCell' = true)
   (h63 : n + m <= maxLen) (hbytes : (n + m) * bytes <= 140737488355328) (hbase : base <= w.heap.size)
   (h : ∀ v' w', w'.ownsRow base e size v' (n + m) (xs ++ news) -> w.grownBy w' v.ownBlock -> (v'.ownBlock = v.ownBlock ∨ v'.ownBlock = some w.heap.size) -> K (a.put o.dst v') w') :
   if Region.wanted o (yielded ops a.tmps) = true then Oper.wp P o a w K Q else E := by
 have hw : Region.wanted o (yielded ops a.tmps) = true := by simp [Region.wanted, hgd]
 rw [if_pos hw]
 exact wp_append_any w s x t ho base e i z size bytes ht hi hz hsize hby hzs hsz v n xs hs hown va m c news hx hl hv h1 h63 hbytes hbase h
theorem step_append_anyD {d : Option Tmp} {ops : Array Oper} {o : Oper} {a : Act} {K : Act -> World -> Prop} {Q : Exit -> Act -> World -> Prop} {E : Prop} (hd : o.dst = d) (hgd : o.guard = none) (s x : Operand) (t : TypeId)
   (ho : o.op = .call { callee := .builtin .append, args := #[s, x], argTypes := #[t, t] })
   (base : Nat) (e : TypeId) (i : TypeInfo) (z : Value) (size bytes : Nat) (ht : P.underlying t = some (.slice e)) (hi : P.info? e = some i) (hz : i.zero = some z)
   (hsize : i.size = size) (hby : i.bytes = bytes) (hzs : z.cells.size = size) (hsz : 0 < size)
   (v : Value) (n : Nat) (xs : List Value) (hs : a.eval s = v) (hown : w.ownsRow base e size v n xs)
   (va : Option Addr) (m c : Nat) (news : List Value) (hx : a.eval x = .slice va m c) (hl : news.length = m * size)
   (hv : (∃ ad, va = some ad /\ ∀ (j : Nat) u, news[j]? = some u -> w.cell? (ad.add j) = some u) ∨ (va = none /\ m = 0)) (h1 : ∀ u ∈ news, u.oneCell' = true)
   (h63 : n + m <= maxLen) (hbytes : (n + m) * bytes <= 140737488355328) (hbase : base <= w.heap.size)
   (h : ∀ v' w', w'.ownsRow base e size v' (n + m) (xs ++ news) -> w.grownBy w' v.ownBlock -> (v'.ownBlock = v.ownBlock ∨ v'.ownBlock = some w.heap.size) -> K (a.put d v') w') :
   if Region.wanted o (yielded ops a.tmps) = true then Oper.wp P o a w K Q else E := by
 subst hd
 exact step_append_any w hgd s x t ho base e i z size bytes ht hi hz hsize hby hzs hsz v n xs hs hown va m c news hx hl hv h1 h63 hbytes hbase h
theorem step_append_liesD {d : Option Tmp} {ops : Array Oper} {o : Oper} {a : Act} {K : Act -> World -> Prop} {Q : Exit -> Act -> World -> Prop} {E : Prop} (hd : o.dst = d) (hgd : o.guard = none) (s x : Operand) (t : TypeId)
   (ho : o.op = .call { callee := .builtin .append, args := #[s, x], argTypes := #[t, t] })
   (base : Nat) (e : TypeId) (i : TypeInfo) (z : Value) (size bytes : Nat) (ht : P.underlying t = some (.slice e)) (hi : P.info? e = some i) (hz : i.zero = some z)
   (hsize : i.size = size) (hby : i.bytes = bytes) (hzs : z.cells.size = size) (hsz : 0 < size)
   (v : Value) (n : Nat) (xs : List Value) (hs : a.eval s = v) (hown : w.ownsRow base e size v n xs)
   (ad : Addr) (m c : Nat) (news : List Value) (hx : a.eval x = .slice (some ad) m c) (hl : news.length = m * size) (hnews : ∀ j u, news[j]? = some u -> w.cell? (ad.add j) = some u) (h1 : ∀ u ∈ news, u.oneCell' = true)
   (hm : 0 < m) (h63 : n + m <= maxLen) (hbytes : (n + m) * bytes <= 140737488355328) (hbase : base <= w.heap.size) (H : Nat) (hH : w.heap.size = H)
   (h : ∀ g cap w', w'.ownsRow base e size (.slice (some ⟨g, 0, none⟩) (n + m) cap) (n + m) (xs ++ news) -> w.grownBy w' v.ownBlock -> (v.ownBlock = some g ∨ g = H) -> g < w'.heap.size -> K (a.put d (.slice (some ⟨g, 0, none⟩) (n + m) cap)) w') :
   if Region.wanted o (yielded ops a.tmps) = true then Oper.wp P o a w K Q else E := by
 subst hd
 exact step_append_lies w hgd s x t ho base e i z size bytes ht hi hz hsize hby hzs hsz v n xs hs hown ad m c news hx hl hnews h1 hm h63 hbytes hbase H hH h
end
def TabAt (w : World) (sb sn : Nat) (Z : Nat -> Nat) (L : Nat -> Nat -> List (List Int)) : Prop :=
 sb < w.heap.size /\ ∃ (lb lc : Nat) (bs : Nat -> Nat), w.cell? ⟨sb, 6, none⟩ = some (.slice (some ⟨lb, 0, none⟩) sn lc) /\ lb < w.heap.size /\ ∀ a, a < sn -> bs a < w.heap.size /\ w.cell? ⟨lb, a, none⟩ = some (.slice (some ⟨bs a, 0, none⟩) (Z a) (Z a)) /\
   ∀ i, i < Z a -> ∃ va vc, w.cell? ⟨bs a, i, none⟩ = some (.slice va (L a i).length vc) /\ PrsAt w va (L a i)
end Go.EvPart
