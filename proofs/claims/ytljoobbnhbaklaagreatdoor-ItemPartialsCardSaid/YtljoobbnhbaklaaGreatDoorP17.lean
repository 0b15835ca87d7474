/- ItemPartials, one part of the proof: PartC, PartY5. -/
import Derived.Test.YtljoobbnhbaklaaGreatDoorP00
import Derived.Test.YtljoobbnhbaklaaGreatDoorP08
import Derived.Test.YtljoobbnhbaklaaGreatDoorP11
set_option linter.all false
set_option maxRecDepth 100000
set_option maxHeartbeats 16000000
namespace Go.EvPart
open Go.EvNil
def leafB (rs : List Rl) (s : Nat) : Bool := rs.any fun r => Nat.beq r.h s && r.args.isEmpty
def overB (rs : List Rl) (st : Nat) : Bool := rs.any fun r => Nat.beq r.h st && (match r.args with | [a] => leafB rs a | _ => false)
def unary (rules : List Rl) (st s : Nat) : Bool := rules.any fun r => Nat.beq r.h st && (match r.args with | [a] => Nat.beq a s | _ => false)
def blocked (rules rs : List Rl) (st s i : Nat) : Bool :=
 bif Nat.beq s st then (bif Nat.beq i 1 then !leafB rs st else !(leafB rs st || overB rs st)) else unary rules st s && !leafB rs s
def cutT (t : List (List Nat)) (rules rs : List Rl) (st sn : Nat) : List (List Nat) :=
 (List.range sn).map fun s => (List.range 6).map fun i => bif blocked rules rs st s i then 0 else tabU t s i
def shapeB (t : List (List Nat)) (rules : List Rl) (st sn : Nat) : Bool :=
 rules.all (fun r => Nat.blt r.h sn && (bif Nat.beq r.h st then (match r.args with | [] => true | [a] => !(Nat.beq a st) | l => l.contains st) else (bif unary rules st r.h then (r.args.isEmpty || r.args.contains r.h) else true))) &&
 Nat.blt st sn && t.all (fun l => Nat.beq (l.getD 0 0) 0)
theorem nbeq {a b : Nat} (h : a ≠ b) : Nat.beq a b = false := by
 cases e : Nat.beq a b
 · rfl
 · exact absurd (Nat.eq_of_beq_eq_true e) h
theorem leafB_of {rs : List Rl} {s : Nat} (h : leafB rs s = true) : ∃ (k : Nat) (hk : k < rs.length), rs[k].h = s /\ rs[k].args = [] := by
 obtain ⟨r, hr, h1⟩ := List.any_eq_true.1 h
 obtain ⟨k, hk, rfl⟩ := List.getElem_of_mem hr
 simp only [Bool.and_eq_true] at h1
 exact ⟨k, hk, Nat.eq_of_beq_eq_true h1.1, List.isEmpty_iff.1 h1.2⟩
theorem leafB_no {rs : List Rl} {s : Nat} (h : leafB rs s = false) {r : Rl} (hr : r ∈ rs) (hs : r.h = s) : r.args ≠ [] := fun e => by
 have : leafB rs s = true := List.any_eq_true.2 ⟨r, hr, by simp [hs, e]⟩
 rw [h] at this; cases this
theorem cutT_at (t : List (List Nat)) (rules rs : List Rl) (st sn s i : Nat) (hs : s < sn) (hi : i < 6) : tabU (cutT t rules rs st sn) s i = bif blocked rules rs st s i then 0 else tabU t s i := by
 conv => lhs; unfold tabU
 unfold cutT
 rw [List.getD_eq_getElem?_getD, List.getD_eq_getElem?_getD, List.getElem?_map, List.getElem?_range hs]
 simp only [Option.map_some, Option.getD_some]
 rw [List.getElem?_map, List.getElem?_range hi]
 rfl
theorem cutT_out (t : List (List Nat)) (rules rs : List Rl) (st sn s i : Nat) (h : ¬ (s < sn /\ i < 6)) : tabU (cutT t rules rs st sn) s i = 0 := by
 unfold tabU cutT
 rw [List.getD_eq_getElem?_getD, List.getD_eq_getElem?_getD, List.getElem?_map]
 by_cases hs : s < sn
 · rw [List.getElem?_range hs]
   simp only [Option.map_some, Option.getD_some]
   rw [List.getElem?_map, List.getElem?_eq_none (by rw [List.length_range]; omega)]
   rfl
 · rw [List.getElem?_eq_none (l := List.range sn) (by rw [List.length_range]; omega)]
   rfl
theorem cutT_le (t : List (List Nat)) (rules rs : List Rl) (st sn s i : Nat) : tabU (cutT t rules rs st sn) s i <= tabU t s i := by
 by_cases h : s < sn /\ i < 6
 · rw [cutT_at t rules rs st sn s i h.1 h.2]
   cases blocked rules rs st s i
   · exact Nat.le_refl _
   · exact Nat.zero_le _
 · rw [cutT_out _ _ _ _ _ _ _ h]; exact Nat.zero_le _
theorem convL_mono {U U' : Nat -> Nat -> Nat} (hU : ∀ s i, U s i <= U' s i) : ∀ (l : List Nat) {W W' : Nat -> Nat}, (∀ i, i < 10 -> W i <= W' i) -> ∀ i, i < 10 -> convL U l W i <= convL U' l W' i
 | [], W, W', h => h
 | a :: l, W, W', h => convL_mono hU l fun i _ => sumC_mono h (fun i _ => hU a i) (Nat.le_refl _) 10 (Nat.le_refl _)
theorem numP_mono {U U' : Nat -> Nat -> Nat} (hU : ∀ s i, U s i <= U' s i) : ∀ (l : List Nat) {W W' : Nat -> Nat}, (∀ i, i < 10 -> W i <= W' i) -> numP U' l W' -> numP U l W
 | [], W, W', h, n => fun i hi => Nat.lt_of_le_of_lt (h i hi) (n i hi)
 | a :: l, W, W', h, n => by
   have hs : ∀ i, i < 10 -> sumC W (U a) 6 i 10 <= sumC W' (U' a) 6 i 10 := fun i _ => sumC_mono h (fun i _ => hU a i) (Nat.le_refl _) 10 (Nat.le_refl _)
   exact ⟨fun i hi => Nat.lt_of_le_of_lt (h i hi) (n.1 i hi), fun i hi => Nat.lt_of_le_of_lt (hs i hi) (n.2.1 i hi), numP_mono hU l hs n.2.2⟩
theorem sumR_mono {U U' : Nat -> Nat -> Nat} (hU : ∀ s i, U s i <= U' s i) (s i : Nat) (hi : i < 10) : ∀ l : List Rl, sumR U s i l <= sumR U' s i l
 | [] => Nat.le_refl _
 | r :: l => by
   simp only [sumR]
   have h1 := sumR_mono hU s i hi l
   split
   · have := convL_mono hU r.args (W := one1) (W' := one1) (fun _ _ => Nat.le_refl _) i hi
     omega
   · omega
theorem sumC_zero_r {W C : Nat -> Nat} (h : ∀ i, C i = 0) (n i : Nat) : ∀ k, sumC W C n i k = 0
 | 0 => rfl
 | k + 1 => by
   have := sumC_zero_r (W := W) h n i k
   simp only [sumC, rowC, this, h]
   split <;> simp
theorem sumC_zero_l {W C : Nat -> Nat} (h : ∀ i, i < 10 -> W i = 0) (n i : Nat) : ∀ k, k <= 10 -> sumC W C n i k = 0
 | 0, _ => rfl
 | k + 1, hk => by
   have := sumC_zero_l (C := C) h n i k (by omega)
   simp only [sumC, rowC, this, h k (by omega)]
   split <;> simp
theorem convL_zero {U : Nat -> Nat -> Nat} : ∀ (l : List Nat) {W : Nat -> Nat}, (∀ i, i < 10 -> W i = 0) -> ∀ i, i < 10 -> convL U l W i = 0
 | [], W, h => h
 | a :: l, W, h => convL_zero l fun i _ => sumC_zero_l h 6 i 10 (Nat.le_refl _)
theorem convL_none {U : Nat -> Nat -> Nat} {a : Nat} (ha : ∀ i, U a i = 0) : ∀ (l : List Nat) (W : Nat -> Nat), a ∈ l -> ∀ i, i < 10 -> convL U l W i = 0
 | b :: l, W, h => by
   rcases List.mem_cons.1 h with e | h
   · subst e
     exact convL_zero l fun i _ => sumC_zero_r ha 6 i 10
   · exact convL_none ha l _ h
theorem convL_one {U : Nat -> Nat -> Nat} : ∀ (l : List Nat) {W : Nat -> Nat}, W 0 = 0 -> W 1 = 0 ∨ l ≠ [] -> convL U l W 0 = 0 /\ convL U l W 1 = 0
 | [], W, h0, h1 => by
   rcases h1 with h1 | h1
   · exact ⟨h0, h1⟩
   · exact absurd rfl h1
 | a :: l, W, h0, _ => by
   have e0 : sumC W (U a) 6 0 10 = 0 := by simp [sumC, rowC]
   have e1 : sumC W (U a) 6 1 10 = 0 := by simp [sumC, rowC, h0]
   exact convL_one l e0 (.inl e1)
theorem sumR_zero {U : Nat -> Nat -> Nat} {s i : Nat} : ∀ {rs : List Rl}, (∀ r ∈ rs, r.h = s -> convL U r.args one1 i = 0) -> sumR U s i rs = 0
 | [], _ => rfl
 | r :: l, h => by
   simp only [sumR]
   rw [sumR_zero fun q hq => h q (List.mem_cons_of_mem _ hq)]
   split
   · rename_i e; rw [h r (List.mem_cons_self ..) e]
   · rfl
theorem cut_need {t : List (List Nat)} {rules rs : List Rl} {st sn : Nat} (hn : Need (tabU t) rules) (hsh : shapeB t rules st sn = true) (hsub : rs.Sublist rules) : Need (tabU (cutT t rules rs st sn)) rs := by
 have hle := cutT_le t rules rs st sn
 simp only [shapeB, Bool.and_eq_true] at hsh
 obtain ⟨⟨hsh, hst⟩, h0⟩ := hsh
 have hst : st < sn := by simpa using hst
 have shape : ∀ r ∈ rs, r.h < sn /\ (r.h = st -> r.args = [] ∨ (∃ a, r.args = [a] /\ a ≠ st) ∨ st ∈ r.args) /\ (r.h ≠ st -> unary rules st r.h = true -> r.args = [] ∨ r.h ∈ r.args) := fun r hr => by
   have h := List.all_eq_true.1 hsh r (hsub.subset hr)
   simp only [Bool.and_eq_true] at h
   refine ⟨by simpa using h.1, fun e => ?_, fun e hu => ?_⟩
   · have h2 := h.2
     rw [e, Nat.beq_refl, cond_true] at h2
     split at h2
     · rename_i ea; exact .inl ea
     · rename_i a ea; exact .inr (.inl ⟨a, ea, fun e' => by subst e'; simp at h2⟩)
     · exact .inr (.inr (List.contains_iff_mem.1 h2))
   · have h2 := h.2
     have eb : Nat.beq r.h st = false := nbeq e
     rw [eb, cond_false, hu, cond_true] at h2
     rcases Bool.or_eq_true_iff.1 h2 with h3 | h3
     · exact .inl (List.isEmpty_iff.1 h3)
     · exact .inr (List.contains_iff_mem.1 h3)
 refine ⟨fun s i hi => ?_, fun r hr => numP_mono hle _ (fun _ _ => Nat.le_refl _) (hn.num r (hsub.subset hr)), fun s i => Nat.lt_of_le_of_lt (hle s i) (hn.lt s i)⟩
 by_cases hs : s < sn
 · cases hb : blocked rules rs st s i with
   | false =>
     rw [cutT_at t rules rs st sn s i hs hi, hb, cond_false]
     exact Nat.le_trans (sumR_mono hle s i (by omega) rs) (Nat.le_trans (sumR_sub hsub) (hn.sum s i hi))
   | true =>
     have hz : sumR (tabU (cutT t rules rs st sn)) s i rs = 0 := sumR_zero fun r hr e => by
       obtain ⟨_, hA, hB⟩ := shape r hr
       have none_of : ∀ a, a < sn -> (∀ j, blocked rules rs st a j = true) -> ∀ j, tabU (cutT t rules rs st sn) a j = 0 := fun a ha h j => by
         by_cases hj : j < 6
         · rw [cutT_at t rules rs st sn a j ha hj, h j, cond_true]
         · exact cutT_out _ _ _ _ _ _ _ fun q => hj q.2
       subst e
       by_cases es : r.h = st
       · unfold blocked at hb
         rw [es, Nat.beq_refl, cond_true] at hb
         by_cases e1 : i = 1
         · rw [e1, Nat.beq_refl, cond_true] at hb
           have hl : leafB rs st = false := by simpa using hb
           rw [e1]
           exact (convL_one r.args (W := one1) rfl (.inr (leafB_no hl hr es))).2
         · have e1b : Nat.beq i 1 = false := nbeq e1
           rw [e1b, cond_false] at hb
           have hlo : leafB rs st = false /\ overB rs st = false := by simpa using hb
           rcases hA es with ha | ⟨a, ha, hne⟩ | ha
           · exact absurd ha (leafB_no hlo.1 hr es)
           · have hu : unary rules st a = true := List.any_eq_true.2 ⟨r, hsub.subset hr, by rw [es, ha]; simp⟩
             have hla : leafB rs a = false := by
               cases hx : leafB rs a
               · rfl
               · have : overB rs st = true := List.any_eq_true.2 ⟨r, hr, by rw [es, ha]; simp [hx]⟩
                 rw [hlo.2] at this; cases this
             have hb' : ∀ j, blocked rules rs st a j = true := fun j => by
               unfold blocked
               have : Nat.beq a st = false := nbeq hne
               rw [this, cond_false, hu, hla]; rfl
             refine convL_none (a := a) (fun j => ?_) r.args one1 (by rw [ha]; exact List.mem_cons_self ..) i (by omega)
             by_cases has : a < sn
             · exact none_of a has hb' j
             · exact cutT_out _ _ _ _ _ _ _ fun q => has q.1
           · have hb' : ∀ j, blocked rules rs st st j = true := fun j => by
               unfold blocked
               rw [Nat.beq_refl, cond_true, hlo.1, hlo.2]
               cases Nat.beq j 1 <;> rfl
             exact convL_none (none_of st hst hb') r.args one1 ha i (by omega)
       · have hb2 := hb
         unfold blocked at hb2
         have esb : Nat.beq r.h st = false := nbeq es
         rw [esb, cond_false] at hb2
         have hu : unary rules st r.h = true /\ leafB rs r.h = false := by simpa using hb2
         rcases hB es hu.1 with ha | ha
         · exact absurd ha (leafB_no hu.2 hr rfl)
         · have hb' : ∀ j, blocked rules rs st r.h j = true := fun j => by
             unfold blocked
             rw [esb, cond_false, hu.1, hu.2]; rfl
           exact convL_none (none_of r.h hs hb') r.args one1 ha i (by omega)
     rw [hz]; exact Nat.zero_le _
 · rw [sumR_none fun r hr e => hs (by have := (shape r hr).1; omega)]
   exact Nat.zero_le _
def Starts (rs : List Rl) (M : Nat -> Nat) (st : Nat) : Prop :=
 (∃ (k : Nat) (hk : k < rs.length), rs[k].h = st /\ rs[k].args = []) ∨
 (2 <= M st /\ ∃ (a k j : Nat) (hk : k < rs.length) (hj : j < rs.length), rs[k].h = st /\ rs[k].args = [a] /\ rs[j].h = a /\ rs[j].args = [])
theorem overB_of {rs : List Rl} {st : Nat} (h : overB rs st = true) : ∃ (a k j : Nat) (hk : k < rs.length) (hj : j < rs.length), rs[k].h = st /\ rs[k].args = [a] /\ rs[j].h = a /\ rs[j].args = [] := by
 obtain ⟨r, hr, h1⟩ := List.any_eq_true.1 h
 obtain ⟨k, hk, rfl⟩ := List.getElem_of_mem hr
 simp only [Bool.and_eq_true] at h1
 obtain ⟨h1, h2⟩ := h1
 split at h2
 · rename_i a ea
   obtain ⟨j, hj, e1, e2⟩ := leafB_of h2
   exact ⟨a, k, j, hk, hj, Nat.eq_of_beq_eq_true h1, ea, e1, e2⟩
 · cases h2
theorem starts_of {t : List (List Nat)} {rules rs : List Rl} {st sn : Nat} {M : Nat -> Nat} (hsh : shapeB t rules st sn = true) {i : Nat} (hi : i <= M st) (h : tabU (cutT t rules rs st sn) st i ≠ 0) : Starts rs M st := by
 simp only [shapeB, Bool.and_eq_true] at hsh
 obtain ⟨⟨_, hst⟩, h0⟩ := hsh
 have hst : st < sn := by simpa using hst
 have hi6 : i < 6 := by
   by_cases h6 : i < 6
   · exact h6
   · exact absurd (cutT_out _ _ _ _ _ _ _ fun q => h6 q.2) h
 have hi0 : i ≠ 0 := fun e => by
   subst e
   apply h
   have := cutT_le t rules rs st sn st 0
   have hz : tabU t st 0 = 0 := by
     unfold tabU
     rw [List.getD_eq_getElem?_getD (l := t)]
     cases hx : t[st]? with
     | none => rfl
     | some l => exact Nat.eq_of_beq_eq_true (List.all_eq_true.1 h0 l (List.mem_of_getElem? hx))
   omega
 rw [cutT_at t rules rs st sn st i hst hi6] at h
 have hb : blocked rules rs st st i = false := by
   cases hb : blocked rules rs st st i
   · rfl
   · rw [hb] at h; exact absurd rfl h
 unfold blocked at hb
 rw [Nat.beq_refl, cond_true] at hb
 by_cases e1 : i = 1
 · rw [e1, Nat.beq_refl, cond_true] at hb
   exact .inl (leafB_of (by simpa using hb))
 · have e1b : Nat.beq i 1 = false := nbeq e1
   rw [e1b, cond_false] at hb
   have hlo : leafB rs st = true ∨ overB rs st = true := by
     cases h1 : leafB rs st
     · right; rw [h1] at hb; simpa using hb
     · exact .inl rfl
   rcases hlo with h1 | h1
   · exact .inl (leafB_of h1)
   · exact .inr ⟨by omega, overB_of h1⟩
end Go.EvPart
namespace Go.EvPart.N
open Go Go.Proofs Go.EvNil
def nameByte (k : Nat) (c : UInt8) : Bool := (Nat.ble 97 c.toNat && Nat.ble c.toNat 122) || (Nat.ble 65 c.toNat && Nat.ble c.toNat 90) || (Nat.blt 0 k && (Nat.beq c.toNat 95 || (Nat.ble 48 c.toNat && Nat.ble c.toNat 57)))
def nameB (s : ByteArray) : Bool := Nat.ble 1 s.size && Nat.ble s.size 20 && (s.data.toList.zipIdx.all fun p => nameByte p.2 p.1)
theorem byteAt (s : ByteArray) (k : Nat) (hk : k < s.size) : s.data.toList[k]? = some s[k] := by
 rw [List.getElem?_eq_getElem (by rw [Array.length_toList]; exact hk)]; rfl
theorem nameB_ok {s : ByteArray} (h : nameB s = true) : NameOk s := by
 simp only [nameB, Bool.and_eq_true] at h
 obtain ⟨⟨h1, h2⟩, h3⟩ := h
 refine ⟨Nat.le_of_ble_eq_true h1, Nat.le_of_ble_eq_true h2, fun k hk => ?_⟩
 have hm : (s[k], k) ∈ s.data.toList.zipIdx := List.mem_zipIdx_iff_getElem?.2 (byteAt s k hk)
 have := List.all_eq_true.1 h3 _ hm
 simp only [nameByte, Bool.or_eq_true, Bool.and_eq_true, Nat.ble_eq, Nat.beq_eq, Nat.blt_eq] at this
 omega
def paramB (s : ByteArray) : Bool := Nat.ble s.size 60 && (s.data.toList.all fun c => Nat.ble 32 c.toNat && Nat.ble c.toNat 126) && Nat.beq (s.data.toList.count 39) 0
theorem paramB_ok {s : ByteArray} (h : paramB s = true) : ParamOk s := by
 simp only [paramB, Bool.and_eq_true] at h
 obtain ⟨⟨h1, h2⟩, h3⟩ := h
 refine ⟨Nat.le_of_ble_eq_true h1, fun k hk => ?_, Nat.eq_of_beq_eq_true h3⟩
 have := List.all_eq_true.1 h2 s[k] (List.mem_of_getElem? (byteAt s k hk))
 simp only [Bool.and_eq_true, Nat.ble_eq] at this
 omega
def kindB (k : Nat) : Bool := Nat.ble 1 k && Nat.ble k 5
def bytesB (a b : ByteArray) : Bool := a.data.toList.map UInt8.toNat == b.data.toList.map UInt8.toNat
theorem bytesB_of {a b : ByteArray} (h : bytesB a b = false) : a ≠ b := fun e => by
 subst e
 simp [bytesB] at h
def distB : List (ByteArray × Nat) -> Bool
 | [] => true
 | c :: l => l.all (fun d => !bytesB c.1 d.1) && distB l
theorem distB_ok : ∀ {l : List (ByteArray × Nat)}, distB l = true -> ∀ i j (hi : i < l.length) (hj : j < l.length), i < j -> l[i].1 ≠ l[j].1
 | [], _, i, _, hi, _, _ => by simp at hi
 | c :: l, h, i, j, hi, hj, hij => by
   simp only [distB, Bool.and_eq_true] at h
   cases j with
   | zero => omega
   | succ j =>
     cases i with
     | zero =>
       have hj' : j < l.length := by simpa using hj
       have := List.all_eq_true.1 h.1 l[j] (List.getElem_mem hj')
       exact bytesB_of (by simpa using this)
     | succ i => exact distB_ok h.2 i j (by simpa using hi) (by simpa using hj) (by omega)
def sameB (r q : Rl) : Bool := Nat.beq r.h q.h && bytesB r.op q.op && bytesB r.pa q.pa && (r.args == q.args)
theorem sameB_of {r q : Rl} (h : sameB r q = false) : Differ r q := by
 by_cases h1 : r.h = q.h
 · by_cases h2 : r.op = q.op
   · by_cases h3 : r.pa = q.pa
     · by_cases h4 : r.args = q.args
       · exfalso
         simp [sameB, h1, h2, h3, h4, bytesB] at h
       · exact .inr (.inr (.inr h4))
     · exact .inr (.inr (.inl h3))
   · exact .inr (.inl h2)
 · exact .inl h1
def diffB : List Rl -> Bool
 | [] => true
 | r :: l => l.all (fun q => !sameB r q) && diffB l
theorem diffB_ok : ∀ {l : List Rl}, diffB l = true -> l.Pairwise Differ
 | [], _ => List.Pairwise.nil
 | r :: l, h => by
   simp only [diffB, Bool.and_eq_true] at h
   exact List.Pairwise.cons (fun q hq => sameB_of (by have := List.all_eq_true.1 h.1 q hq; simpa using this)) (diffB_ok h.2)
def ruleOkB (sn : Nat) (r : Rl) : Bool := nameB r.op && paramB r.pa && Nat.ble r.args.length 3 && r.args.all (fun a => Nat.blt a sn) && Nat.blt r.h sn
def sniceB (S : Sample) : Bool := Nat.blt S.ver 100 && nameB S.nm && S.cols.all (fun c => nameB c.1 && kindB c.2) && distB S.cols && S.syms.all (fun c => nameB c.1 && kindB c.2) && distB S.syms && S.rules.all (ruleOkB S.syms.length) && diffB S.rules
theorem sniceB_ok {S : Sample} (h : sniceB S = true) : SNice S := by
 simp only [sniceB, Bool.and_eq_true] at h
 obtain ⟨⟨⟨⟨⟨⟨⟨h1, h2⟩, h3⟩, h4⟩, h5⟩, h6⟩, h7⟩, h8⟩ := h
 have pair : ∀ {l : List (ByteArray × Nat)}, l.all (fun c => nameB c.1 && kindB c.2) = true -> ∀ c ∈ l, NameOk c.1 /\ 1 <= c.2 /\ c.2 <= 5 := fun hl c hc => by
   have := List.all_eq_true.1 hl c hc
   simp only [kindB, Bool.and_eq_true, Nat.ble_eq] at this
   exact ⟨nameB_ok this.1, this.2.1, this.2.2⟩
 refine ⟨by simpa using h1, nameB_ok h2, pair h3, distB_ok h4, pair h5, distB_ok h6, fun r hr => ?_, diffB_ok h8⟩
 have := List.all_eq_true.1 h7 r hr
 simp only [ruleOkB, Bool.and_eq_true, Nat.ble_eq, Nat.blt_eq] at this
 obtain ⟨⟨⟨⟨g1, g2⟩, g3⟩, g4⟩, g5⟩ := this
 exact ⟨nameB_ok g1, paramB_ok g2, g3, fun a ha => by have := List.all_eq_true.1 g4 a ha; simpa using this, g5⟩
def startB (S : Sample) : Bool := leafB S.rules S.st || overB S.rules S.st
def smallB9 (S : Sample) : Bool := Nat.ble S.rules.length 9
def sixB (p : Sample -> Bool) : Bool := p sm0 && p sm1 && p sm2 && p sm3 && p sm4 && p sm5
theorem six_of {p : Sample -> Bool} (h : sixB p = true) (n : Nat) : p (sm n) = true := by
 simp only [sixB, Bool.and_eq_true] at h
 obtain ⟨⟨⟨⟨⟨h0, h1⟩, h2⟩, h3⟩, h4⟩, h5⟩ := h
 unfold sm
 split
 · exact h0
 split
 · exact h1
 split
 · exact h2
 split
 · exact h3
 split
 · exact h4
 · exact h5
theorem sm_nice (n : Nat) : SNice (sm n) := sniceB_ok (six_of (p := sniceB) (by kernel_rfl) n)
theorem sm_shape (n : Nat) : shapeB (sm n).U (sm n).rules (sm n).st (sm n).syms.length = true := six_of (p := fun S => shapeB S.U S.rules S.st S.syms.length) (by kernel_rfl) n
theorem sm_nine (n : Nat) : (sm n).rules.length <= 9 := Nat.le_of_ble_eq_true (six_of (p := smallB9) (by kernel_rfl) n)
theorem sm_starts (n : Nat) (M : Nat -> Nat) (h2 : 2 <= M (sm n).st) : Starts (sm n).rules M (sm n).st := by
 have h := six_of (p := startB) (by kernel_rfl) n
 rcases Bool.or_eq_true_iff.1 h with h | h
 · exact .inl (leafB_of h)
 · exact .inr ⟨h2, overB_of h⟩
end Go.EvPart.N
