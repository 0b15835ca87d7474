/- ConflictAuthors: one part of the proof. -/
import Derived.Test.YtfgcglgpfgifkaaGreatDoorRows
set_option linter.all false
namespace Go.Proofs.YtfgcglgpfgifkaaGreatDoor
open Go
set_option maxRecDepth 100000
def gN {α : Type} : List α → Nat → Option α
  | [], _ => none
  | a :: l, k => bif Nat.beq k 0 then some a else gN l (Nat.pred k)
theorem gN_eq {α : Type} : ∀ (l : List α) (k : Nat), l[k]? = gN l k
  | [], _ => by simp [gN]
  | a :: l, 0 => rfl
  | a :: l, k + 1 => by rw [List.getElem?_cons_succ]; exact gN_eq l k
def eN : List Nat → Nat → Bool
  | [], _ => false
  | a :: l, k => bif Nat.beq k a then true else eN l k
theorem eN_eq : ∀ (l : List Nat) (k : Nat), l.contains k = eN l k
  | [], _ => rfl
  | a :: l, k => by
    have := eN_eq l k
    unfold eN
    cases h : Nat.beq k a with
    | true => obtain rfl := Nat.eq_of_beq_eq_true h; simp
    | false =>
      have hne : k ≠ a := fun e => by subst e; simp at h
      simp at this ⊢
      simp [this, hne]
def clo (L : List Func) (ld : Func → List Nat) : Nat → List Nat → List Nat → List Nat
  | 0, _, s => s.reverse
  | _ + 1, [], s => s.reverse
  | n + 1, f :: t, s => bif eN s f then clo L ld n t s else clo L ld n ((gN L f).elim [] ld ++ t) (f :: s)
theorem clo_eq (P : Program) : ∀ n t s, P.closureVia n t s = clo P.funcs.toList P.leadsTo n t s
  | 0, _, s => rfl
  | _ + 1, [], s => rfl
  | n + 1, f :: t, s => by
    unfold Program.closureVia clo
    rw [eN_eq, ← gN_eq, Array.getElem?_toList, clo_eq P n, clo_eq P n]
    cases eN s f <;> simp
theorem fN (P : Program) (g : Nat) : P.funcs[g]? = gN P.funcs.toList g := by rw [← gN_eq, Array.getElem?_toList]
theorem jf_named : Tryz.prog.varsNamed 3 = Rows.conflictAuthorsRow.named := by
  unfold Program.varsNamed Program.closure
  rw [clo_eq]
  simp only [fN]
  kernel_rfl
end Go.Proofs.YtfgcglgpfgifkaaGreatDoor
