/- ItemPartials, one part of the proof: PartT1, PartP0, PartP1, PartP2, PartP3, PartP4, PartP5, PartW22, PartW23, PartW24. -/
import Derived.Test.YtljoobbnhbaklaaGreatDoorP08
import Derived.Test.YtljoobbnhbaklaaGreatDoorP09
import Derived.Deep.Upon
set_option linter.all false
set_option maxRecDepth 100000
set_option maxHeartbeats 16000000
namespace Go.EvPart.N
open Go Go.Ev Go.Proofs Go.EvNil Go.EvProp
def blkB (h : H) (b e o : Nat) (l : List AV) : Bool := match h.get b with
 | some (.cells e' vs _ _) => Nat.beq e e' && AV.beqL ((vs.drop o).take l.length) l
 | _ => false
def symsAV : List (ByteArray × Nat) -> List Nat -> List AV
 | c :: l, m :: ms => avS c.1 :: .int .i64 (.ofNat c.2) :: .int .i64 (.ofNat m) :: symsAV l ms
 | _, _ => []
def argsAV : List Nat -> List AV
 | [] => []
 | a :: l => .int .i64 (.ofNat a) :: argsAV l
def capB (c : Option Nat) (l : Nat) : Bool := match c with
 | none => true
 | some n => Nat.ble l n
def argsB (h : H) (a : AV) (args : List Nat) : Bool := match a with
 | .slice b o l 1 c => Nat.beq l args.length && capB c l && blkB h b 3 o (argsAV args)
 | .etail _ _ _ _ => args.isEmpty
 | _ => false
def rulesL (h : H) : List AV -> List Rl -> Bool
 | _, [] => true
 | hd :: op :: pa :: a :: vs, r :: l => AV.beq hd (.int .i64 (.ofNat r.h)) && AV.beq op (avS r.op) && AV.beq pa (avS r.pa) && argsB h a r.args && rulesL h vs l
 | _, _ => false
def rulesB (h : H) (b o : Nat) (l : List Rl) : Bool := match h.get b with
 | some (.cells e vs _ _) => Nat.beq e 76 && rulesL h (vs.drop o) l
 | _ => false
def gramB (S : Sample) (Ms : List Nat) (x : Option (AV × H)) : Bool := match x with
 | some (.tup [.agg [nm, ver, .slice cb co cn 2 c1, .slice sb so sn 3 c2, .slice rb ro rn 4 c3, st], .int .i64 _, .int .i64 _], h) =>
   AV.beq nm (avS S.nm) && AV.beq ver (.int .i64 (.ofNat S.ver)) && AV.beq st (.int .i64 (.ofNat S.st)) && Nat.beq cn S.cols.length && Nat.beq sn S.syms.length && Nat.beq rn S.rules.length && Nat.beq Ms.length S.syms.length && Ms.all (fun m => Nat.ble 1 m && Nat.ble m 5) &&
   blkB h cb 131 co (colsAV S.cols) && blkB h sb 56 so (symsAV S.syms Ms) && rulesB h rb ro S.rules && capB c1 cn && capB c2 sn && capB c3 rn
 | _ => false
end Go.EvPart.N
namespace Go.EvPart.N
open Go Go.Ev Go.Proofs Go.EvNil Go.EvProp
def txt0 : List Nat := [103, 114, 97, 109, 109, 97, 114, 32, 116, 101, 120, 116, 115, 32, 49, 10, 99, 111, 108, 117, 109, 110, 32, 97, 32, 116, 101, 120, 116, 10, 99, 111, 108, 117, 109, 110, 32, 98, 32, 116, 101, 120, 116, 10, 115, 121, 109, 98, 111, 108, 32, 84, 32, 116, 101, 120, 116, 32, 52, 10, 115, 121, 109, 98, 111, 108, 32, 85, 32, 116, 101, 120, 116, 32, 50, 10, 114, 117, 108, 101, 32, 84, 32, 99, 111, 108, 32, 39, 97, 39, 10, 114, 117, 108, 101, 32, 84, 32, 99, 111, 108, 32, 39, 98, 39, 10, 114, 117, 108, 101, 32, 84, 32, 99, 111, 110, 99, 97, 116, 32, 39, 39, 32, 85, 32, 84, 10, 114, 117, 108, 101, 32, 84, 32, 117, 112, 112, 101, 114, 32, 39, 39, 32, 85, 10, 114, 117, 108, 101, 32, 85, 32, 99, 111, 108, 32, 39, 97, 39, 10, 114, 117, 108, 101, 32, 85, 32, 116, 101, 120, 116, 32, 39, 45, 39, 10, 114, 117, 108, 101, 32, 85, 32, 101, 120, 116, 114, 97, 99, 116, 32, 39, 92, 100, 43, 35, 49, 39, 32, 85, 10, 115, 116, 97, 114, 116, 32, 84, 10]
theorem parse0 : gramB sm0 [4, 2] ((envK Tryz.prog ext0 tabT.find 3000).call 12 [.str txt0] (putL ⟨.e, 13⟩ [])) = true := by kernel_rfl
end Go.EvPart.N
namespace Go.EvPart.N
open Go Go.Ev Go.Proofs Go.EvNil Go.EvProp
def txt1 : List Nat := [103, 114, 97, 109, 109, 97, 114, 32, 110, 117, 109, 98, 101, 114, 115, 32, 49, 10, 99, 111, 108, 117, 109, 110, 32, 110, 32, 110, 117, 109, 98, 101, 114, 10, 99, 111, 108, 117, 109, 110, 32, 109, 32, 110, 117, 109, 98, 101, 114, 10, 115, 121, 109, 98, 111, 108, 32, 78, 32, 110, 117, 109, 98, 101, 114, 32, 52, 10, 115, 121, 109, 98, 111, 108, 32, 77, 32, 110, 117, 109, 98, 101, 114, 32, 50, 10, 114, 117, 108, 101, 32, 78, 32, 99, 111, 108, 32, 39, 110, 39, 10, 114, 117, 108, 101, 32, 78, 32, 99, 111, 108, 32, 39, 109, 39, 10, 114, 117, 108, 101, 32, 78, 32, 97, 100, 100, 32, 39, 39, 32, 77, 32, 78, 10, 114, 117, 108, 101, 32, 78, 32, 109, 117, 108, 32, 39, 39, 32, 78, 32, 77, 10, 114, 117, 108, 101, 32, 77, 32, 110, 117, 109, 98, 101, 114, 32, 39, 50, 39, 10, 114, 117, 108, 101, 32, 77, 32, 99, 111, 108, 32, 39, 109, 39, 10, 114, 117, 108, 101, 32, 77, 32, 114, 111, 117, 110, 100, 32, 39, 49, 39, 32, 77, 10, 115, 116, 97, 114, 116, 32, 78, 10]
theorem parse1 : gramB sm1 [4, 2] ((envK Tryz.prog ext0 tabT.find 3000).call 12 [.str txt1] (putL ⟨.e, 13⟩ [])) = true := by kernel_rfl
end Go.EvPart.N
namespace Go.EvPart.N
open Go Go.Ev Go.Proofs Go.EvNil Go.EvProp
def txt2 : List Nat := [103, 114, 97, 109, 109, 97, 114, 32, 100, 97, 116, 101, 115, 32, 49, 10, 99, 111, 108, 117, 109, 110, 32, 100, 32, 100, 97, 116, 101, 10, 99, 111, 108, 117, 109, 110, 32, 101, 32, 100, 97, 116, 101, 10, 99, 111, 108, 117, 109, 110, 32, 110, 32, 110, 117, 109, 98, 101, 114, 10, 115, 121, 109, 98, 111, 108, 32, 68, 32, 100, 97, 116, 101, 32, 52, 10, 115, 121, 109, 98, 111, 108, 32, 78, 32, 110, 117, 109, 98, 101, 114, 32, 51, 10, 115, 121, 109, 98, 111, 108, 32, 69, 32, 100, 97, 116, 101, 32, 49, 10, 114, 117, 108, 101, 32, 68, 32, 99, 111, 108, 32, 39, 100, 39, 10, 114, 117, 108, 101, 32, 68, 32, 100, 97, 121, 115, 32, 39, 39, 32, 68, 32, 78, 10, 114, 117, 108, 101, 32, 78, 32, 99, 111, 108, 32, 39, 110, 39, 10, 114, 117, 108, 101, 32, 78, 32, 110, 117, 109, 98, 101, 114, 32, 39, 55, 39, 10, 114, 117, 108, 101, 32, 78, 32, 98, 101, 116, 119, 101, 101, 110, 32, 39, 39, 32, 69, 32, 69, 10, 114, 117, 108, 101, 32, 69, 32, 99, 111, 108, 32, 39, 100, 39, 10, 114, 117, 108, 101, 32, 69, 32, 99, 111, 108, 32, 39, 101, 39, 10, 115, 116, 97, 114, 116, 32, 68, 10]
theorem parse2 : gramB sm2 [4, 3, 1] ((envK Tryz.prog ext0 tabT.find 3000).call 12 [.str txt2] (putL ⟨.e, 13⟩ [])) = true := by kernel_rfl
end Go.EvPart.N
namespace Go.EvPart.N
open Go Go.Ev Go.Proofs Go.EvNil Go.EvProp
def txt3 : List Nat := [103, 114, 97, 109, 109, 97, 114, 32, 108, 111, 111, 107, 117, 112, 115, 32, 49, 10, 99, 111, 108, 117, 109, 110, 32, 99, 111, 100, 101, 32, 116, 101, 120, 116, 10, 99, 111, 108, 117, 109, 110, 32, 110, 32, 110, 117, 109, 98, 101, 114, 10, 115, 121, 109, 98, 111, 108, 32, 78, 32, 110, 117, 109, 98, 101, 114, 32, 52, 10, 115, 121, 109, 98, 111, 108, 32, 84, 32, 116, 101, 120, 116, 32, 50, 10, 114, 117, 108, 101, 32, 78, 32, 108, 111, 111, 107, 117, 112, 32, 39, 112, 114, 105, 99, 101, 115, 46, 99, 111, 100, 101, 46, 112, 114, 105, 99, 101, 58, 110, 117, 109, 98, 101, 114, 39, 32, 84, 10, 114, 117, 108, 101, 32, 78, 32, 99, 111, 108, 32, 39, 110, 39, 10, 114, 117, 108, 101, 32, 78, 32, 109, 117, 108, 32, 39, 39, 32, 78, 32, 78, 10, 114, 117, 108, 101, 32, 84, 32, 99, 111, 108, 32, 39, 99, 111, 100, 101, 39, 10, 114, 117, 108, 101, 32, 84, 32, 117, 112, 112, 101, 114, 32, 39, 39, 32, 84, 10, 114, 117, 108, 101, 32, 84, 32, 116, 101, 120, 116, 32, 39, 65, 39, 10, 115, 116, 97, 114, 116, 32, 78, 10]
theorem parse3 : gramB sm3 [4, 2] ((envK Tryz.prog ext0 tabT.find 3000).call 12 [.str txt3] (putL ⟨.e, 13⟩ [])) = true := by kernel_rfl
end Go.EvPart.N
namespace Go.EvPart.N
open Go Go.Ev Go.Proofs Go.EvNil Go.EvProp
def txt4 : List Nat := [103, 114, 97, 109, 109, 97, 114, 32, 99, 104, 111, 105, 99, 101, 115, 32, 49, 10, 99, 111, 108, 117, 109, 110, 32, 115, 32, 116, 101, 120, 116, 10, 99, 111, 108, 117, 109, 110, 32, 110, 32, 110, 117, 109, 98, 101, 114, 10, 115, 121, 109, 98, 111, 108, 32, 84, 32, 116, 101, 120, 116, 32, 53, 10, 115, 121, 109, 98, 111, 108, 32, 66, 32, 98, 111, 111, 108, 32, 51, 10, 115, 121, 109, 98, 111, 108, 32, 78, 32, 110, 117, 109, 98, 101, 114, 32, 49, 10, 115, 121, 109, 98, 111, 108, 32, 67, 32, 116, 101, 120, 116, 32, 49, 10, 114, 117, 108, 101, 32, 84, 32, 99, 111, 108, 32, 39, 115, 39, 10, 114, 117, 108, 101, 32, 84, 32, 116, 101, 120, 116, 32, 39, 108, 111, 119, 39, 10, 114, 117, 108, 101, 32, 84, 32, 105, 102, 32, 39, 116, 101, 120, 116, 39, 32, 66, 32, 67, 32, 84, 10, 114, 117, 108, 101, 32, 66, 32, 108, 101, 115, 115, 32, 39, 39, 32, 78, 32, 78, 10, 114, 117, 108, 101, 32, 66, 32, 109, 97, 116, 99, 104, 32, 39, 92, 117, 43, 39, 32, 67, 10, 114, 117, 108, 101, 32, 78, 32, 99, 111, 108, 32, 39, 110, 39, 10, 114, 117, 108, 101, 32, 78, 32, 110, 117, 109, 98, 101, 114, 32, 39, 49, 48, 39, 10, 114, 117, 108, 101, 32, 67, 32, 99, 111, 108, 32, 39, 115, 39, 10, 114, 117, 108, 101, 32, 67, 32, 116, 101, 120, 116, 32, 39, 104, 105, 103, 104, 39, 10, 115, 116, 97, 114, 116, 32, 84, 10]
theorem parse4 : gramB sm4 [5, 3, 1, 1] ((envK Tryz.prog ext0 tabT.find 3000).call 12 [.str txt4] (putL ⟨.e, 13⟩ [])) = true := by kernel_rfl
end Go.EvPart.N
namespace Go.EvPart.N
open Go Go.Ev Go.Proofs Go.EvNil Go.EvProp
def txt5 : List Nat := [103, 114, 97, 109, 109, 97, 114, 32, 116, 97, 98, 108, 101, 115, 32, 49, 10, 99, 111, 108, 117, 109, 110, 32, 105, 116, 101, 109, 115, 32, 116, 97, 98, 108, 101, 10, 99, 111, 108, 117, 109, 110, 32, 107, 32, 116, 101, 120, 116, 10, 115, 121, 109, 98, 111, 108, 32, 78, 32, 110, 117, 109, 98, 101, 114, 32, 52, 10, 115, 121, 109, 98, 111, 108, 32, 88, 32, 116, 97, 98, 108, 101, 32, 51, 10, 115, 121, 109, 98, 111, 108, 32, 84, 32, 116, 101, 120, 116, 32, 49, 10, 114, 117, 108, 101, 32, 78, 32, 115, 117, 109, 32, 39, 97, 109, 111, 117, 110, 116, 62, 61, 48, 39, 32, 88, 10, 114, 117, 108, 101, 32, 78, 32, 99, 111, 117, 110, 116, 32, 39, 39, 32, 88, 10, 114, 117, 108, 101, 32, 78, 32, 97, 100, 100, 32, 39, 39, 32, 78, 32, 78, 10, 114, 117, 108, 101, 32, 88, 32, 99, 111, 108, 32, 39, 105, 116, 101, 109, 115, 39, 10, 114, 117, 108, 101, 32, 88, 32, 119, 104, 101, 114, 101, 32, 39, 107, 105, 110, 100, 39, 32, 88, 32, 84, 10, 114, 117, 108, 101, 32, 84, 32, 99, 111, 108, 32, 39, 107, 39, 10, 114, 117, 108, 101, 32, 84, 32, 116, 101, 120, 116, 32, 39, 97, 39, 10, 115, 116, 97, 114, 116, 32, 78, 10]
theorem parse5 : gramB sm5 [4, 3, 1] ((envK Tryz.prog ext0 tabT.find 3000).call 12 [.str txt5] (putL ⟨.e, 13⟩ [])) = true := by kernel_rfl
end Go.EvPart.N
namespace Go.EvPart.N
open Go Go.Ev Go.Proofs Go.RowKit Go.EvNil Go.EvProp
section
variable {ρ : Rho} {σ : Sig} {h : H} {w : World}
theorem blkB_ok {b e o : Nat} {l : List AV} (hk : blkB h b e o l = true) (hH : HRel ρ σ h w) {p : Ev.Place} (hp : σ b = some p) : ∃ (arr : Array Value) (fz : Nat × Nat) (cs : List Value), w.heap[p.blk]? = some (Obj.cells arr e fz) /\ concL ρ σ l = some cs /\ ∀ i, i < l.length -> arr[p.del + o + i]? = cs[i]? := by
 unfold blkB at hk
 split at hk
 · rename_i e' vs t wr hb
   simp only [Bool.and_eq_true] at hk
   obtain rfl := Nat.eq_of_beq_eq_true hk.1
   have h2 := AV.beqL_eq hk.2
   obtain ⟨q, arr, fz, cs, hq, g1, g2, g3, g4, g5, g6, g7, _⟩ := hH.cells hb
   obtain rfl : p = q := Option.some.inj (hp.symm.trans hq)
   have h3 := concL_take l.length (concL_drop o g5)
   refine ⟨arr, fz, (cs.drop o).take l.length, g1, by rw [← h3, h2], fun i hi => ?_⟩
   have hl := congrArg List.length h2
   simp only [List.length_take, List.length_drop] at hl
   rw [Nat.add_assoc, g7 (o + i) (by omega), List.getElem?_take, if_pos hi, List.getElem?_drop]
 · cases hk
theorem blkB_tot {b e o : Nat} {l : List AV} (hk : blkB h b e o l = true) (hH : HRel ρ σ h w) {p : Ev.Place} (hp : σ b = some p) : l.length = 0 ∨ o + l.length <= p.tot := by
 unfold blkB at hk
 split at hk
 · rename_i e' vs t wr hb
   simp only [Bool.and_eq_true] at hk
   have h2 := AV.beqL_eq hk.2
   obtain ⟨q, arr, fz, cs, hq, g1, g2, g3, g4, g5, g6, g7, _⟩ := hH.cells hb
   obtain rfl : p = q := Option.some.inj (hp.symm.trans hq)
   have hl := congrArg List.length h2
   simp only [List.length_take, List.length_drop] at hl
   omega
 · cases hk
theorem capN_le {p : Ev.Place} {o z l : Nat} {c : Option Nat} (hz : 0 < z) (hc : capB c l = true) (h : l = 0 ∨ o + l * z <= p.tot) : l <= capN p o z c := by
 cases c with
 | some n => exact Nat.le_of_ble_eq_true hc
 | none =>
   show l <= (p.tot - o) / z
   rcases h with h | h
   · subst h; exact Nat.zero_le _
   · exact (Nat.le_div_iff_mul_le hz).2 (by omega)
theorem rulesL_len : ∀ (l : List Rl) (vs : List AV), rulesL h vs l = true -> l.length * 4 <= vs.length
 | [], _, _ => by simp
 | r :: l, hd :: op :: pa :: a :: vs, hk => by
   simp only [rulesL, Bool.and_eq_true] at hk
   have := rulesL_len l vs hk.2
   simp; omega
 | r :: l, [], hk => by simp [rulesL] at hk
 | r :: l, [_], hk => by simp [rulesL] at hk
 | r :: l, [_, _], hk => by simp [rulesL] at hk
 | r :: l, [_, _, _], hk => by simp [rulesL] at hk
theorem conc_i (n : Nat) : conc ρ σ (.int .i64 (.ofNat n)) = some (.int .i64 (n : Int)) := by simp [conc]
theorem concL_colW : ∀ cs, concL ρ σ (colsAV cs) = some (colW cs)
 | [] => by simp [colsAV, colW, concL]
 | c :: l => by simp [colsAV, colW, concL, conc_avS, conc, concL_colW l]
def fM (Ms : List Nat) (i : Nat) : Nat := Ms.getD i 1
theorem concL_symW (F : Nat -> Nat) : ∀ (ss : List (ByteArray × Nat)) (Ms : List Nat) (k : Nat), Ms.length = ss.length -> (∀ i (hi : i < Ms.length), Ms[i] = F (k + i)) -> concL ρ σ (symsAV ss Ms) = some (symW ss F k)
 | [], [], _, _, _ => by simp [symsAV, symW, concL]
 | c :: l, m :: ms, k, hl, hf => by
   have h0 := hf 0 (Nat.succ_pos _)
   simp only [List.getElem_cons_zero, Nat.add_zero] at h0
   have ih := concL_symW F l ms (k + 1) (by simpa using hl) fun i hi => by
     have := hf (i + 1) (Nat.succ_lt_succ hi)
     simp only [List.getElem_cons_succ] at this
     rw [this, show k + 1 + i = k + (i + 1) by omega]
   simp [symsAV, symW, concL, conc_avS, conc, ih, ← h0]
theorem symsAV_len : ∀ (ss : List (ByteArray × Nat)) (Ms : List Nat), Ms.length = ss.length -> (symsAV ss Ms).length = ss.length * 3
 | [], [], _ => rfl
 | c :: l, m :: ms, h => by simp [symsAV, symsAV_len l ms (by simpa using h)]; omega
theorem concL_argW : ∀ l, concL ρ σ (argsAV l) = some (argW l)
 | [] => by simp [argsAV, argW, concL]
 | a :: l => by simp [argsAV, argW, concL, conc, concL_argW l]
theorem argsAV_len : ∀ l, (argsAV l).length = l.length
 | [] => rfl
 | a :: l => by simp [argsAV, argsAV_len l]
theorem colsAV_len : ∀ l, (colsAV l).length = l.length * 2
 | [] => rfl
 | a :: l => by simp [colsAV, colsAV_len l]; omega
theorem argsB_ok {a : AV} {args : List Nat} (hk : argsB h a args = true) (hH : HRel ρ σ h w) {c : Value} (hc : conc ρ σ a = some c) : ∃ ab ao ac, c = .slice (some ⟨ab, ao, none⟩) args.length ac /\ ArgsAt w (some ⟨ab, ao, none⟩) args /\ ArgT w (some ⟨ab, ao, none⟩) args /\ args.length <= ac := by
 unfold argsB at hk
 split at hk
 · rename_i b o l cap
   simp only [Bool.and_eq_true] at hk
   obtain rfl := Nat.eq_of_beq_eq_true hk.1.1
   simp only [conc, Option.map_eq_some_iff] at hc
   obtain ⟨p, hp, rfl⟩ := hc
   obtain ⟨arr, fz, cs, g1, g2, g3⟩ := blkB_ok hk.2 hH hp
   have gt := blkB_tot hk.2 hH hp
   rw [argsAV_len] at gt
   rw [concL_argW] at g2
   cases g2
   refine ⟨p.blk, p.del + o, _, rfl, fun _ => ⟨_, _, rfl, heap_lt' g1, fun i hi => ?_⟩, fun _ => ⟨_, _, rfl, _, _, g1⟩, capN_le (by decide) hk.1.2 (by omega)⟩
   simp only [World.cell?, g1]
   rw [g3 i (by rw [argsAV_len]; exact hi)]
   exact argW_at args i hi
 · rename_i b o l e
   have : args = [] := by simpa using hk
   subst this
   simp only [conc, Option.map_eq_some_iff] at hc
   obtain ⟨p, hp, rfl⟩ := hc
   exact ⟨_, _, _, rfl, fun h => by simp at h, fun h => by simp at h, Nat.zero_le _⟩
 · cases hk
theorem rulesL_ok (hH : HRel ρ σ h w) {B : Nat} : ∀ (l : List Rl) (vs : List AV) (cs : List Value) (base : Nat), rulesL h vs l = true -> concL ρ σ vs = some cs -> (∀ i, i < vs.length -> w.cell? ⟨B, base + i, none⟩ = cs[i]?) -> ∀ i (hi : i < l.length), ∃ aa ac, RlAt w B (base + i * 4) l[i] aa ac /\ ArgT w aa l[i].args /\ l[i].args.length <= ac
 | [], _, _, _, _, _, _, i, hi => by simp at hi
 | r :: l, hd :: op :: pa :: a :: vs, cs, base, hk, hc, hw, i, hi => by
   simp only [rulesL, Bool.and_eq_true] at hk
   obtain ⟨⟨⟨⟨k1, k2⟩, k3⟩, k4⟩, k5⟩ := hk
   have k1 := AV.beq_eq k1
   have k2 := AV.beq_eq k2
   have k3 := AV.beq_eq k3
   subst k1 k2 k3
   simp only [concL, conc_avS, conc_i] at hc
   cases ha : conc ρ σ a with
   | none => rw [ha] at hc; simp at hc
   | some ca =>
     cases hv : concL ρ σ vs with
     | none => rw [ha, hv] at hc; simp at hc
     | some cv =>
       rw [ha, hv] at hc
       simp only [Option.some.injEq] at hc
       subst hc
       cases i with
       | zero =>
         obtain ⟨ab, ao, ac, rfl, hA, hAT, hAC⟩ := argsB_ok k4 hH ha
         have w0 := hw 0 (by simp)
         have w1 := hw 1 (by simp)
         have w2 := hw 2 (by simp)
         have w3 := hw 3 (by simp)
         refine ⟨_, ac, ⟨?_, ?_, ?_, ?_, hA, ⟨ab, ao, rfl⟩⟩, hAT, hAC⟩
         · simpa using w0
         · simpa using w1
         · simpa using w2
         · simpa using w3
       | succ i =>
         have ih := rulesL_ok hH l vs cv (base + 4) k5 hv (fun j hj => by
           have := hw (j + 4) (by simp; omega)
           rw [show base + 4 + j = base + (j + 4) by omega, this]
           simp) i (by simpa using hi)
         rw [show base + (i + 1) * 4 = base + 4 + i * 4 by omega]
         exact ih
 | r :: l, [], _, _, hk, _, _, _, _ => by simp [rulesL] at hk
 | r :: l, [_], _, _, hk, _, _, _, _ => by simp [rulesL] at hk
 | r :: l, [_, _], _, _, hk, _, _, _, _ => by simp [rulesL] at hk
 | r :: l, [_, _, _], _, _, hk, _, _, _, _ => by simp [rulesL] at hk
theorem gramB_ok {S : Sample} {Ms : List Nat} {v : AV} {c : Value} (hk : gramB S Ms (some (v, h)) = true) (hH : HRel ρ σ h w) (hc : conc ρ σ v = some c) : ∃ F a b, c = .tuple #[.agg F, .int .i64 a, .int .i64 b] /\ GramT S (fM Ms) S.rules w F /\ ∀ i, 1 <= fM Ms i /\ fM Ms i <= 5 := by
 unfold gramB at hk
 split at hk
 · rename_i nm ver cb co cn cc sb so sn sc rb ro rn rc st x y h' heq
   cases heq
   simp only [Bool.and_eq_true] at hk
   obtain ⟨⟨⟨⟨⟨⟨⟨⟨⟨⟨⟨⟨⟨k1, k2⟩, k3⟩, k4⟩, k5⟩, k6⟩, k7⟩, k8⟩, k9⟩, k10⟩, k11⟩, k12⟩, k13⟩, k14⟩ := hk
   have k1 := AV.beq_eq k1
   have k2 := AV.beq_eq k2
   have k3 := AV.beq_eq k3
   subst k1 k2 k3
   obtain rfl := Nat.eq_of_beq_eq_true k4
   obtain rfl := Nat.eq_of_beq_eq_true k5
   obtain rfl := Nat.eq_of_beq_eq_true k6
   have k7 := Nat.eq_of_beq_eq_true k7
   have hM : ∀ i, 1 <= fM Ms i /\ fM Ms i <= 5 := fun i => by
     unfold fM
     rw [List.getD_eq_getElem?_getD]
     cases hi : Ms[i]? with
     | none => simp
     | some m =>
       have := List.all_eq_true.1 k8 m (List.mem_of_getElem? hi)
       simp only [Bool.and_eq_true] at this
       exact ⟨by simpa using this.1, by simpa using this.2⟩
   simp only [conc, concL, conc_avS, Option.map_eq_some_iff] at hc
   cases hcb : σ cb with
   | none => rw [hcb] at hc; simp at hc
   | some p1 =>
     cases hsb : σ sb with
     | none => rw [hcb, hsb] at hc; simp at hc
     | some p2 =>
       cases hrb : σ rb with
       | none => rw [hcb, hsb, hrb] at hc; simp at hc
       | some p3 =>
         rw [hcb, hsb, hrb] at hc
         simp only [Option.map_some, Option.some.injEq] at hc
         obtain ⟨l, hl, rfl⟩ := hc
         subst hl
         obtain ⟨arr1, fz1, cs1, a1, a2, a3⟩ := blkB_ok k9 hH hcb
         rw [concL_colW] at a2
         cases a2
         obtain ⟨arr2, fz2, cs2, b1, b2, b3⟩ := blkB_ok k10 hH hsb
         rw [concL_symW (fM Ms) S.syms Ms 0 k7 fun i hi => by simp [fM, hi]] at b2
         cases b2
         have t1 := blkB_tot k9 hH hcb
         rw [colsAV_len] at t1
         have t2 := blkB_tot k10 hH hsb
         rw [symsAV_len _ _ k7] at t2
         unfold rulesB at k11
         split at k11
         · rename_i e3 vs3 t3 wr3 hb3
           simp only [Bool.and_eq_true] at k11
           obtain rfl := Nat.eq_of_beq_eq_true k11.1
           obtain ⟨q, arr, fz, cs, hq, g1, g2, g3, g4, g5, g6, g7, _⟩ := hH.cells hb3
           obtain rfl : p3 = q := Option.some.inj (hrb.symm.trans hq)
           refine ⟨_, x, y, rfl, ⟨_, _, _, _, _, _, rfl, ⟨p1.blk, p1.del + co, arr1, fz1, rfl, a1, fun i hi => ?_⟩, ⟨p2.blk, p2.del + so, rfl, ⟨_, _, b1⟩, fun i hi => ?_⟩, ⟨p3.blk, p3.del + ro, rfl, ⟨_, _, g1⟩, ?_⟩, capN_le (by decide) k12 (by omega), capN_le (by decide) k13 (by omega), capN_le (by decide) k14 (by have := rulesL_len _ _ k11.2; rw [List.length_drop] at this; omega)⟩, hM⟩
           · have h1 := colW_at S.cols i hi
             have l1 : i * 2 + 1 < (colsAV S.cols).length := by rw [colsAV_len]; omega
             rw [a3 (i * 2) (by omega), show p1.del + co + i * 2 + 1 = p1.del + co + (i * 2 + 1) by omega, a3 (i * 2 + 1) l1]
             exact h1
           · have h1 := symW_at (fM Ms) S.syms 0 i hi
             rw [Nat.zero_add] at h1
             have l1 : i * 3 + 2 < (symsAV S.syms Ms).length := by rw [symsAV_len _ _ k7]; omega
             simp only [World.cell?, b1]
             rw [b3 (i * 3) (by omega), show p2.del + so + i * 3 + 1 = p2.del + so + (i * 3 + 1) by omega, b3 (i * 3 + 1) (by omega), show p2.del + so + i * 3 + 2 = p2.del + so + (i * 3 + 2) by omega, b3 (i * 3 + 2) l1]
             exact h1
           · refine rulesL_ok hH S.rules (vs3.drop ro) (cs.drop ro) (p3.del + ro) k11.2 (concL_drop ro g5) fun i hi => ?_
             simp only [List.length_drop] at hi
             rw [Nat.add_assoc, g6 (ro + i) (by omega), List.getElem?_drop]
         · cases k11
 · cases hk
end
theorem gok0 : GOk Tryz.prog sig0 := fun g hg => ⟨0, by
 have : Tryz.prog.globals.size = 13 := by kernel_rfl
 rw [this] at hg
 simp [sig0, hg]⟩
theorem hrel0 (ρ : Rho) (w : World) : HRel ρ sig0 (putL ⟨.e, 13⟩ []) w := by
 refine ⟨fun b x hb => ?_, fun b b' x x' p p' hb => ?_, fun b hb => ?_⟩
 · simp [putL, H.get, T.get] at hb
 · simp [putL, H.get, T.get] at hb
 · have hb : 13 <= b := hb
   unfold sig0
   rw [if_neg (by omega)]
def RetParse (S : Sample) (w' : World) (e : Ending) : Prop := ∃ F a b M, e = .returned (.tuple #[.agg F, .int .i64 a, .int .i64 b]) /\ (∀ i, 1 <= M i /\ M i <= 5) /\ GramT S M S.rules w' F /\ 2 <= M S.st
theorem parse_gen (S : Sample) (Ms t : List Nat) (h2 : 2 <= fM Ms S.st) (ht : t.all (fun n => decide (n < 256)) = true) (hk : gramB S Ms ((envK Tryz.prog ext0 tabT.find 3000).call 12 [.str t] (putL ⟨.e, 13⟩ [])) = true) (w : World) :
   Calls Tryz.prog 12 #[.string (bytesOf t)] w fun e w' => RetParse S w' e /\ Below w.heap.size w w' := by
 obtain ⟨ρ, hρ, _⟩ := rho_of (loopsOf Tryz.prog) (fun _ => (0, 0)) (fun _ => #[])
 cases hr : (envK Tryz.prog ext0 tabT.find 3000).call 12 [.str t] (putL ⟨.e, 13⟩ []) with
 | none => rw [hr] at hk; cases hk
 | some x =>
   obtain ⟨v, h'⟩ := x
   rw [hr] at hk
   have ha : concL ρ sig0 [.str t] = some [.string (bytesOf t)] := by
     simp only [concL, conc]
     rw [if_pos ht]
   refine (ro_calls follows (ρ := ρ) hρ (BT.find_ok tabT_ok) ext0_ok ext15 gok0 ha (l := []) rfl rfl (hrel0 ρ w) hr rfl).mono ?_
   rintro e w' ⟨c, σ', rfl, hL⟩
   obtain ⟨g, a, b, rfl, hG, hM⟩ := gramB_ok hk hL.h hL.v
   exact ⟨⟨g, a, b, _, rfl, hM, hG, h2⟩, hL.b⟩
def txt (n : Nat) : List Nat := if n = 0 then txt0 else if n = 1 then txt1 else if n = 2 then txt2 else if n = 3 then txt3 else if n = 4 then txt4 else txt5
theorem parse_any (n : Nat) (w : World) : Calls Tryz.prog 12 #[.string (bytesOf (txt n))] w fun e w' => RetParse (sm n) w' e /\ Below w.heap.size w w' := by
 unfold sm txt
 by_cases h0 : n = 0
 · rw [if_pos h0, if_pos h0]; exact parse_gen _ _ _ (by decide) (by kernel_rfl) parse0 w
 rw [if_neg h0, if_neg h0]
 by_cases h1 : n = 1
 · rw [if_pos h1, if_pos h1]; exact parse_gen _ _ _ (by decide) (by kernel_rfl) parse1 w
 rw [if_neg h1, if_neg h1]
 by_cases h2 : n = 2
 · rw [if_pos h2, if_pos h2]; exact parse_gen _ _ _ (by decide) (by kernel_rfl) parse2 w
 rw [if_neg h2, if_neg h2]
 by_cases h3 : n = 3
 · rw [if_pos h3, if_pos h3]; exact parse_gen _ _ _ (by decide) (by kernel_rfl) parse3 w
 rw [if_neg h3, if_neg h3]
 by_cases h4 : n = 4
 · rw [if_pos h4, if_pos h4]; exact parse_gen _ _ _ (by decide) (by kernel_rfl) parse4 w
 rw [if_neg h4, if_neg h4]
 exact parse_gen _ _ _ (by decide) (by kernel_rfl) parse5 w
def smpB (t : List Nat) (x : Option (AV × H)) : Bool := match x with
 | some (v, _) => AV.beq v (.str t)
 | none => false
theorem ext21 : ext0 13 = none := by kernel_rfl
theorem sample_gen (k : Nat) (t : List Nat) (ht : t.all (fun n => decide (n < 256)) = true) (hk : smpB t ((envK Tryz.prog ext0 tabT.find 30).call 13 [.int .i64 (.ofNat k)] (putL ⟨.e, 13⟩ [])) = true) (w : World) :
   Calls Tryz.prog 13 #[.int .i64 (k : Int)] w fun e w' => e = .returned (.string (bytesOf t)) /\ Below w.heap.size w w' := by
 obtain ⟨ρ, hρ, _⟩ := rho_of (loopsOf Tryz.prog) (fun _ => (0, 0)) (fun _ => #[])
 cases hr : (envK Tryz.prog ext0 tabT.find 30).call 13 [.int .i64 (.ofNat k)] (putL ⟨.e, 13⟩ []) with
 | none => rw [hr] at hk; cases hk
 | some x =>
   obtain ⟨v, h'⟩ := x
   rw [hr] at hk
   have hv := AV.beq_eq (show AV.beq v (.str t) = true from hk)
   subst hv
   refine (ro_calls follows (ρ := ρ) hρ (BT.find_ok tabT_ok) ext0_ok ext21 gok0 (args := [.int .i64 (.ofNat k)]) (cs := [.int .i64 (k : Int)]) rfl (l := []) rfl rfl (hrel0 ρ w) hr rfl).mono ?_
   rintro e w' ⟨c, σ', rfl, hL⟩
   have hv := hL.v
   simp only [conc] at hv
   rw [if_pos ht] at hv
   cases hv
   exact ⟨rfl, hL.b⟩
theorem sample_any (n : Nat) (hn : n < 6) (w : World) : Calls Tryz.prog 13 #[.int .i64 (n : Int)] w fun e w' => e = .returned (.string (bytesOf (txt n))) /\ Below w.heap.size w w' := by
 have : n = 0 ∨ n = 1 ∨ n = 2 ∨ n = 3 ∨ n = 4 ∨ n = 5 := by omega
 rcases this with rfl | rfl | rfl | rfl | rfl | rfl
 · exact sample_gen 0 txt0 (by kernel_rfl) (by kernel_rfl) w
 · exact sample_gen 1 txt1 (by kernel_rfl) (by kernel_rfl) w
 · exact sample_gen 2 txt2 (by kernel_rfl) (by kernel_rfl) w
 · exact sample_gen 3 txt3 (by kernel_rfl) (by kernel_rfl) w
 · exact sample_gen 4 txt4 (by kernel_rfl) (by kernel_rfl) w
 · exact sample_gen 5 txt5 (by kernel_rfl) (by kernel_rfl) w
end Go.EvPart.N
namespace Go.EvPart.N
open Go Go.Proofs Go.RowKit Go.EvNil
def Tg (t : Nat) : Prop := t = 131 ∨ t = 56 ∨ t = 76 ∨ t = 3
structure KeepT (w w' : World) : Prop where
 z : w.heap.size <= w'.heap.size
 k : ∀ (b : Nat) (arr : Array Value) (t : Nat) (fz : Nat × Nat), Tg t -> w.heap[b]? = some (Obj.cells arr t fz) -> w'.heap[b]? = some (Obj.cells arr t fz)
theorem KeepT.trans {a b c : World} (h : KeepT a b) (g : KeepT b c) : KeepT a c := ⟨Nat.le_trans h.z g.z, fun x arr t fz ht hx => g.k x arr t fz ht (h.k x arr t fz ht hx)⟩
theorem KeepT.below {w w' : World} (hb : Below w.heap.size w w') : KeepT w w' := ⟨hb.size, fun b arr t fz _ h => by rw [hb.block b (heap_lt' h)]; exact h⟩
theorem KeepT.set {w : World} {b t : Nat} {cs : Array Value} {fr : Nat × Nat} (hb : w.heap[b]? = some (Obj.cells cs t fr)) (ht : ¬ Tg t) (i : Nat) (u : Value) : KeepT w (w.setCell ⟨b, i, none⟩ u) :=
 ⟨by simp, fun b' arr t' fz ht' h => by
   rw [Below.heap_setCell _ _ _ _ (fun e => ?_)]
   · exact h
   · rw [e, hb] at h
     cases h
     exact ht ht'⟩
theorem KeepT.next {w w' : World} {mb : Nat} {a : Option Addr} {n : Nat} {N : Int} {e : Ending} {c K : Nat} (hm : w.heap[mb]? = some (Obj.cells #[.slice a n c, .int .i64 K] 49 (0, 0))) (hx : Nexts w mb a n N e w') : KeepT w w' :=
 ⟨by rw [hx.2.2.1]; exact Nat.le_refl _, fun b arr t fz ht h => by
   rw [hx.2.2.2.1 b (fun e => ?_)]
   · exact h
   · rw [e, hm] at h
     cases h
     rcases ht with h | h | h | h <;> cases h⟩
theorem KeepT.cell {w w' : World} (hk : KeepT w w') {b t : Nat} (ht : Tg t) (hb : TB w b t) (o : Nat) : w'.cell? ⟨b, o, none⟩ = w.cell? ⟨b, o, none⟩ := by
 obtain ⟨arr, fz, h⟩ := hb
 simp only [World.cell?, h, hk.k b arr t fz ht h]
theorem KeepT.tb {w w' : World} (hk : KeepT w w') {b t : Nat} (ht : Tg t) (hb : TB w b t) : TB w' b t := by
 obtain ⟨arr, fz, h⟩ := hb
 exact ⟨arr, fz, hk.k b arr t fz ht h⟩
theorem TB.lt {w : World} {b t : Nat} (h : TB w b t) : b < w.heap.size := by obtain ⟨arr, fz, h⟩ := h; exact heap_lt' h
theorem SymsT.at {w : World} {sa : Option Addr} {ss : List (ByteArray × Nat)} {M : Nat -> Nat} (h : SymsT w sa ss M) : SymsAt w sa ss M := by
 obtain ⟨b, o, e, ht, hc⟩ := h
 exact ⟨b, o, e, ht.lt, hc⟩
theorem RulesT.at {w : World} {ra : Option Addr} {rs : List Rl} (h : RulesT w ra rs) : RulesAt w ra rs := by
 obtain ⟨b, o, e, ht, hc⟩ := h
 exact ⟨b, o, e, ht.lt, fun i hi => by obtain ⟨aa, ac, h1, _⟩ := hc i hi; exact ⟨aa, ac, h1⟩⟩
theorem SymsT.keep {w w' : World} {sa : Option Addr} {ss : List (ByteArray × Nat)} {M : Nat -> Nat} (h : SymsT w sa ss M) (hk : KeepT w w') : SymsT w' sa ss M := by
 obtain ⟨b, o, e, ht, hc⟩ := h
 have c := fun o => hk.cell (t := 56) (.inr (.inl rfl)) ht o
 exact ⟨b, o, e, hk.tb (.inr (.inl rfl)) ht, fun i hi => by rw [c, c, c]; exact hc i hi⟩
theorem args_keep {w w' : World} {aa : Option Addr} {l : List Nat} (h : ArgsAt w aa l) (ht : ArgT w aa l) (hk : KeepT w w') : ArgsAt w' aa l /\ ArgT w' aa l := by
 refine ⟨fun h0 => ?_, fun h0 => ?_⟩
 · obtain ⟨b, o, e, hl, hc⟩ := h h0
   obtain ⟨ab, ao, e', hb⟩ := ht h0
   rw [e] at e'
   cases e'
   exact ⟨b, o, e, Nat.lt_of_lt_of_le hl hk.z, fun i hi => by rw [hk.cell (t := 3) (.inr (.inr (.inr rfl))) hb]; exact hc i hi⟩
 · obtain ⟨ab, ao, e', hb⟩ := ht h0
   exact ⟨ab, ao, e', hk.tb (.inr (.inr (.inr rfl))) hb⟩
theorem RulesT.keep {w w' : World} {ra : Option Addr} {rs : List Rl} (h : RulesT w ra rs) (hk : KeepT w w') : RulesT w' ra rs := by
 obtain ⟨b, o, e, ht, hc⟩ := h
 have c := fun o => hk.cell (t := 76) (.inr (.inr (.inl rfl))) ht o
 refine ⟨b, o, e, hk.tb (.inr (.inr (.inl rfl))) ht, fun i hi => ?_⟩
 obtain ⟨aa, ac, h1, h2, h5⟩ := hc i hi
 obtain ⟨h3, h4⟩ := args_keep h1.args h2 hk
 exact ⟨aa, ac, ⟨by rw [c]; exact h1.c0, by rw [c]; exact h1.c1, by rw [c]; exact h1.c2, by rw [c]; exact h1.c3, h3, h1.sm⟩, h4, h5⟩
theorem _root_.Go.EvNil.ColsAt.keep {w w' : World} {ca : Option Addr} {cs : List (ByteArray × Nat)} (h : ColsAt w ca cs) (hk : KeepT w w') : ColsAt w' ca cs := by
 obtain ⟨b, o, arr, fz, e, hl, hc⟩ := h
 exact ⟨b, o, arr, fz, e, hk.k b arr 131 fz (.inl rfl) hl, hc⟩
theorem GramT.keep {S : Sample} {M : Nat -> Nat} {rs : List Rl} {w w' : World} {F : Array Value} (h : GramT S M rs w F) (hk : KeepT w w') : GramT S M rs w' F := by
 obtain ⟨ca, cc, sa, sc, ra, rc, e, h1, h2, h3, h4⟩ := h
 exact ⟨ca, cc, sa, sc, ra, rc, e, h1.keep hk, h2.keep hk, h3.keep hk, h4⟩
structure Nx (S : Sample) (M : Nat -> Nat) (rs : List Rl) (base : Nat) (w : World) (ca : Option Addr) (cc sg scap rg rcap : Nat) : Prop where
 c : ColsAt w ca S.cols
 s0 : ∃ arr, w.heap[sg]? = some (Obj.cells arr 56 (0, 0))
 s : SymsT w (some ⟨sg, 0, none⟩) S.syms M
 r0 : ∃ arr, w.heap[rg]? = some (Obj.cells arr 76 (0, 0)) /\ arr.size = rcap * 4
 r : RulesT w (some ⟨rg, 0, none⟩) rs
 rl : rs.length <= rcap
 sb : base <= sg
 rb : base <= rg
 cl : S.cols.length <= cc
 sl : S.syms.length <= scap
theorem Nx.gram {S : Sample} {M : Nat -> Nat} {rs : List Rl} {base : Nat} {w : World} {ca : Option Addr} {cc sg scap rg rcap : Nat} (h : Nx S M rs base w ca cc sg scap rg rcap) : GramT S M rs w #[.string S.nm, .int .i64 S.ver, .slice ca S.cols.length cc, .slice (some ⟨sg, 0, none⟩) S.syms.length scap, .slice (some ⟨rg, 0, none⟩) rs.length rcap, .int .i64 S.st] :=
 ⟨_, _, _, _, _, _, rfl, h.c, h.s, h.r, h.cl, h.sl, h.rl⟩
theorem Nx.keep {S : Sample} {M : Nat -> Nat} {rs : List Rl} {base : Nat} {w w' : World} {ca : Option Addr} {cc sg scap rg rcap : Nat} (h : Nx S M rs base w ca cc sg scap rg rcap) (hk : KeepT w w') : Nx S M rs base w' ca cc sg scap rg rcap := by
 obtain ⟨arr, h1⟩ := h.s0
 obtain ⟨arr', h2, h3⟩ := h.r0
 exact ⟨h.c.keep hk, ⟨arr, hk.k _ _ _ _ (.inr (.inl rfl)) h1⟩, h.s.keep hk, ⟨arr', hk.k _ _ _ _ (.inr (.inr (.inl rfl))) h2, h3⟩, h.r.keep hk, h.rl, h.sb, h.rb, h.cl, h.sl⟩
theorem Copied.nx {S : Sample} (hS : SOk S) {M : Nat -> Nat} {rs : List Rl} (hr0 : 0 < rs.length) {base : Nat} {w : World} {cv sv rv : Value} {es : List RE} (h : Copied S M rs base w cv sv rv es) :
   ∃ ca cc sg scap rg rcap, cv = .slice ca S.cols.length cc /\ sv = .slice (some ⟨sg, 0, none⟩) S.syms.length scap /\ rv = .slice (some ⟨rg, 0, none⟩) rs.length rcap /\ Nx S M rs base w ca cc sg scap rg rcap := by
 have hel : es.length = rs.length := by rw [← h.e, List.length_map]
 have n1 : cv ≠ .slice none 0 0 := fun e => by
   rcases h.c.2 with ⟨_, h0⟩ | ⟨g, cap, cur, e1, _⟩
   · have := hS.cols0; omega
   · rw [e] at e1; cases e1
 have n2 : sv ≠ .slice none 0 0 := fun e => by
   rcases h.s.2 with ⟨_, h0⟩ | ⟨g, cap, cur, e1, _⟩
   · have := hS.syms0; omega
   · rw [e] at e1; cases e1
 have n3 : rv ≠ .slice none 0 0 := fun e => by
   rcases h.r.2 with ⟨_, h0⟩ | ⟨g, cap, cur, e1, _⟩
   · omega
   · rw [e] at e1; cases e1
 obtain ⟨cg, ccap, cur1, rfl, _, a3, a4, _, a6⟩ := own_cells h.c n1
 obtain ⟨sg, scap, cur2, rfl, b2, b3, b4, _, b6⟩ := own_cells h.s n2
 obtain ⟨rg, rcap, cur3, rfl, c2, c3, c4, c5, c6⟩ := own_cells h.r n3
 rw [hel] at c4 c6
 refine ⟨_, _, sg, scap, rg, rcap, rfl, rfl, by rw [hel], ⟨cg, 0, cur1, _, rfl, a3, fun i hi => ?_⟩, ⟨cur2, b3⟩, ⟨sg, 0, rfl, ⟨_, _, b3⟩, fun i hi => ?_⟩, ⟨cur3, c3, c5⟩, ⟨rg, 0, rfl, ⟨_, _, c3⟩, fun i hi => ?_⟩, c4, b2, c2, a4, b4⟩
 · rw [Nat.zero_add, a6 (i * 2) (by omega), a6 (i * 2 + 1) (by omega)]
   exact colW_at S.cols i hi
 · have := symW_at M S.syms 0 i hi
   rw [Nat.zero_add] at this
   simp only [World.cell?, b3, Nat.zero_add]
   rw [b6 (i * 3) (by omega), b6 (i * 3 + 1) (by omega), b6 (i * 3 + 2) (by omega)]
   exact this
 · have hi' : i < es.length := by omega
   obtain ⟨r1, r2, r3, r4⟩ := ruleW_at es i hi'
   obtain ⟨g0, arr, fz, g1, g2⟩ := h.a es[i] (List.getElem_mem hi')
   have he : rs[i] = es[i].1 := by
     have : (es.map (·.1))[i]? = some es[i].1 := by simp [hi']
     rw [h.e] at this
     exact (List.getElem?_eq_some_iff.1 this).2
   refine ⟨some ⟨es[i].2.1, es[i].2.2.1, none⟩, es[i].2.2.2, ⟨?_, ?_, ?_, ?_, fun _ => ⟨_, _, rfl, heap_lt' g1, fun j hj => ?_⟩, ⟨_, _, rfl⟩⟩, fun _ => ⟨_, _, rfl, ⟨_, _, g1⟩⟩, by rw [he]; exact g0⟩
   · simp only [World.cell?, c3, Nat.zero_add]; rw [c6 _ (by omega), r1, he]; rfl
   · simp only [World.cell?, c3, Nat.zero_add]; rw [c6 _ (by omega), r2, he]; rfl
   · simp only [World.cell?, c3, Nat.zero_add]; rw [c6 _ (by omega), r3, he]; rfl
   · simp only [World.cell?, c3, Nat.zero_add]; rw [c6 _ (by omega), r4, he]; rfl
   · simp only [World.cell?, g1]
     have := g2 j (by rw [← he]; exact hj)
     rw [this]
     simp only [he]
     rfl
theorem Nx.setMax {S : Sample} {M : Nat -> Nat} {rs : List Rl} {base : Nat} {w : World} {ca : Option Addr} {cc sg scap rg rcap : Nat} (h : Nx S M rs base w ca cc sg scap rg rcap) (i m : Nat) (hi : i < S.syms.length) : Nx S (fun j => if j = i then m else M j) rs base (w.setCell ⟨sg, i * 3 + 2, none⟩ (.int .i64 m)) ca cc sg scap rg rcap := by
 obtain ⟨arr, hs⟩ := h.s0
 obtain ⟨arr3, hr3, hr4⟩ := h.r0
 have hk : ∀ (b t : Nat) (a : Array Value) (fz : Nat × Nat), t ≠ 56 -> w.heap[b]? = some (Obj.cells a t fz) -> (w.setCell ⟨sg, i * 3 + 2, none⟩ (.int .i64 m)).heap[b]? = some (Obj.cells a t fz) := fun b t a fz ht hb => by
   rw [Below.heap_setCell _ _ _ _ (fun e => ?_)]
   · exact hb
   · rw [e, hs] at hb; cases hb; exact ht rfl
 have hb2 := Joins.block_setCell (i := i * 3 + 2) hs (.int .i64 m)
 have hcell : ∀ (b t o : Nat), TB w b t -> t ≠ 56 -> (w.setCell ⟨sg, i * 3 + 2, none⟩ (.int .i64 m)).cell? ⟨b, o, none⟩ = w.cell? ⟨b, o, none⟩ := fun b t o ⟨a, fz, hb⟩ ht => by
   simp only [World.cell?, hb, hk b t a fz ht hb]
 refine ⟨?_, ⟨_, hb2⟩, ?_, ⟨arr3, hk _ _ _ _ (by decide) hr3, hr4⟩, ?_, h.rl, h.sb, h.rb, h.cl, h.sl⟩
 · obtain ⟨b, o, a, fz, e, hl, hc⟩ := h.c
   exact ⟨b, o, a, fz, e, hk _ _ _ _ (by decide) hl, hc⟩
 · obtain ⟨b, o, e, ht, hc⟩ := h.s
   cases e
   refine ⟨sg, 0, rfl, ⟨_, _, hb2⟩, fun j hj => ?_⟩
   have h1 := hc j hj
   have h2 := hc i hi
   simp only [World.cell?, hs, Nat.zero_add] at h1 h2
   simp only [World.cell?, hb2, Nat.zero_add]
   refine ⟨by rw [Array.getElem?_setIfInBounds_ne (by omega)]; exact h1.1, by rw [Array.getElem?_setIfInBounds_ne (by omega)]; exact h1.2.1, ?_⟩
   by_cases e : j = i
   · subst e
     have hlt : j * 3 + 2 < arr.size := (Array.getElem?_eq_some_iff.1 h2.2.2).1
     rw [if_pos rfl]
     simp [hlt]
   · rw [if_neg e, Array.getElem?_setIfInBounds_ne (by omega)]
     exact h1.2.2
 · obtain ⟨b, o, e, ht, hc⟩ := h.r
   refine ⟨b, o, e, ?_, fun j hj => ?_⟩
   · obtain ⟨a, fz, hb⟩ := ht; exact ⟨a, fz, hk _ _ _ _ (by decide) hb⟩
   · obtain ⟨aa, ac, h1, h2, h5⟩ := hc j hj
     have c := fun o => hcell b 76 o ht (by decide)
     refine ⟨aa, ac, ⟨by rw [c]; exact h1.c0, by rw [c]; exact h1.c1, by rw [c]; exact h1.c2, by rw [c]; exact h1.c3, fun h0 => ?_, h1.sm⟩, fun h0 => ?_, h5⟩
     · obtain ⟨b', o', e', hl, hc'⟩ := h1.args h0
       obtain ⟨ab, ao, e'', hb⟩ := h2 h0
       rw [e'] at e''
       cases e''
       exact ⟨b', o', e', by simpa using hl, fun q hq => by rw [hcell b' 3 _ hb (by decide)]; exact hc' q hq⟩
     · obtain ⟨ab, ao, e'', a, fz, hb⟩ := h2 h0
       exact ⟨ab, ao, e'', a, fz, hk _ _ _ _ (by decide) hb⟩
end Go.EvPart.N
namespace Go.EvPart.N
open Go Go.Proofs Go.RowKit Go.EvNil
theorem block_setCells (b : Nat) : ∀ (vs : List Value) (o : Nat) (w : World) (arr : Array Value) (t : Nat) (fr : Nat × Nat), w.heap[b]? = some (Obj.cells arr t fr) -> ∃ arr', (w.setCells b o vs).heap[b]? = some (Obj.cells arr' t fr) /\ arr'.size = arr.size
 | [], _, w, arr, t, fr, h => ⟨arr, h, rfl⟩
 | v :: r, o, w, arr, t, fr, h => by
   obtain ⟨arr', h1, h2⟩ := block_setCells b r (o + 1) (w.setCell ⟨b, o, none⟩ v) _ t fr (Joins.block_setCell h v)
   exact ⟨arr', h1, by rw [h2]; simp⟩
theorem size_setCells (b : Nat) : ∀ (vs : List Value) (o : Nat) (w : World), (w.setCells b o vs).heap.size = w.heap.size
 | [], _, _ => rfl
 | v :: r, o, w => by
   show ((w.setCell ⟨b, o, none⟩ v).setCells b (o + 1) r).heap.size = _
   rw [size_setCells b r]; simp
theorem below_setCells {B b : Nat} (hb : B <= b) : ∀ (vs : List Value) (o : Nat) {w0 w : World}, Below B w0 w -> Below B w0 (w.setCells b o vs)
 | [], _, _, _, h => h
 | v :: r, o, w0, w, h => below_setCells hb r (o + 1) (h.setCell (p := ⟨b, o, none⟩) hb v)
def tailOf (arr : Array Value) (n rn : Nat) : List Value := (arr.toList.drop ((n + 1) * 4)).take ((rn - n - 1) * 4)
section
variable {S : Sample} {M : Nat -> Nat} {rs : List Rl} {base : Nat} {w : World} {ca : Option Addr} {cc sg scap rg rcap : Nat}
theorem Nx.cell (h : Nx S M rs base w ca cc sg scap rg rcap) {arr : Array Value} (ha : w.heap[rg]? = some (Obj.cells arr 76 (0, 0))) : ∀ k, k < rs.length * 4 -> ∃ u, arr[k]? = some u /\ u.oneCell' = true := fun k hk => by
 obtain ⟨b, o, e, _, hc⟩ := h.r
 cases e
 obtain ⟨aa, ac, h1, _⟩ := hc (k / 4) (by omega)
 have c0 := h1.c0
 have c1 := h1.c1
 have c2 := h1.c2
 have c3 := h1.c3
 simp only [World.cell?, ha, Nat.zero_add] at c0 c1 c2 c3
 have : k = k / 4 * 4 ∨ k = k / 4 * 4 + 1 ∨ k = k / 4 * 4 + 2 ∨ k = k / 4 * 4 + 3 := by omega
 rcases this with e | e | e | e <;> rw [e]
 · exact ⟨_, c0, rfl⟩
 · exact ⟨_, c1, rfl⟩
 · exact ⟨_, c2, rfl⟩
 · exact ⟨_, c3, rfl⟩
theorem tail_len (h : Nx S M rs base w ca cc sg scap rg rcap) {arr : Array Value} (hz : arr.size = rcap * 4) {n : Nat} (hn : n < rs.length) : (tailOf arr n rs.length).length = (rs.length - n - 1) * 4 := by
 have := h.rl
 simp only [tailOf, List.length_take, List.length_drop, Array.length_toList]
 omega
theorem tail_at (h : Nx S M rs base w ca cc sg scap rg rcap) {arr : Array Value} {n j : Nat} (hj : j < (rs.length - n - 1) * 4) : (tailOf arr n rs.length)[j]? = arr[(n + 1) * 4 + j]? := by
 simp only [tailOf, List.getElem?_take, hj, if_true, List.getElem?_drop]
 simp
theorem tail_cells (h : Nx S M rs base w ca cc sg scap rg rcap) {arr : Array Value} (ha : w.heap[rg]? = some (Obj.cells arr 76 (0, 0))) (hz : arr.size = rcap * 4) {n : Nat} (hn : n < rs.length) : ∀ j u, (tailOf arr n rs.length)[j]? = some u -> w.cell? ((⟨rg, (n + 1) * 4, none⟩ : Addr).add j) = some u := fun j u hj => by
 have hlt : j < (rs.length - n - 1) * 4 := by rw [← tail_len h hz hn]; exact (List.getElem?_eq_some_iff.1 hj).1
 rw [tail_at h hlt] at hj
 rw [add_none]
 simp only [World.cell?, ha]
 exact hj
theorem tail_one (h : Nx S M rs base w ca cc sg scap rg rcap) {arr : Array Value} (ha : w.heap[rg]? = some (Obj.cells arr 76 (0, 0))) (hz : arr.size = rcap * 4) {n : Nat} (hn : n < rs.length) : ∀ u ∈ tailOf arr n rs.length, u.oneCell' = true := fun u hu => by
 obtain ⟨j, hj⟩ := List.mem_iff_getElem?.1 hu
 have hlt : j < (rs.length - n - 1) * 4 := by rw [← tail_len h hz hn]; exact (List.getElem?_eq_some_iff.1 hj).1
 rw [tail_at h hlt] at hj
 obtain ⟨u', h1, h2⟩ := h.cell ha ((n + 1) * 4 + j) (by omega)
 rw [h1] at hj
 cases hj
 exact h2
theorem Nx.erase (h : Nx S M rs base w ca cc sg scap rg rcap) {arr : Array Value} (ha : w.heap[rg]? = some (Obj.cells arr 76 (0, 0))) (hz : arr.size = rcap * 4) (n : Nat) (hn : n < rs.length) :
   Nx S M (rs.eraseIdx n) base (w.setCells rg (n * 4) (tailOf arr n rs.length)) ca cc sg scap rg rcap := by
 have hrl := h.rl
 have hlen := tail_len h hz hn
 have hel : (rs.eraseIdx n).length = rs.length - 1 := by rw [List.length_eraseIdx, if_pos hn]
 obtain ⟨arr', hb', hz'⟩ := block_setCells rg (tailOf arr n rs.length) (n * 4) w arr 76 (0, 0) ha
 have hk : ∀ (b t : Nat) (a : Array Value) (fz : Nat × Nat), t ≠ 76 -> w.heap[b]? = some (Obj.cells a t fz) -> (w.setCells rg (n * 4) (tailOf arr n rs.length)).heap[b]? = some (Obj.cells a t fz) := fun b t a fz ht hb => by
   rw [World.heap_setCells_other _ _ _ _ (heap_lt' hb) (fun e => ?_)]
   · exact hb
   · rw [e, ha] at hb; cases hb; exact ht rfl
 have hcell : ∀ (b t o : Nat), TB w b t -> t ≠ 76 -> (w.setCells rg (n * 4) (tailOf arr n rs.length)).cell? ⟨b, o, none⟩ = w.cell? ⟨b, o, none⟩ := fun b t o ⟨a, fz, hb⟩ ht => by
   simp only [World.cell?, hb, hk b t a fz ht hb]
 have low : ∀ o, o < n * 4 -> (w.setCells rg (n * 4) (tailOf arr n rs.length)).cell? ⟨rg, o, none⟩ = w.cell? ⟨rg, o, none⟩ := fun o ho => World.cell?_setCells_out _ _ _ _ _ (fun _ _ => .inl ho)
 have high : ∀ j, j < (rs.length - n - 1) * 4 -> (w.setCells rg (n * 4) (tailOf arr n rs.length)).cell? ⟨rg, n * 4 + j, none⟩ = w.cell? ⟨rg, (n + 1) * 4 + j, none⟩ := fun j hj => by
   have h1 := World.cell?_setCells_in rg (tailOf arr n rs.length) (n * 4) w (fun q hq => by
     obtain ⟨u, hu, _⟩ := h.cell ha (n * 4 + q) (by omega)
     have hcw : w.cell? ⟨rg, n * 4 + q, none⟩ = some u := by simp only [World.cell?, ha]; exact hu
     rw [hcw]; rfl) j (by omega)
   rw [h1]
   have h2 := tail_at h (arr := arr) (n := n) hj
   rw [List.getElem?_eq_getElem (by omega)] at h2
   simp only [World.cell?, ha]
   exact h2
 refine ⟨?_, ?_, ?_, ⟨arr', hb', by rw [hz', hz]⟩, ?_, by rw [hel]; omega, h.sb, h.rb, h.cl, h.sl⟩
 · obtain ⟨b, o, a, fz, e, hl, hc⟩ := h.c
   exact ⟨b, o, a, fz, e, hk _ _ _ _ (by decide) hl, hc⟩
 · obtain ⟨a, hs⟩ := h.s0
   exact ⟨a, hk _ _ _ _ (by decide) hs⟩
 · obtain ⟨b, o, e, ht, hc⟩ := h.s
   refine ⟨b, o, e, ?_, fun i hi => ?_⟩
   · obtain ⟨a, fz, hb⟩ := ht; exact ⟨a, fz, hk _ _ _ _ (by decide) hb⟩
   · rw [hcell b 56 _ ht (by decide), hcell b 56 _ ht (by decide), hcell b 56 _ ht (by decide)]; exact hc i hi
 · obtain ⟨b, o, e, ht, hc⟩ := h.r
   cases e
   refine ⟨rg, 0, rfl, ⟨_, _, hb'⟩, fun i hi => ?_⟩
   rw [hel] at hi
   obtain ⟨k, hk', hkr, hcells⟩ : ∃ k, ∃ hk : k < rs.length, (rs.eraseIdx n)[i]'(by rw [hel]; exact hi) = rs[k] /\ ∀ f, f < 4 -> (w.setCells rg (n * 4) (tailOf arr n rs.length)).cell? ⟨rg, i * 4 + f, none⟩ = w.cell? ⟨rg, k * 4 + f, none⟩ := by
     by_cases hin : i < n
     · exact ⟨i, by omega, by rw [List.getElem_eraseIdx, dif_pos hin], fun f hf => low _ (by omega)⟩
     · refine ⟨i + 1, by omega, by rw [List.getElem_eraseIdx, dif_neg hin], fun f hf => ?_⟩
       have := high ((i - n) * 4 + f) (by omega)
       rw [show n * 4 + ((i - n) * 4 + f) = i * 4 + f by omega, show (n + 1) * 4 + ((i - n) * 4 + f) = (i + 1) * 4 + f by omega] at this
       exact this
   obtain ⟨aa, ac, h1, h2, h5⟩ := hc k hk'
   rw [hkr]
   have c0 := h1.c0
   have c1 := h1.c1
   have c2 := h1.c2
   have c3 := h1.c3
   simp only [Nat.zero_add] at c0 c1 c2 c3
   simp only [Nat.zero_add]
   refine ⟨aa, ac, ⟨?_, ?_, ?_, ?_, fun h0 => ?_, h1.sm⟩, fun h0 => ?_, h5⟩
   · have := hcells 0 (by omega); simp only [Nat.add_zero] at this; rw [this]; exact c0
   · rw [hcells 1 (by omega)]; exact c1
   · rw [hcells 2 (by omega)]; exact c2
   · rw [hcells 3 (by omega)]; exact c3
   · obtain ⟨b', o', e', hl, hc'⟩ := h1.args h0
     obtain ⟨ab, ao, e'', hb⟩ := h2 h0
     rw [e'] at e''
     cases e''
     exact ⟨b', o', e', by rw [size_setCells]; exact hl, fun q hq => by rw [hcell b' 3 _ hb (by decide)]; exact hc' q hq⟩
   · obtain ⟨ab, ao, e'', a, fz, hb⟩ := h2 h0
     exact ⟨ab, ao, e'', a, fz, hk _ _ _ _ (by decide) hb⟩
end
end Go.EvPart.N
