/-
  The six samples as data, and what is asked of closed runs over them.
-/
import Derived.Test.YthbmgkbfmddhnaaGreatDoorWalkE
import Derived.Test.YthbmgkbfmddhnaaGreatDoorTab
import Derived.Test.YthbmgkbfmddhnaaGreatDoorEvPart2
set_option linter.all false
namespace Go.EvNil
open Go Go.Ev Go.Proofs
set_option maxRecDepth 100000

def baseAV : AV := .slice 20 0 1 3 none
def baseRo : Blks := [(13, .ro 9 [.str [99, 111, 100, 101], .str [112, 114, 105, 99, 101], .str [110, 97, 109, 101]]), (16, .ro 41 [.int .i64 (.ofNat 1), .str [65], .int .i64 (.ofNat 0), .int .i64 (.ofNat 0), .int .i64 (.ofNat 0), .nilslice, .nilslice, .int .i64 (.ofNat 2), .str [], .int .i64 (.ofNat 25), .int .i64 (.ofNat 1), .int .i64 (.ofNat 0), .nilslice, .nilslice, .int .i64 (.ofNat 1), .str [97, 112, 112, 108, 101], .int .i64 (.ofNat 0), .int .i64 (.ofNat 0), .int .i64 (.ofNat 0), .nilslice, .nilslice]), (17, .ro 41 [.int .i64 (.ofNat 1), .str [66], .int .i64 (.ofNat 0), .int .i64 (.ofNat 0), .int .i64 (.ofNat 0), .nilslice, .nilslice, .int .i64 (.ofNat 2), .str [], .int .i64 (.ofNat 3), .int .i64 (.ofNat 0), .int .i64 (.ofNat 0), .nilslice, .nilslice, .int .i64 (.ofNat 1), .str [98, 114, 101, 97, 100], .int .i64 (.ofNat 0), .int .i64 (.ofNat 0), .int .i64 (.ofNat 0), .nilslice, .nilslice]), (18, .ro 45 [.slice 16 0 3 7 none, .slice 17 0 3 7 none]), (20, .ro 52 [.str [112, 114, 105, 99, 101, 115], .slice 13 0 3 1 none, .slice 18 0 2 1 none])]
def sm0 : Sample := ⟨⟨#[116, 101, 120, 116, 115]⟩, 1, [(⟨#[97]⟩, 1), (⟨#[98]⟩, 1)], [(⟨#[84]⟩, 1), (⟨#[85]⟩, 1)], [⟨0, ⟨#[99, 111, 108]⟩, ⟨#[97]⟩, []⟩, ⟨0, ⟨#[99, 111, 108]⟩, ⟨#[98]⟩, []⟩, ⟨0, ⟨#[99, 111, 110, 99, 97, 116]⟩, ⟨#[]⟩, [1, 0]⟩, ⟨0, ⟨#[117, 112, 112, 101, 114]⟩, ⟨#[]⟩, [1]⟩, ⟨1, ⟨#[99, 111, 108]⟩, ⟨#[97]⟩, []⟩, ⟨1, ⟨#[116, 101, 120, 116]⟩, ⟨#[45]⟩, []⟩, ⟨1, ⟨#[101, 120, 116, 114, 97, 99, 116]⟩, ⟨#[92, 100, 43, 35, 49]⟩, [1]⟩], 0, [[0, 2, 2, 6, 10, 22], [0, 2, 2, 2, 2, 2]]⟩
def sm1 : Sample := ⟨⟨#[110, 117, 109, 98, 101, 114, 115]⟩, 1, [(⟨#[110]⟩, 2), (⟨#[109]⟩, 2)], [(⟨#[78]⟩, 2), (⟨#[77]⟩, 2)], [⟨0, ⟨#[99, 111, 108]⟩, ⟨#[110]⟩, []⟩, ⟨0, ⟨#[99, 111, 108]⟩, ⟨#[109]⟩, []⟩, ⟨0, ⟨#[97, 100, 100]⟩, ⟨#[]⟩, [1, 0]⟩, ⟨0, ⟨#[109, 117, 108]⟩, ⟨#[]⟩, [0, 1]⟩, ⟨1, ⟨#[110, 117, 109, 98, 101, 114]⟩, ⟨#[50]⟩, []⟩, ⟨1, ⟨#[99, 111, 108]⟩, ⟨#[109]⟩, []⟩, ⟨1, ⟨#[114, 111, 117, 110, 100]⟩, ⟨#[49]⟩, [1]⟩], 0, [[0, 2, 0, 8, 8, 40], [0, 2, 2, 2, 2, 2]]⟩
def sm2 : Sample := ⟨⟨#[100, 97, 116, 101, 115]⟩, 1, [(⟨#[100]⟩, 3), (⟨#[101]⟩, 3), (⟨#[110]⟩, 2)], [(⟨#[68]⟩, 3), (⟨#[78]⟩, 2), (⟨#[69]⟩, 3)], [⟨0, ⟨#[99, 111, 108]⟩, ⟨#[100]⟩, []⟩, ⟨0, ⟨#[100, 97, 121, 115]⟩, ⟨#[]⟩, [0, 1]⟩, ⟨1, ⟨#[99, 111, 108]⟩, ⟨#[110]⟩, []⟩, ⟨1, ⟨#[110, 117, 109, 98, 101, 114]⟩, ⟨#[55]⟩, []⟩, ⟨1, ⟨#[98, 101, 116, 119, 101, 101, 110]⟩, ⟨#[]⟩, [2, 2]⟩, ⟨2, ⟨#[99, 111, 108]⟩, ⟨#[100]⟩, []⟩, ⟨2, ⟨#[99, 111, 108]⟩, ⟨#[101]⟩, []⟩], 0, [[0, 1, 0, 2, 0, 8], [0, 2, 0, 4, 0, 0], [0, 2, 0, 0, 0, 0]]⟩
def sm3 : Sample := ⟨⟨#[108, 111, 111, 107, 117, 112, 115]⟩, 1, [(⟨#[99, 111, 100, 101]⟩, 1), (⟨#[110]⟩, 2)], [(⟨#[78]⟩, 2), (⟨#[84]⟩, 1)], [⟨0, ⟨#[108, 111, 111, 107, 117, 112]⟩, ⟨#[112, 114, 105, 99, 101, 115, 46, 99, 111, 100, 101, 46, 112, 114, 105, 99, 101, 58, 110, 117, 109, 98, 101, 114]⟩, [1]⟩, ⟨0, ⟨#[99, 111, 108]⟩, ⟨#[110]⟩, []⟩, ⟨0, ⟨#[109, 117, 108]⟩, ⟨#[]⟩, [0, 0]⟩, ⟨1, ⟨#[99, 111, 108]⟩, ⟨#[99, 111, 100, 101]⟩, []⟩, ⟨1, ⟨#[117, 112, 112, 101, 114]⟩, ⟨#[]⟩, [1]⟩, ⟨1, ⟨#[116, 101, 120, 116]⟩, ⟨#[65]⟩, []⟩], 0, [[0, 1, 2, 3, 6, 12], [0, 2, 2, 2, 2, 2]]⟩
def sm4 : Sample := ⟨⟨#[99, 104, 111, 105, 99, 101, 115]⟩, 1, [(⟨#[115]⟩, 1), (⟨#[110]⟩, 2)], [(⟨#[84]⟩, 1), (⟨#[66]⟩, 4), (⟨#[78]⟩, 2), (⟨#[67]⟩, 1)], [⟨0, ⟨#[99, 111, 108]⟩, ⟨#[115]⟩, []⟩, ⟨0, ⟨#[116, 101, 120, 116]⟩, ⟨#[108, 111, 119]⟩, []⟩, ⟨0, ⟨#[105, 102]⟩, ⟨#[116, 101, 120, 116]⟩, [1, 3, 0]⟩, ⟨1, ⟨#[108, 101, 115, 115]⟩, ⟨#[]⟩, [2, 2]⟩, ⟨1, ⟨#[109, 97, 116, 99, 104]⟩, ⟨#[92, 117, 43]⟩, [3]⟩, ⟨2, ⟨#[99, 111, 108]⟩, ⟨#[110]⟩, []⟩, ⟨2, ⟨#[110, 117, 109, 98, 101, 114]⟩, ⟨#[49, 48]⟩, []⟩, ⟨3, ⟨#[99, 111, 108]⟩, ⟨#[115]⟩, []⟩, ⟨3, ⟨#[116, 101, 120, 116]⟩, ⟨#[104, 105, 103, 104]⟩, []⟩], 0, [[0, 2, 0, 0, 0, 8], [0, 0, 2, 4, 0, 0], [0, 2, 0, 0, 0, 0], [0, 2, 0, 0, 0, 0]]⟩
def sm5 : Sample := ⟨⟨#[116, 97, 98, 108, 101, 115]⟩, 1, [(⟨#[105, 116, 101, 109, 115]⟩, 5), (⟨#[107]⟩, 1)], [(⟨#[78]⟩, 2), (⟨#[88]⟩, 5), (⟨#[84]⟩, 1)], [⟨0, ⟨#[115, 117, 109]⟩, ⟨#[97, 109, 111, 117, 110, 116, 62, 61, 48]⟩, [1]⟩, ⟨0, ⟨#[99, 111, 117, 110, 116]⟩, ⟨#[]⟩, [1]⟩, ⟨0, ⟨#[97, 100, 100]⟩, ⟨#[]⟩, [0, 0]⟩, ⟨1, ⟨#[99, 111, 108]⟩, ⟨#[105, 116, 101, 109, 115]⟩, []⟩, ⟨1, ⟨#[119, 104, 101, 114, 101]⟩, ⟨#[107, 105, 110, 100]⟩, [1, 2]⟩, ⟨2, ⟨#[99, 111, 108]⟩, ⟨#[107]⟩, []⟩, ⟨2, ⟨#[116, 101, 120, 116]⟩, ⟨#[97]⟩, []⟩], 0, [[0, 0, 2, 0, 4, 4], [0, 1, 0, 2, 0, 4], [0, 2, 0, 0, 0, 0]]⟩

def ruleB (sn : Nat) (r : Rl) : Bool := Nat.blt r.h sn && Nat.ble r.args.length 3 && r.args.all (fun a => Nat.blt a sn) && Nat.ble r.op.size 60 && Nat.ble r.pa.size 60
def sokB (S : Sample) : Bool := Nat.ble S.nm.size 60 && Nat.ble S.ver 1000000000 && Nat.blt 0 S.cols.length && Nat.ble S.cols.length 8 && S.cols.all (fun c => Nat.ble c.1.size 60) && Nat.blt 0 S.syms.length && Nat.ble S.syms.length 12 && S.syms.all (fun c => Nat.ble c.1.size 60) && Nat.ble S.rules.length 40 && Nat.blt S.st S.syms.length && needB S.U S.rules && S.rules.all (ruleB S.syms.length)
theorem sokB_ok {S : Sample} (h : sokB S = true) : SOk S := by
  simp only [sokB, Bool.and_eq_true] at h
  obtain ⟨⟨⟨⟨⟨⟨⟨⟨⟨⟨⟨h1, h2⟩, h3⟩, h4⟩, h5⟩, h6⟩, h7⟩, h8⟩, h9⟩, h10⟩, h11⟩, h12⟩ := h
  have k : ∀ n, n ≤ 60 → n ≤ maxLen := fun n hn => Nat.le_trans hn (by decide)
  refine ⟨k _ (by simpa using h1), by simpa using h2, by simpa using h3, by simpa using h4, fun c hc => k _ (by simpa using List.all_eq_true.1 h5 c hc), by simpa using h6, by simpa using h7, fun c hc => k _ (by simpa using List.all_eq_true.1 h8 c hc), by simpa using h9, by simpa using h10, needB_ok h11, fun r hr => ?_⟩
  have := List.all_eq_true.1 h12 r hr
  simp only [ruleB, Bool.and_eq_true] at this
  obtain ⟨⟨⟨⟨g1, g2⟩, g3⟩, g4⟩, g5⟩ := this
  exact ⟨by simpa using g1, by simpa using g2, fun a ha => by simpa using List.all_eq_true.1 g3 a ha, k _ (by simpa using g4), k _ (by simpa using g5)⟩

def sm (n : Nat) : Sample := if n = 0 then sm0 else if n = 1 then sm1 else if n = 2 then sm2 else if n = 3 then sm3 else if n = 4 then sm4 else sm5

theorem sm0_ok : SOk sm0 := sokB_ok (by kernel_rfl)
theorem sm1_ok : SOk sm1 := sokB_ok (by kernel_rfl)
theorem sm2_ok : SOk sm2 := sokB_ok (by kernel_rfl)
theorem sm3_ok : SOk sm3 := sokB_ok (by kernel_rfl)
theorem sm4_ok : SOk sm4 := sokB_ok (by kernel_rfl)
theorem sm5_ok : SOk sm5 := sokB_ok (by kernel_rfl)
theorem sm_ok (n : Nat) : SOk (sm n) := by
  unfold sm
  split
  · exact sm0_ok
  split
  · exact sm1_ok
  split
  · exact sm2_ok
  split
  · exact sm3_ok
  split
  · exact sm4_ok
  · exact sm5_ok

def avS (s : ByteArray) : AV := .str (s.data.toList.map UInt8.toNat)
def colsAV : List (ByteArray × Nat) → List AV
  | [] => []
  | c :: l => avS c.1 :: .int .i64 (.ofNat c.2) :: colsAV l
def isI64 : AV → Bool
  | .int .i64 _ => true
  | _ => false
def intsOk (h : H) : AV → Bool
  | .nilslice => true
  | .slice b 0 l 1 _ => Nat.ble l 100 && (match h.get b with | some (.cells _ vs _ _) => Nat.ble l vs.length && (vs.take l).all isI64 | _ => false)
  | _ => false
def tyOk (l : Blks) (x : Option (AV × H)) : Bool := match x with
  | some (.tup [a, .int .i64 _, .int .i64 _], h) => hasAll h l && intsOk h a
  | _ => false
def tyBlks (S : Sample) : Blks := baseRo ++ [(21, .ro 88 (colsAV S.cols))]
noncomputable def tyRun (S : Sample) (r : Rl) : Option (AV × H) := (envK Tryz.prog ext tabT.find 300).call 98 [avS r.op, avS r.pa, baseAV, .slice 21 0 S.cols.length 2 none] (putL ⟨.e, 22⟩ (tyBlks S))
noncomputable def tyAll (S : Sample) : Bool := S.rules.all fun r => tyOk (tyBlks S) (tyRun S r)
def baseChk (x : Option (AV × H)) : Bool := match x with
  | some (v, h) => AV.beq v baseAV && Nat.beq h.nx 21 && roFrom h baseRo
  | none => false

end Go.EvNil

namespace Go.EvNil
open Go Go.Ev Go.Proofs
set_option maxRecDepth 100000

def blkB (h : H) (b e o : Nat) (l : List AV) : Bool := match h.get b with
  | some (.cells e' vs _ _) => Nat.beq e e' && AV.beqL ((vs.drop o).take l.length) l
  | _ => false
def symsAV : List (ByteArray × Nat) → List Nat → List AV
  | c :: l, m :: ms => avS c.1 :: .int .i64 (.ofNat c.2) :: .int .i64 (.ofNat m) :: symsAV l ms
  | _, _ => []
def argsAV : List Nat → List AV
  | [] => []
  | a :: l => .int .i64 (.ofNat a) :: argsAV l
def argsB (h : H) (a : AV) (args : List Nat) : Bool := match a with
  | .slice b o l 1 _ => Nat.beq l args.length && blkB h b 3 o (argsAV args)
  | .etail _ _ _ _ => args.isEmpty
  | _ => false
def rulesL (h : H) : List AV → List Rl → Bool
  | _, [] => true
  | hd :: op :: pa :: a :: vs, r :: l => AV.beq hd (.int .i64 (.ofNat r.h)) && AV.beq op (avS r.op) && AV.beq pa (avS r.pa) && argsB h a r.args && rulesL h vs l
  | _, _ => false
def rulesB (h : H) (b o : Nat) (l : List Rl) : Bool := match h.get b with
  | some (.cells e vs _ _) => Nat.beq e 112 && rulesL h (vs.drop o) l
  | _ => false
def gramB (S : Sample) (Ms : List Nat) (x : Option (AV × H)) : Bool := match x with
  | some (.tup [.agg [nm, ver, .slice cb co cn 2 _, .slice sb so sn 3 _, .slice rb ro rn 4 _, st], .int .i64 _, .int .i64 _], h) =>
    AV.beq nm (avS S.nm) && AV.beq ver (.int .i64 (.ofNat S.ver)) && AV.beq st (.int .i64 (.ofNat S.st)) && Nat.beq cn S.cols.length && Nat.beq sn S.syms.length && Nat.beq rn S.rules.length && Nat.beq Ms.length S.syms.length && Ms.all (fun m => Nat.ble 1 m && Nat.ble m 5) &&
    blkB h cb 88 co (colsAV S.cols) && blkB h sb 75 so (symsAV S.syms Ms) && rulesB h rb ro S.rules
  | _ => false
end Go.EvNil
