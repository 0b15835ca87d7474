/- ItemPartials, one part of the proof: PropX, PartT0, PartTy0, PartTy1, PartTy2, PartTy3, PartTy4, PartTy5, PartW17, PartW20. -/
import Derived.Test.YtljoobbnhbaklaaGreatDoorP06
import Derived.Test.YtljoobbnhbaklaaGreatDoorP07
import Derived.Test.YtljoobbnhbaklaaGreatDoorP01
import Derived.Deep.CutBlock
set_option linter.all false
set_option maxRecDepth 100000
set_option maxHeartbeats 16000000
namespace Go.EvProp
open Go Go.Ev Go.Proofs
def lift1 (F : List AV -> Option AV) : List AV -> H -> Option (AV × H) := fun a hh => match F a with | some v => some (v, hh) | none => none
def ext0 : Ext1 := fun f => bif Nat.beq f 184 then some (lift1 sameV) else bif Nat.beq f 373 then some (lift1 indexByteV) else bif Nat.beq f 295 then some (lift1 countV) else bif Nat.beq f 216 then some (noZeroV 5) else none
theorem follows : Tryz.prog.follows .mixedOrders = true := by kernel_rfl
theorem eNoEscape : Entry Tryz.prog 184 Extern.AbiNoEscape.same := Entry.of Tryz.func184 (by kernel_rfl) (by kernel_rfl) (by kernel_rfl) (by kernel_rfl)
theorem eIndexByte : Entry Tryz.prog 373 Extern.BytealgIndexByte.indexByte := Entry.of Tryz.func373 (by kernel_rfl) (by kernel_rfl) (by kernel_rfl) (by kernel_rfl)
theorem eCount : Entry Tryz.prog 295 Extern.BytealgCount.count := Entry.of Tryz.func295 (by kernel_rfl) (by kernel_rfl) (by kernel_rfl) (by kernel_rfl)
theorem eNoZero : Entry Tryz.prog 216 (Extern.BytealgMakeNoZero.makeNoZero #[3] #[121]) := Entry.of Tryz.func216 (by kernel_rfl) (by kernel_rfl) (by kernel_rfl) (by kernel_rfl)
theorem ext0_ok {ρ : Rho} (f : FuncId) (F : List AV -> H -> Option (AV × H)) (h : ext0 f = some F) : FnOk Tryz.prog ρ f F := by
 unfold ext0 at h
 simp only [bif_beq] at h
 split at h
 · rename_i e; subst e; cases h; exact noEscape_ok eNoEscape
 split at h
 · rename_i e; subst e; cases h; exact indexByte_ok eIndexByte
 split at h
 · rename_i e; subst e; cases h; exact count_ok eCount
 split at h
 · rename_i e; subst e; cases h; exact noZero_ok eNoZero Tryz.underlying121
 · cases h
end Go.EvProp
namespace Go.EvPart.N
open Go Go.Ev Go.Proofs Go.EvNil Go.EvProp
def baseAV : AV := .slice 20 0 1 3 none
def baseRo : Blks := [(13, .ro 9 [.str [99, 111, 100, 101], .str [112, 114, 105, 99, 101], .str [110, 97, 109, 101]]), (16, .ro 38 [.int .i64 (.ofNat 1), .str [65], .int .i64 (.ofNat 0), .int .i64 (.ofNat 0), .int .i64 (.ofNat 0), .nilslice, .nilslice, .int .i64 (.ofNat 2), .str [], .int .i64 (.ofNat 25), .int .i64 (.ofNat 1), .int .i64 (.ofNat 0), .nilslice, .nilslice, .int .i64 (.ofNat 1), .str [97, 112, 112, 108, 101], .int .i64 (.ofNat 0), .int .i64 (.ofNat 0), .int .i64 (.ofNat 0), .nilslice, .nilslice]), (17, .ro 38 [.int .i64 (.ofNat 1), .str [66], .int .i64 (.ofNat 0), .int .i64 (.ofNat 0), .int .i64 (.ofNat 0), .nilslice, .nilslice, .int .i64 (.ofNat 2), .str [], .int .i64 (.ofNat 3), .int .i64 (.ofNat 0), .int .i64 (.ofNat 0), .nilslice, .nilslice, .int .i64 (.ofNat 1), .str [98, 114, 101, 97, 100], .int .i64 (.ofNat 0), .int .i64 (.ofNat 0), .int .i64 (.ofNat 0), .nilslice, .nilslice]), (18, .ro 32 [.slice 16 0 3 7 none, .slice 17 0 3 7 none]), (20, .ro 104 [.str [112, 114, 105, 99, 101, 115], .slice 13 0 3 1 none, .slice 18 0 2 1 none])]
def sm0 : Sample := ⟨⟨#[116, 101, 120, 116, 115]⟩, 1, [(⟨#[97]⟩, 1), (⟨#[98]⟩, 1)], [(⟨#[84]⟩, 1), (⟨#[85]⟩, 1)], [⟨0, ⟨#[99, 111, 108]⟩, ⟨#[97]⟩, []⟩, ⟨0, ⟨#[99, 111, 108]⟩, ⟨#[98]⟩, []⟩, ⟨0, ⟨#[99, 111, 110, 99, 97, 116]⟩, ⟨#[]⟩, [1, 0]⟩, ⟨0, ⟨#[117, 112, 112, 101, 114]⟩, ⟨#[]⟩, [1]⟩, ⟨1, ⟨#[99, 111, 108]⟩, ⟨#[97]⟩, []⟩, ⟨1, ⟨#[116, 101, 120, 116]⟩, ⟨#[45]⟩, []⟩, ⟨1, ⟨#[101, 120, 116, 114, 97, 99, 116]⟩, ⟨#[92, 100, 43, 35, 49]⟩, [1]⟩], 0, [[0, 2, 2, 6, 10, 22], [0, 2, 2, 2, 2, 2]]⟩
def sm1 : Sample := ⟨⟨#[110, 117, 109, 98, 101, 114, 115]⟩, 1, [(⟨#[110]⟩, 2), (⟨#[109]⟩, 2)], [(⟨#[78]⟩, 2), (⟨#[77]⟩, 2)], [⟨0, ⟨#[99, 111, 108]⟩, ⟨#[110]⟩, []⟩, ⟨0, ⟨#[99, 111, 108]⟩, ⟨#[109]⟩, []⟩, ⟨0, ⟨#[97, 100, 100]⟩, ⟨#[]⟩, [1, 0]⟩, ⟨0, ⟨#[109, 117, 108]⟩, ⟨#[]⟩, [0, 1]⟩, ⟨1, ⟨#[110, 117, 109, 98, 101, 114]⟩, ⟨#[50]⟩, []⟩, ⟨1, ⟨#[99, 111, 108]⟩, ⟨#[109]⟩, []⟩, ⟨1, ⟨#[114, 111, 117, 110, 100]⟩, ⟨#[49]⟩, [1]⟩], 0, [[0, 2, 0, 8, 8, 40], [0, 2, 2, 2, 2, 2]]⟩
def sm2 : Sample := ⟨⟨#[100, 97, 116, 101, 115]⟩, 1, [(⟨#[100]⟩, 3), (⟨#[101]⟩, 3), (⟨#[110]⟩, 2)], [(⟨#[68]⟩, 3), (⟨#[78]⟩, 2), (⟨#[69]⟩, 3)], [⟨0, ⟨#[99, 111, 108]⟩, ⟨#[100]⟩, []⟩, ⟨0, ⟨#[100, 97, 121, 115]⟩, ⟨#[]⟩, [0, 1]⟩, ⟨1, ⟨#[99, 111, 108]⟩, ⟨#[110]⟩, []⟩, ⟨1, ⟨#[110, 117, 109, 98, 101, 114]⟩, ⟨#[55]⟩, []⟩, ⟨1, ⟨#[98, 101, 116, 119, 101, 101, 110]⟩, ⟨#[]⟩, [2, 2]⟩, ⟨2, ⟨#[99, 111, 108]⟩, ⟨#[100]⟩, []⟩, ⟨2, ⟨#[99, 111, 108]⟩, ⟨#[101]⟩, []⟩], 0, [[0, 1, 0, 2, 0, 8], [0, 2, 0, 4, 0, 0], [0, 2, 0, 0, 0, 0]]⟩
def sm3 : Sample := ⟨⟨#[108, 111, 111, 107, 117, 112, 115]⟩, 1, [(⟨#[99, 111, 100, 101]⟩, 1), (⟨#[110]⟩, 2)], [(⟨#[78]⟩, 2), (⟨#[84]⟩, 1)], [⟨0, ⟨#[108, 111, 111, 107, 117, 112]⟩, ⟨#[112, 114, 105, 99, 101, 115, 46, 99, 111, 100, 101, 46, 112, 114, 105, 99, 101, 58, 110, 117, 109, 98, 101, 114]⟩, [1]⟩, ⟨0, ⟨#[99, 111, 108]⟩, ⟨#[110]⟩, []⟩, ⟨0, ⟨#[109, 117, 108]⟩, ⟨#[]⟩, [0, 0]⟩, ⟨1, ⟨#[99, 111, 108]⟩, ⟨#[99, 111, 100, 101]⟩, []⟩, ⟨1, ⟨#[117, 112, 112, 101, 114]⟩, ⟨#[]⟩, [1]⟩, ⟨1, ⟨#[116, 101, 120, 116]⟩, ⟨#[65]⟩, []⟩], 0, [[0, 1, 2, 3, 6, 12], [0, 2, 2, 2, 2, 2]]⟩
def sm4 : Sample := ⟨⟨#[99, 104, 111, 105, 99, 101, 115]⟩, 1, [(⟨#[115]⟩, 1), (⟨#[110]⟩, 2)], [(⟨#[84]⟩, 1), (⟨#[66]⟩, 4), (⟨#[78]⟩, 2), (⟨#[67]⟩, 1)], [⟨0, ⟨#[99, 111, 108]⟩, ⟨#[115]⟩, []⟩, ⟨0, ⟨#[116, 101, 120, 116]⟩, ⟨#[108, 111, 119]⟩, []⟩, ⟨0, ⟨#[105, 102]⟩, ⟨#[116, 101, 120, 116]⟩, [1, 3, 0]⟩, ⟨1, ⟨#[108, 101, 115, 115]⟩, ⟨#[]⟩, [2, 2]⟩, ⟨1, ⟨#[109, 97, 116, 99, 104]⟩, ⟨#[92, 117, 43]⟩, [3]⟩, ⟨2, ⟨#[99, 111, 108]⟩, ⟨#[110]⟩, []⟩, ⟨2, ⟨#[110, 117, 109, 98, 101, 114]⟩, ⟨#[49, 48]⟩, []⟩, ⟨3, ⟨#[99, 111, 108]⟩, ⟨#[115]⟩, []⟩, ⟨3, ⟨#[116, 101, 120, 116]⟩, ⟨#[104, 105, 103, 104]⟩, []⟩], 0, [[0, 2, 0, 0, 0, 8], [0, 0, 2, 4, 0, 0], [0, 2, 0, 0, 0, 0], [0, 2, 0, 0, 0, 0]]⟩
def sm5 : Sample := ⟨⟨#[116, 97, 98, 108, 101, 115]⟩, 1, [(⟨#[105, 116, 101, 109, 115]⟩, 5), (⟨#[107]⟩, 1)], [(⟨#[78]⟩, 2), (⟨#[88]⟩, 5), (⟨#[84]⟩, 1)], [⟨0, ⟨#[115, 117, 109]⟩, ⟨#[97, 109, 111, 117, 110, 116, 62, 61, 48]⟩, [1]⟩, ⟨0, ⟨#[99, 111, 117, 110, 116]⟩, ⟨#[]⟩, [1]⟩, ⟨0, ⟨#[97, 100, 100]⟩, ⟨#[]⟩, [0, 0]⟩, ⟨1, ⟨#[99, 111, 108]⟩, ⟨#[105, 116, 101, 109, 115]⟩, []⟩, ⟨1, ⟨#[119, 104, 101, 114, 101]⟩, ⟨#[107, 105, 110, 100]⟩, [1, 2]⟩, ⟨2, ⟨#[99, 111, 108]⟩, ⟨#[107]⟩, []⟩, ⟨2, ⟨#[116, 101, 120, 116]⟩, ⟨#[97]⟩, []⟩], 0, [[0, 0, 2, 0, 4, 4], [0, 1, 0, 2, 0, 4], [0, 2, 0, 0, 0, 0]]⟩
def ruleB (sn : Nat) (r : Rl) : Bool := Nat.blt r.h sn && Nat.ble r.args.length 3 && r.args.all (fun a => Nat.blt a sn) && Nat.ble r.op.size 60 && Nat.ble r.pa.size 60
def sokB (S : Sample) : Bool := Nat.ble S.nm.size 60 && Nat.ble S.ver 1000000000 && Nat.blt 0 S.cols.length && Nat.ble S.cols.length 8 && S.cols.all (fun c => Nat.ble c.1.size 60) && Nat.blt 0 S.syms.length && Nat.ble S.syms.length 12 && S.syms.all (fun c => Nat.ble c.1.size 60) && Nat.ble S.rules.length 40 && Nat.blt S.st S.syms.length && needB S.U S.rules && S.rules.all (ruleB S.syms.length)
theorem sokB_ok {S : Sample} (h : sokB S = true) : SOk S := by
 simp only [sokB, Bool.and_eq_true] at h
 obtain ⟨⟨⟨⟨⟨⟨⟨⟨⟨⟨⟨h1, h2⟩, h3⟩, h4⟩, h5⟩, h6⟩, h7⟩, h8⟩, h9⟩, h10⟩, h11⟩, h12⟩ := h
 have k : ∀ n, n <= 60 -> n <= maxLen := fun n hn => Nat.le_trans hn (by decide)
 refine ⟨k _ (by simpa using h1), by simpa using h2, by simpa using h3, by simpa using h4, fun c hc => k _ (by simpa using List.all_eq_true.1 h5 c hc), by simpa using h6, by simpa using h7, fun c hc => k _ (by simpa using List.all_eq_true.1 h8 c hc), by simpa using h9, by simpa using h10, needB_ok h11, fun r hr => ?_⟩
 have := List.all_eq_true.1 h12 r hr
 simp only [ruleB, Bool.and_eq_true] at this
 obtain ⟨⟨⟨⟨g1, g2⟩, g3⟩, g4⟩, g5⟩ := this
 exact ⟨by simpa using g1, by simpa using g2, fun a ha => by simpa using List.all_eq_true.1 g3 a ha, k _ (by simpa using g4), k _ (by simpa using g5)⟩
def sm (n : Nat) : Sample := if n = 0 then sm0 else if n = 1 then sm1 else if n = 2 then sm2 else if n = 3 then sm3 else if n = 4 then sm4 else sm5
theorem sm0_ok : SOk sm0 := sokB_ok (by kernel_rfl)
theorem sm1_ok : SOk sm1 := sokB_ok (by kernel_rfl)
theorem sm2_ok : SOk sm2 := sokB_ok (by kernel_rfl)
theorem sm3_ok : SOk sm3 := sokB_ok (by kernel_rfl)
theorem sm4_ok : SOk sm4 := sokB_ok (by kernel_rfl)
theorem sm5_ok : SOk sm5 := sokB_ok (by kernel_rfl)
theorem sm_ok (n : Nat) : SOk (sm n) := by
 unfold sm
 split
 · exact sm0_ok
 split
 · exact sm1_ok
 split
 · exact sm2_ok
 split
 · exact sm3_ok
 split
 · exact sm4_ok
 · exact sm5_ok
def avS (s : ByteArray) : AV := .str (s.data.toList.map UInt8.toNat)
def colsAV : List (ByteArray × Nat) -> List AV
 | [] => []
 | c :: l => avS c.1 :: .int .i64 (.ofNat c.2) :: colsAV l
def isI64 : AV -> Bool
 | .int .i64 _ => true
 | _ => false
def intsOk (h : H) : AV -> Bool
 | .nilslice => true
 | .slice b 0 l 1 _ => Nat.ble l 100 && (match h.get b with | some (.cells _ vs _ _) => Nat.ble l vs.length && (vs.take l).all isI64 | _ => false)
 | _ => false
def tyOk (l : Blks) (x : Option (AV × H)) : Bool := match x with
 | some (.tup [a, .int .i64 _, .int .i64 _], h) => hasAll h l && intsOk h a
 | _ => false
def tyBlks (S : Sample) : Blks := baseRo ++ [(21, .ro 131 (colsAV S.cols))]
noncomputable def tyRun (S : Sample) (r : Rl) : Option (AV × H) := (envK Tryz.prog ext0 tabT.find 300).call 99 [avS r.op, avS r.pa, baseAV, .slice 21 0 S.cols.length 2 none] (putL ⟨.e, 22⟩ (tyBlks S))
noncomputable def tyAll (S : Sample) : Bool := S.rules.all fun r => tyOk (tyBlks S) (tyRun S r)
def baseChk (x : Option (AV × H)) : Bool := match x with
 | some (v, h) => AV.beq v baseAV && Nat.beq h.nx 21 && roFrom h baseRo
 | none => false
end Go.EvPart.N
namespace Go.EvPart.N
open Go Go.Ev Go.Proofs Go.EvNil Go.EvProp
theorem ty0 : tyAll sm0 = true := by kernel_rfl
theorem base_run : baseChk ((envK Tryz.prog ext0 tabT.find 300).call 17 [.nilslice] (putL ⟨.e, 13⟩ [])) = true := by kernel_rfl
end Go.EvPart.N
namespace Go.EvPart.N
open Go Go.Ev Go.Proofs Go.EvNil Go.EvProp
theorem ty1 : tyAll sm1 = true := by kernel_rfl
end Go.EvPart.N
namespace Go.EvPart.N
open Go Go.Ev Go.Proofs Go.EvNil Go.EvProp
theorem ty2 : tyAll sm2 = true := by kernel_rfl
end Go.EvPart.N
namespace Go.EvPart.N
open Go Go.Ev Go.Proofs Go.EvNil Go.EvProp
theorem ty3 : tyAll sm3 = true := by kernel_rfl
end Go.EvPart.N
namespace Go.EvPart.N
open Go Go.Ev Go.Proofs Go.EvNil Go.EvProp
theorem ty4 : tyAll sm4 = true := by kernel_rfl
end Go.EvPart.N
namespace Go.EvPart.N
open Go Go.Ev Go.Proofs Go.EvNil Go.EvProp
theorem ty5 : tyAll sm5 = true := by kernel_rfl
end Go.EvPart.N
namespace Go.EvPart.N
open Go Go.Ev Go.Proofs Go.RowKit Go.EvNil Go.EvProp
def sig0 : Sig := fun g => if g < 13 then some ⟨g, 0, 0⟩ else none
theorem rho_of (l : Nat -> Option Loop) (z : Nat -> Nat × Nat) (t : Nat -> Array Value) : ∃ ρ : Rho, ρ.loops = l /\ ρ.fz = z /\ ρ.tl = t := ⟨⟨fun _ => undef, l, z, t⟩, rfl, rfl, rfl⟩
theorem ty_all (n : Nat) : tyAll (sm n) = true := by
 unfold sm
 split
 · exact ty0
 split
 · exact ty1
 split
 · exact ty2
 split
 · exact ty3
 split
 · exact ty4
 · exact ty5
def BaseOk (w : World) (v : Value) : Prop := ∃ (ρ : Rho) (σ : Sig) (h : H), ρ.loops = loopsOf Tryz.prog /\ GOk Tryz.prog σ /\ HRel ρ σ h w /\ h.nx = 21 /\ roFrom h baseRo = true /\ conc ρ σ baseAV = some v
theorem BaseOk.below {w w' : World} {v : Value} (h : BaseOk w v) (hb : Below w.heap.size w w') : BaseOk w' v := by
 obtain ⟨ρ, σ, h, h1, h2, h3, h4⟩ := h
 exact ⟨ρ, σ, h, h1, h2, h3.below hb, h4⟩
theorem conc_avS (ρ : Rho) (σ : Sig) (s : ByteArray) : conc ρ σ (avS s) = some (.string s) := by
 have h1 : (s.data.toList.map UInt8.toNat).all (fun n => decide (n < 256)) = true := by
   simp only [List.all_eq_true, List.mem_map, decide_eq_true_eq]
   rintro x ⟨c, _, rfl⟩
   exact UInt8.toNat_lt c
 have h2 : bytesOf (s.data.toList.map UInt8.toNat) = s := by
   cases s with
   | mk d =>
     simp only [bytesOf, List.map_map]
     have : (UInt8.ofNat ∘ UInt8.toNat) = id := by funext x; simp
     simp [this]
 simp only [avS, conc]
 rw [if_pos h1, h2]
def colsV : List (ByteArray × Nat) -> List Value
 | [] => []
 | c :: l => .string c.1 :: .int .i64 c.2 :: colsV l
theorem concL_cols (ρ : Rho) (σ : Sig) : ∀ cs, concL ρ σ (colsAV cs) = some (colsV cs)
 | [] => by simp [colsAV, colsV, concL]
 | c :: l => by simp [colsAV, colsV, concL, conc_avS, conc, concL_cols ρ σ l]
theorem cols_prefix {arr : Array Value} : ∀ (cs : List (ByteArray × Nat)) (o : Nat), (∀ i (hi : i < cs.length), arr[o + i * 2]? = some (.string cs[i].1) /\ arr[o + i * 2 + 1]? = some (.int .i64 cs[i].2)) -> ∀ i, i < (colsV cs).length -> arr[o + i]? = (colsV cs)[i]?
 | [], o, h, i, hi => by simp [colsV] at hi
 | c :: l, o, h, i, hi => by
   match i with
   | 0 => have h0 := (h 0 (Nat.succ_pos _)).1; simp only [Nat.zero_mul, Nat.add_zero] at h0 ⊢; exact h0
   | 1 => have h0 := (h 0 (Nat.succ_pos _)).2; simp only [Nat.zero_mul, Nat.add_zero] at h0 ⊢; exact h0
   | i + 2 =>
     have ih := cols_prefix l (o + 2) (fun j hj => by
       have := h (j + 1) (by simpa using hj)
       simp only [List.getElem_cons_succ] at this
       rw [show o + 2 + j * 2 = o + (j + 1) * 2 by omega]
       exact this) i (by simp [colsV] at hi; omega)
     rw [show o + (i + 2) = o + 2 + i by omega, ih]
     simp [colsV]
theorem colsAV_length : ∀ cs, (colsAV cs).length = (colsV cs).length
 | [] => rfl
 | c :: l => by simp [colsAV, colsV, colsAV_length l]
def RetTy (e : Ending) (w' : World) : Prop := ∃ aa al ac k er, e = .returned (.tuple #[.slice aa al ac, .int .i64 k, .int .i64 er]) /\ Ints w' aa al
theorem intsOk_ints {ρ : Rho} {σ : Sig} {h : H} {w : World} {a : AV} {c : Value} (hi : intsOk h a = true) (hH : HRel ρ σ h w) (hc : conc ρ σ a = some c) : ∃ aa al ac, c = .slice aa al ac /\ Ints w aa al := by
 unfold intsOk at hi
 split at hi
 · simp only [conc, Option.some.injEq] at hc
   subst hc
   exact ⟨none, 0, 0, rfl, by omega, fun h => by omega⟩
 · rename_i b l cap
   simp only [conc, Option.map_eq_some_iff] at hc
   obtain ⟨p, hp, rfl⟩ := hc
   simp only [Bool.and_eq_true] at hi
   obtain ⟨h1, h2⟩ := hi
   have h1 : l <= 100 := by simpa using h1
   split at h2
   · rename_i e vs t wr hb
     simp only [Bool.and_eq_true] at h2
     obtain ⟨h2, h3⟩ := h2
     have h2 : l <= vs.length := by simpa using h2
     obtain ⟨q, arr, fz, cs, hq, g1, g2, g3, g4, g5, g6, _⟩ := hH.cells hb
     obtain rfl : p = q := Option.some.inj (hp.symm.trans hq)
     refine ⟨_, _, _, rfl, by omega, fun _ => ⟨p.blk, p.del + 0, rfl, (Array.getElem?_eq_some_iff.1 g1).1, fun i hi => ?_⟩⟩
     have hlt : i < vs.length := by omega
     have hv : isI64 vs[i] = true := List.all_eq_true.1 h3 _ (by
       rw [List.mem_iff_getElem?]
       exact ⟨i, by rw [List.getElem?_take, if_pos hi]; simp [hlt]⟩)
     obtain ⟨x, hx, hcx⟩ := concL_get g5 (i := i) (v := vs[i]) (by simp [hlt])
     have hcell := g6 i hlt
     rw [hx] at hcell
     generalize vs[i] = u at hv hcx
     cases u with
     | int k n =>
       cases k with
       | i64 =>
         simp only [conc, Option.some.injEq] at hcx
         subst hcx
         exact ⟨n, by rw [Nat.add_zero]; exact hcell⟩
       | _ => cases hv
     | _ => cases hv
   · cases h2
 · cases hi
theorem ext98 : ext0 99 = none := by kernel_rfl
theorem ext9 : ext0 17 = none := by kernel_rfl
theorem ext15 : ext0 12 = none := by kernel_rfl
theorem smallB : small baseRo = true := by kernel_rfl
def no88 (l : Blks) : Bool := l.all fun p => match p.2 with | .ro e _ => !(Nat.beq e 131) | _ => false
theorem no88B : no88 baseRo = true := by kernel_rfl
theorem small_app {a b : Blks} (h1 : small a = true) (h2 : small b = true) : small (a ++ b) = true := by
 simp only [small, List.all_append, Bool.and_eq_true]
 exact ⟨h1, h2⟩
theorem types_any (S : Sample) (hty : tyAll S = true) (r : Rl) (hr : r ∈ S.rules) (w : World) (bv : Value) (ca : Option Addr) (cc : Nat) (hB : BaseOk w bv) (hC : ColsAt w ca S.cols) :
   Calls Tryz.prog 99 #[.string r.op, .string r.pa, bv, .slice ca S.cols.length cc] w fun e w' => RetTy e w' /\ Below w.heap.size w w' := by
 obtain ⟨ρ, σ, h, hρ, hg, hH, hnx, hro, hbv⟩ := hB
 obtain ⟨cb, o, arr, fz, rfl, hblk, hc⟩ := hC
 have hfr : ∀ b, 21 <= b -> σ b = none := fun b hb => hH.fresh b (by omega)
 have hne : ∀ b p, σ b = some p -> b ≠ 21 := fun b p hb e => by rw [e, hfr 21 (by omega)] at hb; cases hb
 obtain ⟨σ2, hσ2⟩ : ∃ σ2 : Sig, σ2 = fun b => if b = 21 then some ⟨cb, o, 2 * cc⟩ else σ b := ⟨_, rfl⟩
 have hx : Ext σ σ2 := fun b p hb => by rw [hσ2]; simp only; rw [if_neg (hne b p hb)]; exact hb
 have h21 : σ2 21 = some ⟨cb, o, 2 * cc⟩ := by rw [hσ2]; simp
 have hsm : small (tyBlks S) = true := small_app smallB (by simp [small, maxT])
 have har : allRo (tyBlks S) = true := by
   have h1 : allRo baseRo = true := by kernel_rfl
   simp only [allRo] at h1
   simp only [allRo, tyBlks, List.all_append, Bool.and_eq_true]
   exact ⟨h1, by simp [ABlk.isRo]⟩
 have base : ∀ b x, (b, x) ∈ baseRo -> ∃ p e vs, x = .ro e vs /\ σ b = some p /\ e ≠ 131 /\ (∃ arr fz, w.heap[p.blk]? = some (.cells arr e fz)) /\ ORel (ρ.at w) σ p w.heap[p.blk]? (.ro e vs) := fun b x hm => by
   obtain ⟨e, vs, t, wr, rfl, hgt⟩ := roFrom_mem hro hm
   obtain ⟨p, hp, hO⟩ := hH.blk b _ hgt
   have h88 := List.all_eq_true.1 no88B _ hm
   refine ⟨p, e, vs, rfl, hp, fun e1 => ?_, ?_, ro_at hO⟩
   · subst e1; simp at h88
   · obtain ⟨arr, fz, h1, _⟩ := hO; exact ⟨arr, fz, h1⟩
 have mem : ∀ b x, (putL ⟨.e, 22⟩ (tyBlks S)).get b = some x -> (b, x) ∈ baseRo ∨ (b = 21 /\ x = .ro 131 (colsAV S.cols)) := fun b x hb => by
   rcases List.mem_append.1 (putE_get hsm hb) with h1 | h1
   · exact .inl h1
   · simp only [List.mem_singleton, Prod.mk.injEq] at h1; exact .inr h1
 have hcont : contOf w cb = arr := by simp [contOf, hblk]
 have hfz : fzOf w cb = fz := by simp [fzOf, hblk]
 have hH2 : HRel (ρ.at w) σ2 (putL ⟨.e, 22⟩ (tyBlks S)) w := by
   refine ⟨fun b x hb => ?_, fun b b' x x' p p' hb hb' hp hp' hbb => ?_, fun b hb => ?_⟩
   · rcases mem b x hb with h1 | ⟨rfl, rfl⟩
     · obtain ⟨p, e, vs, rfl, hp, _, _, hO⟩ := base b x h1
       exact ⟨p, hx b p hp, hO.ext hx⟩
     · refine ⟨_, h21, colsV S.cols, concL_cols _ _ _, ?_, fun i hi => ?_⟩
       · show w.heap[cb]? = some (Obj.cells (contOf w cb) 131 (fzOf w cb))
         rw [hcont, hfz]; exact hblk
       · show (contOf w cb)[o + i]? = _
         rw [hcont]
         exact cols_prefix S.cols o hc i (by rw [← colsAV_length]; exact hi)
   · have mixed : ∀ b x p, (b, x) ∈ baseRo -> σ2 b = some p -> p.blk ≠ cb := fun b x p h1 h2 e => by
       obtain ⟨q, e1, vs, _, hq, h88, ⟨arr', fz', hw⟩, _⟩ := base b x h1
       obtain rfl : p = q := Option.some.inj (h2.symm.trans (hx b q hq))
       rw [e, hblk] at hw
       cases hw
       exact h88 rfl
     rcases mem b x hb with h1 | ⟨rfl, rfl⟩ <;> rcases mem b' x' hb' with h2 | ⟨rfl, rfl⟩
     · obtain ⟨e, vs, t, wr, rfl, hgt⟩ := roFrom_mem hro h1
       obtain ⟨e', vs', t', wr', rfl, hgt'⟩ := roFrom_mem hro h2
       obtain ⟨q, hq, _⟩ := hH.blk b _ hgt
       obtain ⟨q', hq', _⟩ := hH.blk b' _ hgt'
       obtain rfl : p = q := Option.some.inj (hp.symm.trans (hx b q hq))
       obtain rfl : p' = q' := Option.some.inj (hp'.symm.trans (hx b' q' hq'))
       exact hH.inj b b' _ _ p p' hgt hgt' hq hq' hbb
     · rw [h21] at hp'; cases hp'; exact mixed b x p h1 hp
     · rw [h21] at hp; cases hp; exact Ne.symm (mixed b' x' p' h2 hp')
     · exact absurd rfl hbb
   · rw [putL_nx] at hb
     have hb : 22 <= b := hb
     rw [hσ2]
     simp only
     rw [if_neg (by omega)]
     exact hfr b (by omega)
 have hg2 : GOk Tryz.prog σ2 := fun g hgl => by
   obtain ⟨n, hn⟩ := hg g hgl
   exact ⟨n, hx _ _ hn⟩
 have hargs : concL (ρ.at w) σ2 [avS r.op, avS r.pa, baseAV, .slice 21 0 S.cols.length 2 none] = some [.string r.op, .string r.pa, bv, .slice (some ⟨cb, o, none⟩) S.cols.length cc] := by
   have h1 : conc (ρ.at w) σ2 baseAV = some bv := by
     rw [conc_val (ρ := ρ.at w) (ρ' := ρ) rfl]; exact conc_ext hx hbv
   have h2 : conc (ρ.at w) σ2 (.slice 21 0 S.cols.length 2 none) = some (.slice (some ⟨cb, o, none⟩) S.cols.length cc) := by
     simp only [conc, h21, Option.map_some, capN]
     simp
   simp only [concL, conc_avS, h1, h2]
 have hrun := List.all_eq_true.1 hty r hr
 unfold tyOk at hrun
 split at hrun
 · rename_i a k er h' hr'
   simp only [Bool.and_eq_true] at hrun
   refine (ro_calls follows (ρ := ρ.at w) hρ (BT.find_ok tabT_ok) ext0_ok ext98 hg2 hargs hsm har hH2 hr' hrun.1).mono ?_
   rintro e w' ⟨c, σ', rfl, hL⟩
   refine ⟨?_, hL.b⟩
   have hv := hL.v
   simp only [conc, Option.map_eq_some_iff] at hv
   obtain ⟨x, hx', rfl⟩ := hv
   simp only [concL] at hx'
   cases hca : conc (ρ.at w) σ' a with
   | none => rw [hca] at hx'; simp at hx'
   | some y =>
     rw [hca] at hx'
     simp only [conc, Option.some.injEq] at hx'
     subst hx'
     obtain ⟨aa, al, ac, rfl, hI⟩ := intsOk_ints hrun.2 hL.h hca
     exact ⟨aa, al, ac, k, er, rfl, hI⟩
 · cases hrun
theorem base_nil (w : World) (hw : 13 <= w.heap.size) : Calls Tryz.prog 17 #[.slice none 0 0] w fun e w' => (∃ v, e = .returned v /\ BaseOk w' v) /\ Below w.heap.size w w' := by
 obtain ⟨ρ, hρ, _⟩ := rho_of (loopsOf Tryz.prog) (fun _ => (0, 0)) (fun _ => #[])
 have hg : GOk Tryz.prog sig0 := fun g hg => ⟨0, by
   have : Tryz.prog.globals.size = 13 := by kernel_rfl
   rw [this] at hg
   simp [sig0, hg]⟩
 have hH : HRel ρ sig0 (putL ⟨.e, 13⟩ []) w := by
   refine ⟨fun b x hb => ?_, fun b b' x x' p p' hb => ?_, fun b hb => ?_⟩
   · simp [putL, H.get, T.get] at hb
   · simp [putL, H.get, T.get] at hb
   · have hb : 13 <= b := hb
     unfold sig0
     rw [if_neg (by omega)]
 have hrun := base_run
 unfold baseChk at hrun
 split at hrun
 · rename_i v h' hr
   simp only [Bool.and_eq_true] at hrun
   obtain ⟨⟨h1, h2⟩, h3⟩ := hrun
   have h1 := AV.beq_eq h1
   subst h1
   refine (ro_calls follows (ρ := ρ) hρ (BT.find_ok tabT_ok) ext0_ok ext9 hg (args := [.nilslice]) (cs := [.slice none 0 0]) rfl (l := []) rfl rfl hH hr rfl).mono ?_
   rintro e w' ⟨c, σ', rfl, hL⟩
   exact ⟨⟨c, rfl, ρ, σ', h', hρ, fun g hgl => by obtain ⟨n, hn⟩ := hg g hgl; exact ⟨n, hL.ext _ _ hn⟩, hL.h, Nat.eq_of_beq_eq_true h2, h3, hL.v⟩, hL.b⟩
 · cases hrun
end Go.EvPart.N
namespace Go.EvPart.N
open Go Go.Proofs Go.RowKit Go.EvNil
theorem info88 : (Tryz.prog.info? 131).map (fun i => (i.zero, i.size, i.bytes)) = some (some (.agg #[.string ⟨#[]⟩, .int .i64 0]), 2, 24) := by kernel_rfl
theorem info75 : (Tryz.prog.info? 56).map (fun i => (i.zero, i.size, i.bytes)) = some (some (.agg #[.string ⟨#[]⟩, .int .i64 0, .int .i64 0]), 3, 32) := by kernel_rfl
theorem info112 : (Tryz.prog.info? 76).map (fun i => (i.zero, i.size, i.bytes)) = some (some (.agg #[.int .i64 0, .string ⟨#[]⟩, .string ⟨#[]⟩, .slice none 0 0]), 4, 64) := by kernel_rfl
theorem info3 : (Tryz.prog.info? 3).map (fun i => (i.zero, i.size, i.bytes)) = some (some (.int .i64 0), 1, 8) := by kernel_rfl
def colW : List (ByteArray × Nat) -> List Value
 | [] => []
 | c :: l => .string c.1 :: .int .i64 c.2 :: colW l
def symW : List (ByteArray × Nat) -> (Nat -> Nat) -> Nat -> List Value
 | [], _, _ => []
 | c :: l, M, k => .string c.1 :: .int .i64 c.2 :: .int .i64 (M k) :: symW l M (k + 1)
def argW : List Nat -> List Value
 | [] => []
 | a :: l => .int .i64 a :: argW l
abbrev RE := Rl × Nat × Nat × Nat
def ruleW : List RE -> List Value
 | [] => []
 | e :: l => .int .i64 e.1.h :: .string e.1.op :: .string e.1.pa :: .slice (some ⟨e.2.1, e.2.2.1, none⟩) e.1.args.length e.2.2.2 :: ruleW l
theorem colW_len : ∀ l, (colW l).length = l.length * 2
 | [] => rfl
 | c :: l => by simp [colW, colW_len l]; omega
theorem symW_len (M : Nat -> Nat) : ∀ l k, (symW l M k).length = l.length * 3
 | [], _ => rfl
 | c :: l, k => by simp [symW, symW_len M l]; omega
theorem argW_len : ∀ l, (argW l).length = l.length
 | [] => rfl
 | c :: l => by simp [argW, argW_len l]
theorem ruleW_app : ∀ a b, ruleW (a ++ b) = ruleW a ++ ruleW b
 | [], b => rfl
 | e :: a, b => by simp [ruleW, ruleW_app a b]
theorem colW_one : ∀ l, ∀ u ∈ colW l, u.oneCell' = true
 | [], u, h => by simp [colW] at h
 | c :: l, u, h => by
   simp only [colW, List.mem_cons] at h
   rcases h with rfl | rfl | h
   · rfl
   · rfl
   · exact colW_one l u h
theorem symW_one (M : Nat -> Nat) : ∀ l k, ∀ u ∈ symW l M k, u.oneCell' = true
 | [], k, u, h => by simp [symW] at h
 | c :: l, k, u, h => by
   simp only [symW, List.mem_cons] at h
   rcases h with rfl | rfl | rfl | h
   · rfl
   · rfl
   · rfl
   · exact symW_one M l _ u h
theorem argW_one : ∀ l, ∀ u ∈ argW l, u.oneCell' = true
 | [], u, h => by simp [argW] at h
 | c :: l, u, h => by
   simp only [argW, List.mem_cons] at h
   rcases h with rfl | h
   · rfl
   · exact argW_one l u h
theorem colW_at : ∀ (l : List (ByteArray × Nat)) (i : Nat) (hi : i < l.length), (colW l)[i * 2]? = some (.string l[i].1) /\ (colW l)[i * 2 + 1]? = some (.int .i64 l[i].2)
 | c :: l, 0, _ => ⟨rfl, rfl⟩
 | c :: l, i + 1, hi => by
   have := colW_at l i (by simpa using hi)
   rw [show (i + 1) * 2 = i * 2 + 1 + 1 by omega]
   simpa [colW] using this
theorem symW_at (M : Nat -> Nat) : ∀ (l : List (ByteArray × Nat)) (k i : Nat) (hi : i < l.length), (symW l M k)[i * 3]? = some (.string l[i].1) /\ (symW l M k)[i * 3 + 1]? = some (.int .i64 l[i].2) /\ (symW l M k)[i * 3 + 2]? = some (.int .i64 (M (k + i)))
 | c :: l, k, 0, _ => ⟨rfl, rfl, rfl⟩
 | c :: l, k, i + 1, hi => by
   have := symW_at M l (k + 1) i (by simpa using hi)
   rw [show (i + 1) * 3 = i * 3 + 1 + 1 + 1 by omega, show k + (i + 1) = k + 1 + i by omega]
   simpa [symW] using this
theorem argW_at : ∀ (l : List Nat) (i : Nat) (hi : i < l.length), (argW l)[i]? = some (.int .i64 l[i])
 | c :: l, 0, _ => rfl
 | c :: l, i + 1, hi => by simpa [argW] using argW_at l i (by simpa using hi)
theorem ruleW_at : ∀ (l : List RE) (i : Nat) (hi : i < l.length), (ruleW l)[i * 4]? = some (.int .i64 l[i].1.h) /\ (ruleW l)[i * 4 + 1]? = some (.string l[i].1.op) /\ (ruleW l)[i * 4 + 2]? = some (.string l[i].1.pa) /\ (ruleW l)[i * 4 + 3]? = some (.slice (some ⟨l[i].2.1, l[i].2.2.1, none⟩) l[i].1.args.length l[i].2.2.2)
 | e :: l, 0, _ => ⟨rfl, rfl, rfl, rfl⟩
 | e :: l, i + 1, hi => by
   have := ruleW_at l i (by simpa using hi)
   rw [show (i + 1) * 4 = i * 4 + 1 + 1 + 1 + 1 by omega]
   simpa [ruleW] using this
def RowAt (w : World) (b o : Nat) (l : List Value) : Prop := ∀ j u, l[j]? = some u -> w.cell? ((⟨b, o, none⟩ : Addr).add j) = some u
theorem add_none (b o j : Nat) : (⟨b, o, none⟩ : Addr).add j = ⟨b, o + j, none⟩ := by unfold Addr.add; split <;> simp_all
theorem RowAt.cons {w : World} {b o : Nat} {v : Value} {l : List Value} (h : w.cell? ⟨b, o, none⟩ = some v) (hl : RowAt w b (o + 1) l) : RowAt w b o (v :: l) := fun j u hj => by
 cases j with
 | zero => simp at hj; subst hj; rw [add_none]; exact h
 | succ j =>
   have := hl j u (by simpa using hj)
   rw [add_none] at this ⊢
   rw [show o + (j + 1) = o + 1 + j by omega]
   exact this
theorem rowCols {w : World} {b : Nat} : ∀ (l : List (ByteArray × Nat)) (o : Nat), (∀ i (hi : i < l.length), w.cell? ⟨b, o + i * 2, none⟩ = some (.string l[i].1) /\ w.cell? ⟨b, o + i * 2 + 1, none⟩ = some (.int .i64 l[i].2)) -> RowAt w b o (colW l)
 | [], o, _ => fun j u hj => by simp [colW] at hj
 | c :: l, o, h => .cons (by have := (h 0 (Nat.succ_pos _)).1; simp only [Nat.zero_mul, Nat.add_zero] at this; exact this) (.cons (by have := (h 0 (Nat.succ_pos _)).2; simp only [Nat.zero_mul, Nat.add_zero] at this; exact this) (rowCols l _ fun i hi => by
   have := h (i + 1) (Nat.succ_lt_succ hi)
   rw [show o + 1 + 1 + i * 2 = o + (i + 1) * 2 by omega]
   exact this))
theorem rowSyms {w : World} {b : Nat} (M : Nat -> Nat) : ∀ (l : List (ByteArray × Nat)) (k o : Nat), (∀ i (hi : i < l.length), w.cell? ⟨b, o + i * 3, none⟩ = some (.string l[i].1) /\ w.cell? ⟨b, o + i * 3 + 1, none⟩ = some (.int .i64 l[i].2) /\ w.cell? ⟨b, o + i * 3 + 2, none⟩ = some (.int .i64 (M (k + i)))) -> RowAt w b o (symW l M k)
 | [], k, o, _ => fun j u hj => by simp [symW] at hj
 | c :: l, k, o, h => .cons (by have := (h 0 (Nat.succ_pos _)).1; simp only [Nat.zero_mul, Nat.add_zero] at this; exact this) (.cons (by have := (h 0 (Nat.succ_pos _)).2.1; simp only [Nat.zero_mul, Nat.add_zero] at this; exact this) (.cons (by have := (h 0 (Nat.succ_pos _)).2.2; simp only [Nat.zero_mul, Nat.add_zero] at this; exact this) (rowSyms M l (k + 1) _ fun i hi => by
   have := h (i + 1) (Nat.succ_lt_succ hi)
   rw [show o + 1 + 1 + 1 + i * 3 = o + (i + 1) * 3 by omega, show k + 1 + i = k + (i + 1) by omega]
   exact this)))
theorem rowArgs {w : World} {b : Nat} : ∀ (l : List Nat) (o : Nat), (∀ i (hi : i < l.length), w.cell? ⟨b, o + i, none⟩ = some (.int .i64 l[i])) -> RowAt w b o (argW l)
 | [], o, _ => fun j u hj => by simp [argW] at hj
 | c :: l, o, h => .cons (by have := h 0 (Nat.succ_pos _); simp only [Nat.add_zero] at this; exact this) (rowArgs l _ fun i hi => by
   have := h (i + 1) (Nat.succ_lt_succ hi)
   rw [show o + 1 + i = o + (i + 1) by omega]
   exact this)
theorem own_cells {w : World} {base : Nat} {e : TypeId} {size n : Nat} {v : Value} {xs : List Value} (h : w.ownsRow base e size v n xs) (h0 : v ≠ .slice none 0 0) : ∃ g cap cur, v = .slice (some ⟨g, 0, none⟩) n cap /\ base <= g /\ w.heap[g]? = some (.cells cur e (0, 0)) /\ n <= cap /\ cur.size = cap * size /\ ∀ i, i < n * size -> cur[i]? = xs[i]? := by
 rcases h.2 with ⟨e1, _⟩ | ⟨g, cap, cur, e1, e2, e3, e4, e5, e6, e7⟩
 · exact absurd e1 h0
 · refine ⟨g, cap, cur, e1, e2, e3, e4, e6, fun i hi => ?_⟩
   rw [← e7, List.getElem?_take, if_pos hi]
   simp
def TB (w : World) (b t : Nat) : Prop := ∃ (arr : Array Value) (fz : Nat × Nat), w.heap[b]? = some (Obj.cells arr t fz)
def SymsT (w : World) (sa : Option Addr) (ss : List (ByteArray × Nat)) (M : Nat -> Nat) : Prop := ∃ b o, sa = some ⟨b, o, none⟩ /\ TB w b 56 /\ ∀ i (hi : i < ss.length), w.cell? ⟨b, o + i * 3, none⟩ = some (.string ss[i].1) /\ w.cell? ⟨b, o + i * 3 + 1, none⟩ = some (.int .i64 ss[i].2) /\ w.cell? ⟨b, o + i * 3 + 2, none⟩ = some (.int .i64 (M i))
def ArgT (w : World) (aa : Option Addr) (l : List Nat) : Prop := 0 < l.length -> ∃ ab ao, aa = some ⟨ab, ao, none⟩ /\ TB w ab 3
def RulesT (w : World) (ra : Option Addr) (rs : List Rl) : Prop := ∃ b o, ra = some ⟨b, o, none⟩ /\ TB w b 76 /\ ∀ i (hi : i < rs.length), ∃ aa ac, RlAt w b (o + i * 4) rs[i] aa ac /\ ArgT w aa rs[i].args /\ rs[i].args.length <= ac
def GramT (S : Sample) (M : Nat -> Nat) (rs : List Rl) (w : World) (F : Array Value) : Prop :=
 ∃ ca cc sa sc ra rc, F = #[.string S.nm, .int .i64 S.ver, .slice ca S.cols.length cc, .slice sa S.syms.length sc, .slice ra rs.length rc, .int .i64 S.st] /\ ColsAt w ca S.cols /\ SymsT w sa S.syms M /\ RulesT w ra rs /\ S.cols.length <= cc /\ S.syms.length <= sc /\ rs.length <= rc
end Go.EvPart.N
