/-
  Check and Fine on a bound, with unknown values, worked out by the kernel.
-/
import Derived.Test.YtcooocbhkkmiaaaGreatDoorPat
import Derived.Test.YtcooocbhkkmiaaaGreatDoorWalkN
import Derived.Test.YtcooocbhkkmiaaaGreatDoorPlainC
set_option linter.all false
namespace Go.EvProp
open Go Go.Ev Go.Proofs Go.RowKit
set_option maxRecDepth 100000

/-- A call with these arguments has this result; elsewhere E. -/
def constF (args0 : List AV) (v : AV) (need : Blks) (E : List AV → H → Option (AV × H)) : List AV → H → Option (AV × H) := fun args h => bif AV.beqL args args0 && hasAll h need then some (v, h) else E args h
def noneF : List AV → H → Option (AV × H) := fun _ _ => none
theorem noneF_ok {P : Program} {ρ : Rho} {f : FuncId} : FnOk P ρ f noneF := by intro σ args h v h' cs w _ _ _ hv; cases hv

theorem constF_ok {P : Program} {ρ : Rho} {f : FuncId} {fn : Func} (hf : P.funcs[f]? = some fn) (hn : fn.name ≠ "runtime.NumGoroutine") (hb : fn.body.isSome = true) {args0 : List AV} {v : AV} {need : Blks} {E : List AV → H → Option (AV × H)} (hE : FnOk P ρ f E)
    (hc : ∀ σ h cs w, GOk P σ → HRel ρ σ h w → (∀ b x, (b, x) ∈ need → h.get b = some x) → concL ρ σ args0 = some cs → Calls P f cs.toArray w fun e w' => ∃ c, e = .returned c ∧ conc ρ σ v = some c ∧ RowKit.Below w.heap.size w w') : FnOk P ρ f (constF args0 v need E) := by
  intro σ args h v' h' cs w hg hargs hH hv
  unfold constF at hv
  cases hb' : (AV.beqL args args0 && hasAll h need) with
  | false => rw [hb'] at hv; exact hE σ args h v' h' cs w hg hargs hH hv
  | true =>
    rw [hb'] at hv
    simp only [cond_true, Option.some.injEq, Prod.mk.injEq] at hv
    obtain ⟨rfl, rfl⟩ := hv
    simp only [Bool.and_eq_true] at hb'
    obtain rfl := AV.beqL_eq hb'.1
    refine .inr ⟨enters hf hn hb, Ret.of ((hc σ h cs w hg hH (fun b x hm => hasAll_mem hb'.2 hm) hargs).mono ?_)⟩
    rintro e w' ⟨c, rfl, hcv, hbel⟩
    exact ⟨c, rfl, σ, hcv, hH.below hbel, Goes.below hbel⟩

abbrev i6 (n : Nat) : AV := .int .i64 (.ofNat n)
def zero7 : List AV := [i6 0, .str [], i6 0, i6 0, i6 0, .nilslice, .nilslice]
def dateA (i : Nat) : AV := .agg [i6 3, .str [], i6 0, i6 0, .sym i, .nilslice, .nilslice]
def numA : AV := .agg [i6 2, .str [], .sym 4, .sym 5, i6 0, .nilslice, .nilslice]
def colB : ABlk := .ro 28 [.str [100], i6 3]
def symB (K : Nat) : ABlk := .ro 31 [.str [88], i6 K, i6 1]
def ruleB : ABlk := .ro 34 [i6 0, .str [99, 111, 108], .str [100], .nilslice]
def inB : ABlk := .ro 43 [i6 3, .str [], i6 0, i6 0, .sym 0, .nilslice, .nilslice]
def in0B : ABlk := .ro 43 zero7
def gA : AV := .agg [.str [103], i6 0, .slice 13 0 1 2 (some 1), .slice 14 0 1 3 (some 1), .slice 15 0 1 4 (some 1), i6 0]
def iA (prop : List Nat) (param : AV) : AV := .agg ([i6 1, i6 1, i6 0, i6 0, i6 3, .slice 16 0 1 7 (some 1)] ++ zero7 ++ [.str prop, param, .nilslice])
def blks (K : Nat) (inp : ABlk) : Blks := [(0, tensB), (1, powB), (13, colB), (14, symB K), (15, ruleB), (16, inp)]

noncomputable def rightE : List AV → H → Option (AV × H) := (envK Tryz.prog extP tabT.find 200).call 30

/-- For numbers: c is how the value and the bound compare. -/
noncomputable def extN (c : AV) : Ext1 := fun f => bif Nat.beq f 30 then some (constF [dateA 0] (.bool true) [] (constF [numA] (.bool true) [] rightE)) else bif Nat.beq f 70 then some (constF [.sym 1] (.tup [.agg [.sym 2, .sym 3], .bool true]) [(1, powB)] noneF) else bif Nat.beq f 73 then some (constF [.sym 1] (.tup [.agg zero7, .bool false]) [] noneF) else bif Nat.beq f 74 then some (constF [.slice 13 0 1 2 (some 1), .agg [.sym 1, i6 3]] (.int .i64 (.negSucc 0)) [(13, colB)] noneF) else bif Nat.beq f 81 then some (constF [.agg [.sym 4, .sym 5], .agg [.sym 2, .sym 3]] c [(0, tensB)] noneF) else extP f

def isI0 (l : Blks) (r : Option (AV × H)) : Bool := match r with | some (.int .i64 (.ofNat 0), h) => hasAll h l | _ => false
def isB (b : Bool) (l : Blks) (r : Option (AV × H)) : Bool := match r with | some (.bool x, h) => (x == b) && hasAll h l | _ => false

def atl : List Nat := [97, 116, 108, 101, 97, 115, 116]
def atm : List Nat := [97, 116, 109, 111, 115, 116]
def nbf : List Nat := [110, 111, 116, 98, 101, 102, 111, 114, 101]
def noneA : AV := .agg [i6 0, .str [], i6 0, i6 0, i6 18, .nilslice, .nilslice]
def textA : AV := .agg [i6 1, .str [], i6 0, i6 0, i6 0, .nilslice, .nilslice]

noncomputable def runN (c : AV) (f : FuncId) (args : List AV) : Option (AV × H) := (envK Tryz.prog (extN c) tabT.find 1000).call f args (putL ⟨.e, 17⟩ (blks 2 inB))
theorem chkN1 : isI0 (blks 2 inB) (runN (i6 0) 8 [gA, iA atl (.sym 1)]) = true := by kernel_rfl
theorem chkN2 : isI0 (blks 2 inB) (runN (i6 0) 8 [gA, iA atm (.sym 1)]) = true := by kernel_rfl
theorem finN1a : isB false (blks 2 inB) (runN (.int .i64 (.negSucc 0)) 9 [gA, iA atl (.sym 1), numA]) = true := by kernel_rfl
theorem finN1b : isB true (blks 2 inB) (runN (i6 0) 9 [gA, iA atl (.sym 1), numA]) = true := by kernel_rfl
theorem finN1c : isB true (blks 2 inB) (runN (i6 1) 9 [gA, iA atl (.sym 1), numA]) = true := by kernel_rfl
theorem finN2a : isB true (blks 2 inB) (runN (.int .i64 (.negSucc 0)) 9 [gA, iA atm (.sym 1), numA]) = true := by kernel_rfl
theorem finN2b : isB true (blks 2 inB) (runN (i6 0) 9 [gA, iA atm (.sym 1), numA]) = true := by kernel_rfl
theorem finN2c : isB false (blks 2 inB) (runN (i6 1) 9 [gA, iA atm (.sym 1), numA]) = true := by kernel_rfl
theorem finN3 : isB false (blks 2 inB) (runN (i6 0) 9 [gA, iA atl (.sym 1), noneA]) = true := by kernel_rfl
theorem finN4 : isB false (blks 2 inB) (runN (i6 0) 9 [gA, iA atl (.sym 1), textA]) = true := by kernel_rfl
theorem finN5 : isB false (blks 2 inB) (runN (i6 0) 9 [gA, iA atm (.sym 1), noneA]) = true := by kernel_rfl
theorem finN6 : isB false (blks 2 inB) (runN (i6 0) 9 [gA, iA atm (.sym 1), textA]) = true := by kernel_rfl
end Go.EvProp
