/- ItemPartials, one part of the proof: Y, Z, AA, AB, AC, AD, AE, AF, AG, AH, AI, AJ. -/
import Derived.Test.YtljoobbnhbaklaaGreatDoorP03
import Derived.Laws.BytesString
import Derived.Lib.UnsafeStr
import Derived.Lib.Bytealg
import Derived.Lib.MakeNoZero
set_option linter.all false
set_option maxRecDepth 100000
set_option maxHeartbeats 16000000
namespace Go.Ev
section
variable {P : Program} {ρ : Rho}
def eqRes (op : BinOp) (b : Bool) : Option AV := match op with
 | .eql => some (.bool b)
 | .neq => some (.bool (!b))
 | _ => none
theorem eqRes_ok {o : Oper} {op : BinOp} {t t' : TypeId} {x y : Operand} (h : o.op = .binOp op t x y t') {a : Array Value} {w : World} {u v : Value} {b : Bool} {r : AV} {σ : Sig} (hu : evalT a x = u) (hv : evalT a y = v) (hg : ∀ op, (eqGuard op t x y u v).run P w = .ok () w)
   (he : ∀ n, (Op.equalIn (n + 2) t u v).run P w = .ok b w) (h1 : binOp .eql t u v = (do pure (.bool (← Op.equal t u v)))) (h2 : binOp .neq t u v = (do pure (.bool (!(← Op.equal t u v))))) (hr : eqRes op b = some r) :
   ∃ c, conc ρ σ r = some c /\ (execOp (evalT a) o).run P w = .ok (.value c) w := by
 have heq : (Op.equal t u v).run P w = .ok b w := he 9998
 cases op <;> simp [eqRes] at hr
 · subst hr; exact ⟨_, rfl, by simp [execOp, h, hu, hv, hg, h1, heq]⟩
 · subst hr; exact ⟨_, rfl, by simp [execOp, h, hu, hv, hg, h2, heq]⟩
def eqPtrV (op : BinOp) : List AV -> Option AV
 | [.nilptr, .nilptr] => eqRes op true
 | [.ptr _ _, .nilptr] => eqRes op false
 | [.nilptr, .ptr _ _] => eqRes op false
 | [.ptr b o, .ptr b' o'] => bif Nat.beq b b' then eqRes op (Nat.beq o o') else none
 | _ => none
theorem eqPtr_ok {o : Oper} {op : BinOp} {t t' e : TypeId} {x y : Operand} {ei : TypeInfo} (h : o.op = .binOp op t x y t') (hd : P.underlying t = some (.pointer e)) (he : P.info? e = some ei) (hz : ei.size ≠ 0) : PureOk P ρ o (eqPtrV op) := by
 intro σ s a w r hg hs hv
 have hgd : ∀ p q op, (eqGuard op t x y (.pointer p) (.pointer q)).run P w = .ok () w := fun p q op => eqGuard_none (.inl (by simp)) (by simp)
 unfold eqPtrV at hv
 split at hv
 · obtain ⟨cu, cv, hcu, hcv, hl⟩ := concL_two hs
   simp [opVals, h, Op.operands] at hl
   simp only [conc, Option.some.injEq] at hcu hcv
   subst hcu; subst hcv
   exact eqRes_ok h hl.1 hl.2 (hgd _ _) (fun n => by simp [Op.equalIn, run_und hd]) rfl rfl hv
 · obtain ⟨cu, cv, hcu, hcv, hl⟩ := concL_two hs
   simp [opVals, h, Op.operands] at hl
   obtain ⟨p, hp, rfl⟩ := conc_ptr hcu
   simp only [conc, Option.some.injEq] at hcv
   subst hcv
   exact eqRes_ok h hl.1 hl.2 (hgd _ _) (fun n => by simp [Op.equalIn, run_und hd]) rfl rfl hv
 · obtain ⟨cu, cv, hcu, hcv, hl⟩ := concL_two hs
   simp [opVals, h, Op.operands] at hl
   obtain ⟨p, hp, rfl⟩ := conc_ptr hcv
   simp only [conc, Option.some.injEq] at hcu
   subst hcu
   exact eqRes_ok h hl.1 hl.2 (hgd _ _) (fun n => by simp [Op.equalIn, run_und hd]) rfl rfl hv
 · rename_i b o1 b' o2
   cases hb : Nat.beq b b' with
   | false => rw [hb] at hv; simp at hv
   | true =>
     rw [hb] at hv
     simp only [cond_true] at hv
     obtain rfl := Nat.eq_of_beq_eq_true hb
     obtain ⟨cu, cv, hcu, hcv, hl⟩ := concL_two hs
     simp [opVals, h, Op.operands] at hl
     obtain ⟨p, hp, rfl⟩ := conc_ptr hcu
     obtain ⟨q, hq, rfl⟩ := conc_ptr hcv
     obtain rfl : p = q := Option.some.inj (hp.symm.trans hq)
     have heq : ((⟨p.blk, p.del + o1, none⟩ : Addr) == ⟨p.blk, p.del + o2, none⟩) = Nat.beq o1 o2 := by
       by_cases e1 : o1 = o2
       · subst e1; simp
       · rw [beq_ne e1]; simp; omega
     exact eqRes_ok h hl.1 hl.2 (hgd _ _) (fun n => by simp [Op.equalIn, run_und hd, run_size he, hz, sameAddr, heq]) rfl rfl hv
 · cases hv
def eqSliceV (op : BinOp) : List AV -> Option AV
 | [.nilslice, .nilslice] => eqRes op true
 | [.slice _ _ _ _ _, .nilslice] => eqRes op false
 | [.etail _ _ _ _, .nilslice] => eqRes op false
 | _ => none
theorem eqSlice_ok {o : Oper} {op : BinOp} {t t' e : TypeId} {x y : Operand} (h : o.op = .binOp op t x y t') (hd : P.underlying t = some (.slice e)) : PureOk P ρ o (eqSliceV op) := by
 intro σ s a w r hg hs hv
 have hgd : ∀ a1 a2 a3 b1 b2 b3 op, (eqGuard op t x y (.slice a1 a2 a3) (.slice b1 b2 b3)).run P w = .ok () w := fun _ _ _ _ _ _ op => eqGuard_none (.inl (by simp)) (by simp)
 unfold eqSliceV at hv
 split at hv
 · obtain ⟨cu, cv, hcu, hcv, hl⟩ := concL_two hs
   simp [opVals, h, Op.operands] at hl
   simp only [conc, Option.some.injEq] at hcu hcv
   subst hcu; subst hcv
   exact eqRes_ok h hl.1 hl.2 (hgd _ _ _ _ _ _) (fun n => by simp [Op.equalIn, run_und hd]) rfl rfl hv
 · obtain ⟨cu, cv, hcu, hcv, hl⟩ := concL_two hs
   simp [opVals, h, Op.operands] at hl
   obtain ⟨p, hp, rfl⟩ := conc_slice hcu
   simp only [conc, Option.some.injEq] at hcv
   subst hcv
   exact eqRes_ok h hl.1 hl.2 (hgd _ _ _ _ _ _) (fun n => by simp [Op.equalIn, run_und hd]) rfl rfl hv
 · obtain ⟨cu, cv, hcu, hcv, hl⟩ := concL_two hs
   simp [opVals, h, Op.operands] at hl
   simp only [conc, Option.map_eq_some_iff] at hcu
   obtain ⟨p, hp, rfl⟩ := hcu
   simp only [conc, Option.some.injEq] at hcv
   subst hcv
   exact eqRes_ok h hl.1 hl.2 (hgd _ _ _ _ _ _) (fun n => by simp [Op.equalIn, run_und hd]) rfl rfl hv
 · cases hv
def eqMapV (op : BinOp) : List AV -> Option AV
 | [.nilmap, .nilmap] => eqRes op true
 | [.map _, .nilmap] => eqRes op false
 | _ => none
theorem eqMap_ok {o : Oper} {op : BinOp} {t t' k e : TypeId} {x y : Operand} (h : o.op = .binOp op t x y t') (hd : P.underlying t = some (.map k e)) : PureOk P ρ o (eqMapV op) := by
 intro σ s a w r hg hs hv
 have hgd : ∀ p q op, (eqGuard op t x y (.map p) (.map q)).run P w = .ok () w := fun p q op => eqGuard_none (.inl (by simp)) (by simp)
 unfold eqMapV at hv
 split at hv
 · obtain ⟨cu, cv, hcu, hcv, hl⟩ := concL_two hs
   simp [opVals, h, Op.operands] at hl
   simp only [conc, Option.some.injEq] at hcu hcv
   subst hcu; subst hcv
   exact eqRes_ok h hl.1 hl.2 (hgd _ _) (fun n => by simp [Op.equalIn, run_und hd]) rfl rfl hv
 · obtain ⟨cu, cv, hcu, hcv, hl⟩ := concL_two hs
   simp [opVals, h, Op.operands] at hl
   simp only [conc, Option.some.injEq, Option.map_eq_some_iff] at hcu hcv
   obtain ⟨p, hp, rfl⟩ := hcu
   subst hcv
   exact eqRes_ok h hl.1 hl.2 (hgd _ _) (fun n => by simp [Op.equalIn, run_und hd]) rfl rfl hv
 · cases hv
def eqFuncV (op : BinOp) : List AV -> Option AV
 | [.nilfn, .nilfn] => eqRes op true
 | [.fn _ _ _, .nilfn] => eqRes op false
 | _ => none
theorem eqFunc_ok {o : Oper} {op : BinOp} {t t' : TypeId} {p1 p2 : Array TypeId} {p3 : Bool} {x y : Operand} (h : o.op = .binOp op t x y t') (hd : P.underlying t = some (.func p1 p2 p3)) : PureOk P ρ o (eqFuncV op) := by
 intro σ s a w r hg hs hv
 unfold eqFuncV at hv
 split at hv
 · obtain ⟨cu, cv, hcu, hcv, hl⟩ := concL_two hs
   simp [opVals, h, Op.operands] at hl
   simp only [conc, Option.some.injEq] at hcu hcv
   subst hcu; subst hcv
   exact eqRes_ok h hl.1 hl.2 (fun op => eqGuard_none (.inl (by simp)) (by simp)) (fun n => by simp [Op.equalIn, run_und hd]) rfl rfl hv
 · obtain ⟨cu, cv, hcu, hcv, hl⟩ := concL_two hs
   simp [opVals, h, Op.operands] at hl
   simp only [conc] at hcu hcv
   split at hcu <;> cases hcu
   cases hcv
   exact eqRes_ok h hl.1 hl.2 (fun op => eqGuard_none (.inl (by simp)) (by simp)) (fun n => by simp [Op.equalIn, run_und hd]) rfl rfl hv
 · cases hv
def eqBoolV (op : BinOp) : List AV -> Option AV
 | [.bool a, .bool b] => eqRes op (a == b)
 | _ => none
theorem eqBool_ok {o : Oper} {op : BinOp} {t t' : TypeId} {x y : Operand} (h : o.op = .binOp op t x y t') (hd : P.underlying t = some .bool) : PureOk P ρ o (eqBoolV op) := by
 intro σ s a w r hg hs hv
 unfold eqBoolV at hv
 split at hv
 · obtain ⟨cu, cv, hcu, hcv, hl⟩ := concL_two hs
   simp [opVals, h, Op.operands] at hl
   simp only [conc, Option.some.injEq] at hcu hcv
   subst hcu; subst hcv
   exact eqRes_ok h hl.1 hl.2 (fun op => eqGuard_none (.inl (by simp)) (by simp)) (fun n => by simp [Op.equalIn, run_und hd]) rfl rfl hv
 · cases hv
def eqCell : AV -> AV -> Option Bool
 | .int k a, .int j b => bif decide (k = j) then some (eqI a b) else none
 | .str a, .str b => some (strEq a b)
 | .bool a, .bool b => some (a == b)
 | _, _ => none
def isTag : Nat -> AV -> Bool
 | 0, .int _ _ => true
 | 1, .str _ => true
 | 2, .bool _ => true
 | _, _ => false
def eqCells (xs ys : List AV) : List (Nat × Nat) -> Option Bool
 | [] => some true
 | (o, tag) :: l => match xs[o]?, ys[o]? with
   | some x, some y => bif isTag tag x then match eqCell x y with
     | some true => eqCells xs ys l
     | some false => some false
     | none => none
     else none
   | _, _ => none
def eqStructV (op : BinOp) (offs : List (Nat × Nat)) : List AV -> Option AV
 | [.agg xs, .agg ys] => match eqCells xs ys offs with
   | some b => eqRes op b
   | none => none
 | _ => none
def tagOf : TypeDesc -> Option Nat
 | .int _ => some 0
 | .string => some 1
 | .bool => some 2
 | _ => none
def flatFields (P : Program) : List Field -> Option (List (Nat × Nat))
 | [] => some []
 | f :: fs => match P.underlying f.type with
   | some d => match tagOf d, flatFields P fs with
     | some t, some r => if f.name = "_" then none else some ((f.offset, t) :: r)
     | _, _ => none
   | none => none
theorem eqCell_ok {σ : Sig} {t : TypeId} {d : TypeDesc} {tag : Nat} {x y : AV} {cx cy : Value} {b : Bool} {n : Nat} {w : World} (hd : P.underlying t = some d) (ht : tagOf d = some tag) (hx : conc ρ σ x = some cx) (hy : conc ρ σ y = some cy) (hk : isTag tag x = true) (h : eqCell x y = some b) :
   (Op.equalIn (n + 1) t cx cy).run P w = .ok b w := by
 unfold eqCell at h
 split at h
 · rename_i k p j q
   by_cases hkj : k = j
   · subst hkj
     simp at h
     subst h
     obtain rfl := conc_int hx
     obtain rfl := conc_int hy
     cases d <;> simp [tagOf] at ht <;> subst ht <;> simp [isTag] at hk
     rename_i k'
     rw [run_equalIn_int w n t k k' p q hd, eqI_eq]
     rfl
   · simp [hkj] at h
 · cases h
   obtain ⟨ok1, rfl⟩ := conc_str hx
   obtain ⟨ok2, rfl⟩ := conc_str hy
   cases d <;> simp [tagOf] at ht <;> subst ht <;> simp [isTag] at hk
   rw [run_equalIn_string w n t _ _ hd, eq_str ok1 ok2]
 · cases h
   simp only [conc, Option.some.injEq] at hx hy
   subst hx; subst hy
   cases d <;> simp [tagOf] at ht <;> subst ht <;> simp [isTag] at hk
   exact run_equalIn_bool' w n t _ _ hd
 · cases h
theorem run_part {w : World} {t : TypeId} {d : TypeDesc} {tag : Nat} (hd : P.underlying t = some d) (ht : tagOf d = some tag) {cs : Array Value} {o : Nat} {c : Value} (hc : cs[o]? = some c) : (part t cs o).run P w = .ok c w := by
 have : aggD d = false := by cases d <;> simp [tagOf] at ht <;> rfl
 simp [part, run_isAgg hd, this, hc]
theorem eqFields_ok {σ : Sig} {xs ys : List AV} {cx cy : List Value} (hx : concL ρ σ xs = some cx) (hy : concL ρ σ ys = some cy) (n : Nat) (w : World) : ∀ {fs : List Field} {offs : List (Nat × Nat)} {b : Bool}, flatFields P fs = some offs -> eqCells xs ys offs = some b ->
   (Op.eqFields (n + 1) cx.toArray cy.toArray fs).run P w = .ok b w
 | [], offs, b, hf, h => by
   simp [flatFields] at hf; subst hf
   simp [eqCells] at h; subst h
   simp [Op.eqFields]
 | f :: fs, offs, b, hf, h => by
   simp only [flatFields] at hf
   split at hf
   · rename_i d hd
     split at hf
     · rename_i tag r htag hr
       split at hf
       · cases hf
       · rename_i hname
         cases hf
         simp only [eqCells] at h
         split at h
         · rename_i x y hx' hy'
           obtain ⟨c1, q1, q2⟩ := concL_get hx hx'
           obtain ⟨c2, q3, q4⟩ := concL_get hy hy'
           have p1 := run_part (P := P) (w := w) hd htag (cs := cx.toArray) (o := f.offset) (by simpa using q1)
           have p2 := run_part (P := P) (w := w) hd htag (cs := cy.toArray) (o := f.offset) (by simpa using q3)
           cases htg : isTag tag x with
           | false => rw [htg] at h; simp at h
           | true =>
             rw [htg] at h
             simp only [cond_true] at h
             split at h
             · rename_i he
               have p3 := eqCell_ok (P := P) (n := n) (w := w) hd htag q2 q4 htg he
               simp only [Op.eqFields, hname, ne_eq, not_false_eq_true, if_true, Sem.run_bind, p1, p2, p3, Result.andThen_ok, Bool.not_true, Bool.false_eq_true, if_false]
               exact eqFields_ok hx hy n w hr h
             · rename_i he
               cases h
               have p3 := eqCell_ok (P := P) (n := n) (w := w) hd htag q2 q4 htg he
               simp [Op.eqFields, hname, p1, p2, p3]
             · cases h
         · cases h
     · cases hf
   · cases hf
theorem eqStruct_ok {o : Oper} {op : BinOp} {t t' : TypeId} {x y : Operand} {fs : Array Field} {offs : List (Nat × Nat)} (h : o.op = .binOp op t x y t') (hd : P.underlying t = some (.struct fs)) (hst : P.stoodInHeld t = false) (hgt : P.eqGuardType P.depth t = false) (hf : flatFields P fs.toList = some offs) : PureOk P ρ o (eqStructV op offs) := by
 intro σ s a w r hg hs hv
 unfold eqStructV at hv
 split at hv
 · rename_i xs ys
   split at hv
   · rename_i b hb
     obtain ⟨cu, cv, hcu, hcv, hl⟩ := concL_two hs
     simp [opVals, h, Op.operands] at hl
     simp only [conc, Option.map_eq_some_iff] at hcu hcv
     obtain ⟨cx, hcx, rfl⟩ := hcu
     obtain ⟨cy, hcy, rfl⟩ := hcv
     have hfo : P.fieldsOf t = fs := by simp [Program.fieldsOf, hd]
     refine eqRes_ok h hl.1 hl.2 (fun op => run_eqGuard_agg w op t x y _ _ hgt) (fun n => ?_) rfl rfl hv
     rw [run_equalIn_struct w (n + 1) t _ _ (by rw [hfo]; exact hd) hst, hfo]
     exact eqFields_ok hcx hcy n w hf hb
   · cases hv
 · cases hv
end
end Go.Ev
namespace Go.Ev
def After (ρ : Rho) (σ : Sig) (h : H) (w : World) (v : AV) (h' : H) (c : Value) (w' : World) : Prop := ∃ σ', conc ρ σ' v = some c /\ HRel ρ σ' h' w' /\ Goes σ h w σ' h' w'
def FnOk (P : Program) (ρ : Rho) (f : FuncId) (F : List AV -> H -> Option (AV × H)) : Prop :=
 ∀ σ args h v h' cs w, GOk P σ -> concL ρ σ args = some cs -> HRel ρ σ h w -> F args h = some (v, h') ->
   (∃ c w', (callFunc f cs.toArray).run P w = .ok (.value c) w' /\ After ρ σ h w v h' c w') ∨
   ((callFunc f cs.toArray).run P w = .ok (.enter f cs.toArray) w /\ Ret P (Frame.enter P f cs.toArray .normal) w (After ρ σ h w v h'))
structure Env where
 call : FuncId -> List AV -> H -> Option (AV × H)
 yield : Nat -> List AV -> H -> Option (AV × H)
def YieldOk (P : Program) (ρ : Rho) (F : Nat -> List AV -> H -> Option (AV × H)) : Prop :=
 ∀ σ b args h v h' cs w p, GOk P σ -> concL ρ σ args = some cs -> HRel ρ σ h w -> σ b = some p -> F b args h = some (v, h') ->
   ∃ f t x y, (Instr.yield p.blk cs.toArray).run P w = .ok (.round p.blk f t x y) w /\ Ret P (Frame.round p.blk f t x y .normal) w (After ρ σ h w v h')
structure EnvOk (P : Program) (ρ : Rho) (E : Env) : Prop where
 call : ∀ f, FnOk P ρ f (E.call f)
 yield : YieldOk P ρ E.yield
def callV (E : Env) : List AV -> H -> Option (AV × H)
 | .fn f first cap :: args, h => E.call f (first ++ (args ++ cap)) h
 | .yld b :: args, h => E.yield b args h
 | _, _ => none
section
variable {P : Program} {ρ : Rho}
theorem call_ok {E : Env} (hE : EnvOk P ρ E) {o : Oper} {c : Call} {x : Operand} (h : o.op = .call c) (hc : c.callee = .value x) : HeavyOk P ρ o (callV E) := by
 intro σ s hh a w v h' hg hs hH hv
 have hops : opVals o a = evalT a x :: c.args.toList.map (evalT a) := by simp [opVals, h, Op.operands, Call.operands, hc]
 rw [hops] at hs
 unfold callV at hv
 split at hv
 · rename_i f first cap args
   obtain ⟨cv, cr, h1, h2, h3⟩ := concL_cons hs
   simp only [List.cons.injEq] at h3
   obtain ⟨e1, e2⟩ := h3
   simp only [conc] at h1
   split at h1
   · rename_i fx cx hfx hcx
     cases h1
     have hargs := concL_append hfx (concL_append h2 hcx)
     have hex : (execOp (evalT a) o).run P w = (callFunc f (fx ++ (cr ++ cx)).toArray).run P w := by
       simp only [execOp, h, resolve, hc, e1, Deferred.ofValue, Sem.run_bind, Sem.run_pure, Result.andThen_ok, invoke]
       congr 2
       apply Array.ext'
       simp [← e2]
     rcases hE.call f σ _ hh v h' _ w hg hargs hH hv with ⟨c', w', hr, ha⟩ | ⟨hr, ha⟩
     · exact .inl ⟨c', w', by rw [hex]; exact hr, ha⟩
     · exact .inr (.inr (.inl ⟨f, _, w, by rw [hex]; exact hr, ha⟩))
   · cases h1
 · rename_i b args
   obtain ⟨cv, cr, h1, h2, h3⟩ := concL_cons hs
   simp only [List.cons.injEq] at h3
   obtain ⟨e1, e2⟩ := h3
   simp only [conc, Option.map_eq_some_iff] at h1
   obtain ⟨p, hp, rfl⟩ := h1
   obtain ⟨f, t, x1, y1, hr, ha⟩ := hE.yield σ b _ hh v h' cr w p hg h2 hH hp hv
   refine .inr (.inr (.inr ⟨p.blk, f, t, x1, y1, w, ?_, ha⟩))
   simp only [execOp, h, resolve, hc, e1, Deferred.ofValue, Sem.run_bind, Sem.run_pure, Result.andThen_ok, invoke]
   have : (#[] ++ c.args.map (evalT a)) = cr.toArray := by
     apply Array.ext'
     simp [← e2]
   rw [this]
   exact hr
 · cases hv
def putArgs : List AV -> Nat -> S -> S
 | [], _, s => s
 | v :: l, i, s => putArgs l (i + 1) (put i v s)
theorem g_putArgs {t : Nat} (ht : t < 256) : ∀ {l : List AV} {i : Nat} {s : S}, i + l.length <= 256 -> g t (putArgs l i s) = if i <= t /\ t < i + l.length then l.getD (t - i) aundef else g t s
 | [], i, s, _ => by simp [putArgs]; intro h1 h2; omega
 | v :: l, i, s, h => by
   simp only [List.length_cons] at h
   rw [putArgs, g_putArgs ht (by omega)]
   by_cases e : t = i
   · subst e
     rw [if_neg (by omega), if_pos (by simp)]
     simp only [g_put_same, Nat.sub_self, List.getD_cons_zero]
   · by_cases h1 : i + 1 <= t /\ t < i + 1 + l.length
     · rw [if_pos h1, if_pos (by simp; omega)]
       have : t - i = (t - (i + 1)) + 1 := by omega
       rw [this]; simp
     · rw [if_neg h1, if_neg (by simp; omega)]
       exact g_put_other t i v s (by omega) (by omega) e
theorem SRel.start {σ : Sig} {args : List AV} {cs : List Value} {nt : Nat} (hc : concL ρ σ args = some cs) (hle : args.length <= nt) (hnt : nt <= 256) : SRel ρ σ nt (putArgs args 0 s0) (cs.toArray ++ Array.replicate (nt - cs.toArray.size) undef) := by
 have hl := concL_length hc
 refine ⟨by simp; omega, hnt, fun i hi => ?_⟩
 rw [g_putArgs (by omega) (by omega)]
 by_cases h : i < args.length
 · rw [if_pos (by omega), Nat.sub_zero]
   have hg : args[i]? = some (args.getD i aundef) := by simp [List.getD, h]
   obtain ⟨x, h1, h2⟩ := concL_get hc hg
   rw [h2]
   have : (cs.toArray ++ Array.replicate (nt - cs.toArray.size) undef)[i]? = some x := by
     rw [Array.getElem?_append_left (by simp; omega)]
     simpa using h1
   rw [Array.getD_eq_getD_getElem?, this]; rfl
 · rw [if_neg (by omega)]
   have : g i s0 = aundef := g_s0 i
   rw [this, conc_undef]
   have : (cs.toArray ++ Array.replicate (nt - cs.toArray.size) undef)[i]? = some undef := by
     rw [Array.getElem?_append_right (by simp; omega), Array.getElem?_replicate, if_pos (by simp; omega)]
   rw [Array.getD_eq_getD_getElem?, this]; rfl
def dropDefs : List Nat -> H -> Option H
 | [], h => some h
 | b :: l, h => match h.get b with
   | some .deferred => bif Nat.blt b maxT then dropDefs l (h.upd b none) else none
   | _ => none
inductive RV where
 | tmp (t : Nat)
 | cell (t : Nat) (agg : Bool) (n : Nat)
def resV (s : S) (h : H) : RV -> Option AV
 | .tmp t => some (g t s)
 | .cell t agg n => loadV agg n [g t s] h
def resVs (s : S) (h : H) : List RV -> Option (List AV)
 | [] => some []
 | r :: l => match resV s h r, resVs s h l with
   | some x, some y => some (x :: y)
   | _, _ => none
def oneOf : List AV -> AV
 | [v] => v
 | l => .tup l
def finF (rs : List RV) (x : St) : Option (AV × H) := match dropDefs x.df x.h with
 | some h' => match resVs x.s h' rs with
   | some l => some (oneOf l, h')
   | none => none
 | none => none
def funcF (nt : Nat) (rs : List RV) (F : SemF) (args : List AV) (h : H) : Option (AV × H) := bif Nat.ble args.length nt then match F ⟨putArgs args 0 s0, h, []⟩ with
 | some (.norm, x) => finF rs x
 | some (.ret, x) => finF rs x
 | _ => none
 else none
def resM (a : Array Value) : ResultVar -> Sem Value
 | .tmp t => pure (a.getD t undef)
 | .cell b t => do loadVar t (← asAddr (a.getD b undef))
theorem results_eq (fn : Func) (a : Array Value) : results fn a = (do let vs ← fn.results.mapM (resM a); pure (if h : vs.size = 1 then vs[0] else .tuple vs)) := by
 unfold results
 congr 2
def RVOk (P : Program) (nt : Nat) : ResultVar -> RV -> Prop
 | .tmp t, .tmp t' => t = t' /\ t < nt
 | .cell a t, .cell a' agg n => a = a' /\ a < nt /\ ∃ d i, P.underlying t = some d /\ P.info? t = some i /\ agg = aggD d /\ n = i.size
 | _, _ => False
def RVsOk (P : Program) (nt : Nat) : List ResultVar -> List RV -> Prop
 | [], [] => True
 | r :: l, x :: m => RVOk P nt r x /\ RVsOk P nt l m
 | _, _ => False
theorem resVs_ok {σ : Sig} {s : S} {h : H} {a : Array Value} {w : World} {nt : Nat} (hg : GOk P σ) (hs : SRel ρ σ nt s a) (hH : HRel ρ σ h w) : ∀ {l : List ResultVar} {m : List RV} {vs : List AV}, RVsOk P nt l m -> resVs s h m = some vs ->
   ∃ cs, concL ρ σ vs = some cs /\ (l.mapM (resM a) : Sem (List Value)).run P w = .ok cs w
 | [], [], vs, _, hv => by simp [resVs] at hv; subst hv; exact ⟨[], rfl, by simp⟩
 | [], _ :: _, _, h, _ => h.elim
 | _ :: _, [], _, h, _ => h.elim
 | r :: l, x :: m, vs, ⟨h1, h2⟩, hv => by
   simp only [resVs] at hv
   split at hv
   · rename_i y ys hy hys
     cases hv
     obtain ⟨cs, hc, hr⟩ := resVs_ok hg hs hH h2 hys
     cases r with
     | tmp t =>
       cases x with
       | tmp t' =>
         obtain ⟨rfl, hlt⟩ := h1
         simp [resV] at hy
         subst hy
         refine ⟨a.getD t undef :: cs, by simp [concL, hs.2.2 t hlt, hc], ?_⟩
         simp only [List.mapM_cons, Sem.run_bind, resM, Sem.run_pure, Result.andThen_ok, hr]
       | cell _ _ _ => exact h1.elim
     | cell b t =>
       cases x with
       | tmp _ => exact h1.elim
       | cell b' agg n =>
         obtain ⟨rfl, hlt, d, i, hd, hi, rfl, rfl⟩ := h1
         simp only [resV] at hy
         have hl := load_ok (P := P) (ρ := ρ) (o := { dst := none, op := .load t (.tmp b), type := 0, pos := "", after := #[], guard := none }) rfl hd hi σ [g b s] h a w y hg (by simp [opVals, Op.operands, concL, hs.2.2 b hlt, evalT]) hH hy
         obtain ⟨c, hcy, hrun⟩ := hl
         refine ⟨c :: cs, by simp [concL, hcy, hc], ?_⟩
         have hload : (do loadVar t (← asAddr (a.getD b undef)) : Sem Value).run P w = .ok c w := by
           unfold loadV at hy
           split at hy
           · rename_i bb off heq
             have hcb := hs.2.2 b hlt
             simp only [List.cons.injEq, and_true] at heq
             rw [heq] at hcb
             obtain ⟨p, hp, hpe⟩ := conc_ptr hcb
             simp only [execOp, evalT, hpe, Instr.loadAt, Instr.sureAddr, Sem.run_bind, Sem.run_pure, Result.andThen_ok] at hrun
             simp only [hpe, asAddr, Sem.run_bind, Sem.run_pure, Result.andThen_ok]
             generalize (loadVar t ⟨p.blk, p.del + off, none⟩).run P w = q at hrun
             cases q with
             | ok v' w' => simp at hrun; obtain ⟨rfl, rfl⟩ := hrun; rfl
             | halt _ _ => simp at hrun
           · cases hy
         rw [List.mapM_cons, Sem.run_bind]
         simp only [resM]
         rw [hload]
         simp only [Result.andThen_ok, Sem.run_bind, hr, Sem.run_pure]
   · cases hv
end
end Go.Ev
namespace Go.Ev
def frR (b : FC) (a : Array Value) (ds : List Deferred) (todo : List Item) : Frame := { fr b a ds todo with mode := .returning }
section
variable {P : Program} {ρ : Rho} {b : FC} {a : Array Value} {ds : List Deferred} {k : List Item} {cs : List Frame} {w : World}
theorem st_ret (hb : b.roundOf = none) : step P (lone (fr b a ds (.code .ret :: k)) cs w) = .next (lone (frR b a ds (.code .ret :: k)) cs w) :=
 step_lone_go (by simp [stepG, stepG.exec, fr, frR, hb])
theorem st_end (hb : b.roundOf = none) : step P (lone (fr b a ds []) cs w) = .next (lone (frR b a ds []) cs w) :=
 step_lone_go (by simp [stepG, stepG.exec, fr, frR, hb])
theorem run_getObj {r : Nat} {o : Obj} (h : w.heap[r]? = some o) (hc : ∀ c e f, o ≠ .cells c e f) : (getObj r).run P w = .ok o w := by
 cases o <;> first | exact (hc _ _ _ rfl).elim | simp only [getObj, Sem.run, h]
theorem run_setObj {r : Nat} {o o' : Obj} (h : w.heap[r]? = some o) (hc : ∀ c e f, o ≠ .cells c e f) : (setObj r o').run P w = .ok () (setO w r o') := by
 cases o <;> first | exact (hc _ _ _ rfl).elim | (simp only [setObj, Sem.run, h]; rfl)
theorem st_mark {r : Nat} (h : w.heap[r]? = some (.deferred (some []))) :
   step P (lone (frR b a ({ target := .collected r, args := #[] } :: ds) k) cs w) = .next (lone (frR b a ds k) cs (setO w r (.deferred none))) := by
 have hr : (Instr.takeDeferred r).run P w = .ok [] (setO w r (.deferred none)) := by
   simp [Instr.takeDeferred, run_getObj (P := P) h, run_setObj (P := P) h]
 exact step_lone_go (by simp [stepG, unwind, frR, fr, Sem.runT_eq, hr])
theorem HRel.frame {σ : Sig} {h : H} (r : HRel ρ σ h w) {w' : World} (hw : ∀ k, Owns σ h k -> w'.heap[k]? = w.heap[k]?) : HRel ρ σ h w' :=
 ⟨fun j y hj => by
   obtain ⟨p, hp, hO⟩ := r.blk j y hj
   exact ⟨p, hp, by rw [hw p.blk ⟨j, y, p, hj, hp, rfl⟩]; exact hO⟩, r.inj, r.fresh⟩
theorem HRel.giveUp {σ : Sig} {h : H} (r : HRel ρ σ h w) {j : Nat} {x : ABlk} {p : Place} (hj : h.get j = some x) (hp : σ j = some p) (hm : j < maxT) (o : Obj) : HRel ρ σ (h.upd j none) (setO w p.blk o) /\ Goes σ h w σ (h.upd j none) (setO w p.blk o) := by
 obtain ⟨d1, d2⟩ := r.drop hm
 have gs := fun i => H.get_upd h j i none hm
 have other : ∀ k, Owns σ (h.upd j none) k -> (setO w p.blk o).heap[k]? = w.heap[k]? := fun k ⟨i, y, q, hi, hq, e⟩ => by
   rw [gs] at hi
   by_cases e1 : i = j
   · rw [if_pos e1] at hi; cases hi
   · rw [if_neg e1] at hi
     have := r.inj i j y x q p hi hj hq hp e1
     rw [e] at this
     simp [setO, Array.getElem?_setIfInBounds, Ne.symm this]
 refine ⟨d1.frame other, ⟨.refl _, fun _ h1 h2 => (h2 h1).elim, Nat.le_refl _, by simp [setO], fun k hk hn => ?_, d2.own, rfl, rfl, rfl⟩⟩
 have : p.blk ≠ k := fun e => hn ⟨j, x, p, hj, hp, e⟩
 simp [setO, Array.getElem?_setIfInBounds, this]
theorem unwind_marks : ∀ {df : List Nat} {h h' : H} {σ : Sig} {w : World} {ds : List Deferred}, dropDefs df h = some h' -> defsOf σ df = some ds -> HRel ρ σ h w ->
   ∃ w', HRel ρ σ h' w' /\ Goes σ h w σ h' w' /\ Steps P (lone (frR b a ds k) cs w) (lone (frR b a [] k) cs w')
 | [], h, h', σ, w, ds, hd, hds, hH => by
   simp [dropDefs] at hd; subst hd
   simp [defsOf] at hds; subst hds
   exact ⟨w, hH, .refl _ _ _, .refl _ _⟩
 | j :: l, h, h', σ, w, ds, hd, hds, hH => by
   simp only [dropDefs] at hd
   split at hd
   · rename_i hj
     cases hlt : Nat.blt j maxT with
     | false => rw [hlt] at hd; simp at hd
     | true =>
       rw [hlt] at hd
       simp only [cond_true] at hd
       have hlt' : j < maxT := by simpa using hlt
       simp only [defsOf] at hds
       split at hds
       · rename_i p ds' hp hds'
         cases hds
         obtain ⟨q, hq, hO⟩ := hH.blk j _ hj
         obtain rfl : p = q := Option.some.inj (hp.symm.trans hq)
         obtain ⟨_, hobj⟩ := hO
         obtain ⟨g1, g2⟩ := hH.giveUp hj hp hlt' (.deferred none)
         obtain ⟨w', r1, r2, r3⟩ := unwind_marks hd hds' g1
         exact ⟨w', r1, g2.trans r2, .head (st_mark hobj) r3⟩
       · cases hds
   · cases hd
theorem func_ok {f : FuncId} {fn : Func} {body : Code} {nt : Nat} {rs : List RV} {F : SemF} (hf : P.funcs[f]? = some fn) (hb : fn.body = some body) (hn : fn.name ≠ "runtime.NumGoroutine") (hnt : fn.ntmps = nt) (hle : nt <= 256) (hrs : RVsOk P nt fn.results.toList rs)
   {B : FC -> Prop} (hB : B ⟨f, .normal, none⟩) (hF : SimC P ρ nt B body F) : FnOk P ρ f (funcF nt rs F) := by
 intro σ args h v h' cs w hg hargs hH hv
 right
 have hcf : (callFunc f cs.toArray).run P w = .ok (.enter f cs.toArray) w := by
   simp [callFunc, hf, hn, hb]
 refine ⟨hcf, ?_⟩
 unfold funcF at hv
 cases hal : Nat.ble args.length nt with
 | false => rw [hal] at hv; simp at hv
 | true =>
   rw [hal] at hv
   simp only [cond_true] at hv
   have hal' := Nat.le_of_ble_eq_true hal
   intro c cs'
   have henter : Frame.enter P f cs.toArray .normal = fr ⟨f, .normal, none⟩ (cs.toArray ++ Array.replicate (nt - cs.toArray.size) undef) [] [.code body] := by
     simp [Frame.enter, fr, hf, hb, hnt]
   rw [henter]
   have hst : StRel P ρ nt σ ⟨putArgs args 0 s0, h, []⟩ (cs.toArray ++ Array.replicate (nt - cs.toArray.size) undef) [] w := ⟨.start hargs hal' hle, hH, rfl, hg⟩
   have fin : ∀ (e : X) (x : St), (∀ id, e ≠ .exit id) -> F ⟨putArgs args 0 s0, h, []⟩ = some (e, x) -> finF rs x = some (v, h') ->
       ∃ u w', After ρ σ h w v h' u w' /\ Steps P (lone (fr ⟨f, .normal, none⟩ (cs.toArray ++ Array.replicate (nt - cs.toArray.size) undef) [] [.code body]) (c :: cs') w) (lone (c.finish u) cs' w') := fun e x hne hFx hres => by
     obtain ⟨σ1, a1, ds1, w1, r1, g1, l1⟩ := hF σ _ e x hFx ⟨f, .normal, none⟩ hB [] (c :: cs') _ [] w hst
     have hland : ∃ todo, Steps P (lone (fr ⟨f, .normal, none⟩ (cs.toArray ++ Array.replicate (nt - cs.toArray.size) undef) [] [.code body]) (c :: cs') w) (lone (frR ⟨f, .normal, none⟩ a1 ds1 todo) (c :: cs') w1) := by
       cases e with
       | norm => exact ⟨[], Steps.trans l1 (.one (st_end rfl))⟩
       | exit id => exact (hne id rfl).elim
       | ret => obtain ⟨k2, l2⟩ := l1; exact ⟨.code .ret :: k2, Steps.trans l2 (.one (st_ret rfl))⟩
     obtain ⟨todo, hs1⟩ := hland
     unfold finF at hres
     split at hres
     · rename_i h2 hdd
       obtain ⟨w2, q1, q2, q3⟩ := unwind_marks (P := P) (b := ⟨f, .normal, none⟩) (a := a1) (k := todo) (cs := c :: cs') hdd r1.d r1.h
       split at hres
       · rename_i vs hvs
         simp only [Option.some.injEq, Prod.mk.injEq] at hres
         obtain ⟨rfl, rfl⟩ := hres
         obtain ⟨us, u1, u2⟩ := resVs_ok r1.g r1.s q1 hrs hvs
         have hlen := concL_length u1
         have hm : (fn.results.mapM (resM a1) : Sem (Array Value)).run P w2 = .ok us.toArray w2 := by
           rw [Array.mapM_eq_mapM_toList]
           simp only [Sem.run_map]
           rw [u2]
           rfl
         have hres : ∃ u, conc ρ σ1 (oneOf vs) = some u /\ (results fn a1).run P w2 = .ok u w2 := by
           rw [results_eq]
           simp only [Sem.run_bind]
           rw [hm]
           simp only [Result.andThen_ok, Sem.run_pure]
           match vs, us, u1, hlen with
           | [y], [u], u1, _ =>
             obtain ⟨u', hu', e'⟩ := concL_one u1
             cases e'
             exact ⟨u, hu', by simp⟩
           | [], [], u1, _ => exact ⟨.tuple #[], by simp [oneOf, conc, concL], by simp⟩
           | y :: y' :: l, u :: u' :: m, u1, _ => exact ⟨.tuple (u :: u' :: m).toArray, by simp [oneOf, conc, u1], by simp⟩
         obtain ⟨u, hu1, hu2⟩ := hres
         exact ⟨u, w2, ⟨σ1, hu1, q1, g1.trans q2⟩, Steps.trans hs1 (Steps.trans q3 (.one (step_leave_returned ⟨rfl, rfl, rfl, fn, hf, hu2⟩)))⟩
       · cases hres
     · cases hres
   split at hv
   · rename_i x hFx
     exact fin .norm x (fun id e1 => by cases e1) hFx hv
   · rename_i x hFx
     exact fin .ret x (fun id e1 => by cases e1) hFx hv
   · cases hv
end
end Go.Ev
namespace Go.Ev
section
variable {P : Program} {ρ : Rho}
def capV (esz : Nat) : List AV -> H -> Option AV
 | [.nilslice], _ => natV 0
 | [.slice b off _ e cap], h => bif Nat.beq e esz then match capK h b off esz cap with
   | some (c, true) => natV c
   | _ => none
   else none
 | _, _ => none
theorem cap_ok {o : Oper} {c : Call} {t e : TypeId} {ei : TypeInfo} (h : o.op = .call c) (hc : c.callee = .builtin .cap) (ht : c.argTypes[0]? = some t) (hu : P.underlying t = some (.slice e)) : LightOk P ρ o (capV ei.size) := by
 intro σ s hh a w v hg hs hH hv
 rw [opVals_builtin h hc] at hs
 have fin : ∀ (n : Nat) (u : Value), (c.args.map (evalT a)).toList = [u] -> (Builtin.cap_ c.argTypes o.type #[u]).run P w = .ok (goInt n) w -> (execOp (evalT a) o).run P w = .ok (.value (.int .i64 (.ofNat n))) w := fun n u hl hr => by
   refine exec_builtin h hc fun cs => ?_
   have he : c.args.map (evalT a) = #[u] := by apply Array.ext'; rw [hl]
   rw [he]
   simp only [builtin, Sem.run_bind, hr, Result.andThen_ok, Sem.run_pure]
   rfl
 unfold capV at hv
 split at hv
 · rw [natV_eq] at hv; cases hv
   obtain ⟨x, hx, hl⟩ := concL_one hs
   simp only [conc, Option.some.injEq] at hx; subst hx
   exact ⟨_, rfl, fin 0 _ hl (by simp [Builtin.cap_, ht, run_und hu])⟩
 · rename_i b off n e' cap
   cases hee : Nat.beq e' ei.size with
   | false => rw [hee] at hv; simp at hv
   | true =>
     rw [hee] at hv
     obtain rfl := Nat.eq_of_beq_eq_true hee
     simp only [cond_true] at hv
     split at hv
     · rename_i ck hck
       rw [natV_eq] at hv; cases hv
       obtain ⟨x, hx, hl⟩ := concL_one hs
       obtain ⟨p, hp, rfl⟩ := conc_slice hx
       obtain ⟨_, k2⟩ := capK_ok hH hp hck
       have := k2 rfl
       exact ⟨_, rfl, fin ck _ hl (by simp [Builtin.cap_, ht, run_und hu, ← this])⟩
     · cases hv
 · cases hv
def copyV (esz : Nat) : List AV -> H -> Option (AV × H)
 | [d, x], h => match srcV esz h x with
   | none => none
   | some (n, l) => match d with
     | .nilslice => some (.int .i64 (.ofNat 0), h)
     | .slice b off len e _ => bif Nat.beq e esz then
         (bif Nat.beq (min n len) 0 then some (.int .i64 (.ofNat 0), h) else match h.get b with
         | some (.cells el vs tight true) => bif Nat.ble (off + min n len * esz) vs.length && l.all isCell && Nat.blt b maxT then
             strictN (min n len) fun m => some (.int .i64 (.ofNat m), h.upd b (some (.cells el (spliceL vs off (l.take (min n len * esz))) tight true))) else none
         | _ => none)
       else none
     | _ => none
 | _, _ => none
theorem copy_ok {o : Oper} {c : Call} {s e : TypeId} {ei : TypeInfo} (h : o.op = .call c) (hc : c.callee = .builtin .copy) (hat : c.argTypes[0]? = some s) (hu : P.underlying s = some (.slice e)) (he : P.info? e = some ei) : HeavyOk P ρ o (copyV ei.size) := by
 intro σ vs hh a w v h' hg hs hH hv
 rw [opVals_builtin h hc] at hs
 have done : ∀ (u x c' : Value) (w' : World), (c.args.map (evalT a)).toList = [u, x] -> (Builtin.copy_ c.argTypes o.type #[u, x]).run P w = .ok c' w' -> (execOp (evalT a) o).run P w = .ok (.value c') w' := fun u x c' w' hl hr => by
   refine exec_builtin h hc fun cs => ?_
   have he : c.args.map (evalT a) = #[u, x] := by apply Array.ext'; rw [hl]
   rw [he]
   simp only [builtin, Sem.run_bind, hr, Result.andThen_ok, Sem.run_pure]
 unfold copyV at hv
 split at hv
 · rename_i d x
   split at hv
   · cases hv
   · rename_i n l hsrc
     obtain ⟨cd, cx, hcd, hcx, hl⟩ := concL_two hs
     obtain ⟨hlen, hll, hfirst⟩ := src_ok (P := P) hH hsrc hcx
     have a0 : ∀ u, (#[u, cx] : Array Value)[0]? = some u := fun _ => rfl
     have a1 : ∀ u, (#[u, cx] : Array Value)[1]? = some cx := fun _ => rfl
     split at hv
     · simp at hv
       obtain ⟨rfl, rfl⟩ := hv
       simp only [conc, Option.some.injEq] at hcd
       subst hcd
       obtain ⟨ls, _, hf⟩ := hfirst 0 (Nat.zero_le _)
       refine .inl ⟨_, w, done _ _ (.int .i64 0) w hl ?_, σ, rfl, hH, .refl _ _ _⟩
       simp only [Builtin.copy_, hat, a0, a1, Sem.run_bind, run_und hu, Result.andThen_ok, hlen, run_size he, Nat.min_zero, hf, Sem.run_pure, goInt]
       rfl
     · rename_i b off len e' cap
       cases hee : Nat.beq e' ei.size with
       | false => rw [hee] at hv; simp at hv
       | true =>
         rw [hee] at hv
         obtain rfl := Nat.eq_of_beq_eq_true hee
         simp only [cond_true] at hv
         obtain ⟨p, hp, rfl⟩ := conc_slice hcd
         obtain ⟨ls, hlc, hf⟩ := hfirst (min n len) (Nat.min_le_left _ _)
         cases h0 : Nat.beq (min n len) 0 with
         | true =>
           rw [h0] at hv
           simp at hv
           obtain ⟨rfl, rfl⟩ := hv
           have hm0 := Nat.eq_of_beq_eq_true h0
           rw [hm0] at hf hlc
           simp [concL] at hlc
           subst hlc
           refine .inl ⟨_, w, done _ _ (.int .i64 0) w hl ?_, σ, rfl, hH, .refl _ _ _⟩
           simp only [Builtin.copy_, hat, a0, a1, Sem.run_bind, run_und hu, Result.andThen_ok, hlen, run_size he, show Nat.min n len = 0 from hm0, hf, Sem.run_pure, goInt]
           simp [storeCells]
         | false =>
           rw [h0] at hv
           simp only [cond_false] at hv
           split at hv
           · rename_i el ws tight hb
             cases hcc : (Nat.ble (off + min n len * ei.size) ws.length && l.all isCell && Nat.blt b maxT) with
             | false => rw [hcc] at hv; simp at hv
             | true =>
               rw [hcc] at hv
               simp only [cond_true, strictN_eq, Option.some.injEq, Prod.mk.injEq] at hv
               obtain ⟨rfl, rfl⟩ := hv
               simp only [Bool.and_eq_true] at hcc
               obtain ⟨⟨c1, c2⟩, c3⟩ := hcc
               have c1 := Nat.le_of_ble_eq_true c1
               have c3 : b < maxT := by simpa using c3
               have hcell : (l.take (min n len * ei.size)).all isCell = true := by
                 rw [List.all_eq_true] at c2 ⊢
                 exact fun z hz => c2 z (List.mem_of_mem_take hz)
               have hmn : min n len * ei.size <= n * ei.size := Nat.mul_le_mul_right _ (Nat.min_le_left _ _)
               obtain ⟨p', w', hp', hst, hH', hG⟩ := hH.write (off := off) hb c3 hlc (by simp; omega) (cells_one hcell hlc)
               obtain rfl : p = p' := Option.some.inj (hp.symm.trans hp')
               refine .inl ⟨_, w', done _ _ (.int .i64 (.ofNat (min n len))) w' hl ?_, σ, rfl, hH', hG⟩
               have hf' : (Builtin.firstCells ei.size (Nat.min n len) cx).run P w = .ok ls.toArray w := hf
               simp only [Builtin.copy_, hat, a0, a1, Sem.run_bind, run_und hu, Result.andThen_ok, hlen, run_size he, hf', Sem.run_pure, goInt, hst P]
               rfl
           · cases hv
     · cases hv
 · cases hv
def minI (a b : Int) : Int := bif ltI b a then b else a
def maxI (a b : Int) : Int := bif ltI a b then b else a
def minV : List AV -> Option AV
 | [.int k a, .int j b] => bif decide (k = j) then some (.int k (minI a b)) else none
 | _ => none
def maxV : List AV -> Option AV
 | [.int k a, .int j b] => bif decide (k = j) then some (.int k (maxI a b)) else none
 | _ => none
theorem min_ok {o : Oper} {c : Call} (h : o.op = .call c) (hc : c.callee = .builtin .min) : PureOk P ρ o minV := by
 intro σ s a w v hg hs hv
 rw [opVals_builtin h hc] at hs
 unfold minV at hv
 split at hv
 · rename_i k p j q
   by_cases hk : k = j
   · subst hk
     simp at hv
     subst hv
     obtain ⟨cu, cv, hcu, hcv, hl⟩ := concL_two hs
     obtain rfl := conc_int hcu
     obtain rfl := conc_int hcv
     refine ⟨_, rfl, exec_builtin h hc fun cs => ?_⟩
     have he : c.args.map (evalT a) = #[.int k p, .int k q] := by apply Array.ext'; rw [hl]
     rw [he]
     simp only [builtin, Builtin.min_, List.foldlM_cons, List.foldlM_nil, Builtin.min2, Sem.run_bind, Sem.run_pure, Result.andThen_ok, minI, ltI_eq]
     by_cases hlt : q < p <;> simp [hlt]
   · simp [hk] at hv
 · cases hv
theorem max_ok {o : Oper} {c : Call} (h : o.op = .call c) (hc : c.callee = .builtin .max) : PureOk P ρ o maxV := by
 intro σ s a w v hg hs hv
 rw [opVals_builtin h hc] at hs
 unfold maxV at hv
 split at hv
 · rename_i k p j q
   by_cases hk : k = j
   · subst hk
     simp at hv
     subst hv
     obtain ⟨cu, cv, hcu, hcv, hl⟩ := concL_two hs
     obtain rfl := conc_int hcu
     obtain rfl := conc_int hcv
     refine ⟨_, rfl, exec_builtin h hc fun cs => ?_⟩
     have he : c.args.map (evalT a) = #[.int k p, .int k q] := by apply Array.ext'; rw [hl]
     rw [he]
     simp only [builtin, Builtin.max_, List.foldlM_cons, List.foldlM_nil, Builtin.max2, Sem.run_bind, Sem.run_pure, Result.andThen_ok, maxI, ltI_eq]
     by_cases hlt : p < q <;> simp [hlt]
   · simp [hk] at hv
 · cases hv
end
end Go.Ev
namespace Go.Ev
section
variable {P : Program} {ρ : Rho}
abbrev AE := AV × AV × Nat
def findA (k : AV) : List AE -> Nat -> Option (Option (Nat × AV))
 | [], _ => some none
 | e :: es, i => match eqCell k e.1 with
   | some true => some (some (i, e.2.1))
   | some false => findA k es (i + 1)
   | none => none
theorem sameNow_ok {σ : Sig} {d : TypeDesc} {tag : Nat} {x y : AV} {cx cy : Value} {b : Bool} (ht : tagOf d = some tag) (hx : conc ρ σ x = some cx) (hy : conc ρ σ y = some cy) (hk : isTag tag x = true) (h : eqCell x y = some b) : Instr.sameNow d cx cy = some b := by
 unfold eqCell at h
 split at h
 · rename_i k p j q
   by_cases hkj : k = j
   · subst hkj
     simp at h
     subst h
     obtain rfl := conc_int hx
     obtain rfl := conc_int hy
     cases d <;> simp [tagOf] at ht <;> subst ht <;> simp [isTag] at hk
     simp only [Instr.sameNow, if_true, eqI_eq]
     rfl
   · simp [hkj] at h
 · cases h
   obtain ⟨ok1, rfl⟩ := conc_str hx
   obtain ⟨ok2, rfl⟩ := conc_str hy
   cases d <;> simp [tagOf] at ht <;> subst ht <;> simp [isTag] at hk
   simp only [Instr.sameNow, beq_toListBytes, eq_str ok1 ok2]
 · cases h
   simp only [conc, Option.some.injEq] at hx hy
   subst hx; subst hy
   cases d <;> simp [tagOf] at ht <;> subst ht <;> simp [isTag] at hk
   rfl
 · cases h
theorem entsRel_length {σ : Sig} : ∀ {es : List AE} {ms : List MapEntry}, entsRel ρ σ es ms -> ms.length = es.length
 | [], [], _ => rfl
 | _ :: _, _ :: _, ⟨_, h⟩ => by simp [entsRel_length h]
 | [], _ :: _, h => h.elim
 | _ :: _, [], h => h.elim
theorem entsRel_get {σ : Sig} : ∀ {es : List AE} {ms : List MapEntry}, entsRel ρ σ es ms -> ∀ {i : Nat} {e : AE}, es[i]? = some e -> ∃ m, ms[i]? = some m /\ entRel ρ σ e m
 | [], [], _, i, e, h => by simp at h
 | e0 :: es, m0 :: ms, ⟨h1, h2⟩, i, e, h => by
   cases i with
   | zero => simp at h; subst h; exact ⟨m0, by simp, h1⟩
   | succ i => simp at h; obtain ⟨m, q1, q2⟩ := entsRel_get h2 h; exact ⟨m, by simpa using q1, q2⟩
 | [], _ :: _, h, _, _, _ => h.elim
 | _ :: _, [], h, _, _, _ => h.elim
theorem findA_ok {σ : Sig} {d : TypeDesc} {tag : Nat} {k : AV} {ck : Value} (ht : tagOf d = some tag) (hk : conc ρ σ k = some ck) (htk : isTag tag k = true) : ∀ {es : List AE} {ms : List MapEntry} {i : Nat} {r : Option (Nat × AV)}, entsRel ρ σ es ms -> findA k es i = some r ->
   match r with
   | none => Instr.findNow d ck ms i = some none
   | some (j, v) => ∃ c, Instr.findNow d ck ms i = some (some (j, c)) /\ conc ρ σ v = some c /\ ∃ e, i <= j /\ es[j - i]? = some e /\ e.2.1 = v /\ eqCell k e.1 = some true
 | [], [], i, r, _, h => by simp [findA] at h; subst h; rfl
 | e :: es, m :: ms, i, r, ⟨⟨h1, h2, h3⟩, hr⟩, h => by
   simp only [findA] at h
   split at h
   · rename_i he
     cases h
     exact ⟨m.val, by simp only [Instr.findNow, sameNow_ok ht hk h1 htk he], h2, e, Nat.le_refl _, by simp, rfl, he⟩
   · rename_i he
     have ih := findA_ok ht hk htk (i := i + 1) hr h
     have hs := sameNow_ok ht hk h1 htk he
     cases r with
     | none => simp only at ih ⊢; simp only [Instr.findNow, hs, ih]
     | some jv =>
       obtain ⟨j, v⟩ := jv
       simp only at ih ⊢
       obtain ⟨c, q1, q2, e', q3, q4, q5, q6⟩ := ih
       refine ⟨c, by simp only [Instr.findNow, hs, q1], q2, e', by omega, ?_, q5, q6⟩
       have : j - i = (j - (i + 1)) + 1 := by omega
       rw [this]; simpa using q4
   · cases h
 | [], _ :: _, _, _, h, _ => h.elim
 | _ :: _, [], _, _, h, _ => h.elim
theorem run_checkKey {w : World} {t : TypeId} {d : TypeDesc} {tag : Nat} (hd : P.underlying t = some d) (ht : tagOf d = some tag) (e : Bool) (n : Nat) (v : Value) : (Instr.checkKey e (n + 1) t v).run P w = .ok () w := by
 cases d <;> simp [tagOf] at ht <;> simp [Instr.checkKey, run_und hd]
theorem run_findKey {w : World} {t : TypeId} {d : TypeDesc} (hd : P.underlying t = some d) {k : Value} {es : List MapEntry} {r : Option (Nat × Value)} (h : Instr.findNow d k es 0 = some r) : (Instr.findKey t k es).run P w = .ok r w := by
 simp [Instr.findKey, run_und hd, h]
theorem HRel.map {σ : Sig} {h : H} {w : World} (r : HRel ρ σ h w) {b : Nat} {es : List AE} {ck : Nat} (hb : h.get b = some (.map es ck)) : ∃ p ms, σ b = some p /\ p.del = 0 /\ w.heap[p.blk]? = some (.map ms ck) /\ entsRel ρ σ es ms.toList /\ p.blk < w.heap.size := by
 obtain ⟨p, hp, hlt, h1, ms, h2, h3⟩ := r.lt hb
 exact ⟨p, ms, hp, h1, h2, h3, hlt⟩
def lookupRes (ok : Bool) (v : AV) (there : Bool) : AV := bif ok then .tup [v, .bool there] else v
def lookupV (tag : Nat) (zero : AV) (ok : Bool) : List AV -> H -> Option AV
 | [.nilmap, k], _ => bif isTag tag k then some (lookupRes ok zero false) else none
 | [.map b, k], h => bif isTag tag k then match h.get b with
   | some (.map es _) => match findA k es 0 with
     | some (some (_, v)) => some (lookupRes ok v true)
     | some none => some (lookupRes ok zero false)
     | none => none
   | _ => none
   else none
 | _, _ => none
theorem conc_lookupRes {σ : Sig} {ok there : Bool} {v : AV} {c : Value} (h : conc ρ σ v = some c) : conc ρ σ (lookupRes ok v there) = some (if ok = true then .tuple #[c, .bool there] else c) := by
 cases ok
 · simpa [lookupRes] using h
 · simp [lookupRes, conc, concL, h]
theorem lookup_ok {o : Oper} {t k e : TypeId} {x y : Operand} {ok : Bool} {kd : TypeDesc} {tag : Nat} {ei : TypeInfo} {z : Value} {zv : AV} (h : o.op = .lookup t x y ok) (hu : P.underlying t = some (.map k e)) (hk : P.underlying k = some kd) (ht : tagOf kd = some tag) (he : P.info? e = some ei) (hz : ei.zero = some z) (hzv : ofValue z = some zv) :
   LightOk P ρ o (lookupV tag zv ok) := by
 intro σ s hh a w v hg hs hH hv
 have hzero : (zeroValue e).run P w = .ok z w := by simp [zeroValue, typeInfo, he, hz]
 have hzc : conc ρ σ zv = some z := ofValue_conc hzv
 unfold lookupV at hv
 split at hv
 · rename_i kv
   cases htk : isTag tag kv with
   | false => rw [htk] at hv; simp at hv
   | true =>
     rw [htk] at hv
     simp only [cond_true, Option.some.injEq] at hv
     subst hv
     obtain ⟨c, d, hc, hd, hl⟩ := concL_two hs
     simp [opVals, h, Op.operands] at hl
     simp only [conc, Option.some.injEq] at hc
     subst hc
     refine ⟨_, conc_lookupRes hzc, ?_⟩
     have hf : (Instr.findKey k d []).run P w = .ok none w := run_findKey hk rfl
     have hr : (Instr.lookup t (.map none) d ok).run P w = .ok (if ok = true then .tuple #[z, .bool false] else z) w := by
       simp only [Instr.lookup, Sem.run_bind, run_und hu, Result.andThen_ok, Sem.run_pure, run_checkKey hk ht _ 9999]
       rw [hf]
       simp only [Result.andThen_ok, Sem.run_bind, hzero, Sem.run_pure]
     simp only [execOp, h, hl.1, hl.2, Sem.run_bind, hr, Result.andThen_ok, Sem.run_pure]
 · rename_i b kv
   cases htk : isTag tag kv with
   | false => rw [htk] at hv; simp at hv
   | true =>
     rw [htk] at hv
     simp only [cond_true] at hv
     split at hv
     · rename_i es clk hb
       obtain ⟨c, d, hc, hd, hl⟩ := concL_two hs
       simp [opVals, h, Op.operands] at hl
       simp only [conc, Option.map_eq_some_iff] at hc
       obtain ⟨p, hp, rfl⟩ := hc
       obtain ⟨p', ms, hp', _, hobj, hents, _⟩ := hH.map hb
       obtain rfl : p = p' := Option.some.inj (hp.symm.trans hp')
       have hget := run_getObj (P := P) hobj (by intro c e f; simp)
       have base : ∀ (r : Option (Nat × Value)), Instr.findNow kd d ms.toList 0 = some r -> (Instr.lookup t (.map (some p.blk)) d ok).run P w = (match r with | some (_, v) => .ok (if ok = true then .tuple #[v, .bool true] else v) w | none => .ok (if ok = true then .tuple #[z, .bool false] else z) w) := fun r hr => by
         simp only [Instr.lookup, Sem.run_bind, run_und hu, Result.andThen_ok, hget, Sem.run_pure, run_checkKey hk ht _ 9999, run_findKey hk hr]
         cases r with
         | none => simp only [Sem.run_bind, hzero, Result.andThen_ok, Sem.run_pure]
         | some q => obtain ⟨_, _⟩ := q; simp only [Sem.run_bind, Sem.run_pure, Result.andThen_ok]
       split at hv
       · rename_i j u hf
         cases hv
         obtain ⟨cu, q1, q2, _⟩ := findA_ok ht hd htk hents hf
         refine ⟨_, conc_lookupRes q2, ?_⟩
         simp only [execOp, h, hl.1, hl.2, Sem.run_bind, base _ q1, Result.andThen_ok, Sem.run_pure]
       · rename_i hf
         cases hv
         have q1 := findA_ok ht hd htk hents hf
         refine ⟨_, conc_lookupRes hzc, ?_⟩
         simp only [execOp, h, hl.1, hl.2, Sem.run_bind, base _ q1, Result.andThen_ok, Sem.run_pure]
       · cases hv
     · cases hv
 · cases hv
def makeMapV : List AV -> Option ABlk
 | [] => some (.map [] 0)
 | _ => none
def mapTo (_ : List AV) (b : Nat) : AV := .map b
theorem makeMap_ok {o : Oper} {t : TypeId} (h : o.op = .makeMap t none) : AllocOk P ρ o makeMapV mapTo := by
 intro σ s a w x b hg hs hx hb
 unfold makeMapV at hx
 split at hx
 · cases hx
   refine ⟨.map #[] 0, 0, w.drawn, .map (some w.heap.size), ?_, by simp [mapTo, conc, updS], rfl, #[], rfl, trivial⟩
   simp [execOp, h, Instr.makeMap]
 · cases hx
def mapPutV (tag : Nat) : List AV -> H -> Option (AV × H)
 | [.map b, k, v], h => bif isTag tag k && Nat.blt b maxT then match h.get b with
   | some (.map es clk) => match findA k es 0 with
     | some (some (i, _)) => some (aundef, h.upd b (some (.map (es.modify i fun e => (k, v, e.2.2)) clk)))
     | some none => some (aundef, h.upd b (some (.map (es ++ [(k, v, clk)]) (clk + 1))))
     | none => none
   | _ => none
   else none
 | _, _ => none
theorem entsRel_append {σ : Sig} : ∀ {es es' : List AE} {ms ms' : List MapEntry}, entsRel ρ σ es ms -> entsRel ρ σ es' ms' -> entsRel ρ σ (es ++ es') (ms ++ ms')
 | [], _, [], _, _, h => h
 | _ :: _, _, _ :: _, _, ⟨h1, h2⟩, h => ⟨h1, entsRel_append h2 h⟩
 | [], _, _ :: _, _, h, _ => h.elim
 | _ :: _, _, [], _, h, _ => h.elim
theorem entsRel_modify {σ : Sig} {f : AE -> AE} {g : MapEntry -> MapEntry} : ∀ {es : List AE} {ms : List MapEntry} {i : Nat}, entsRel ρ σ es ms -> (∀ e m, es[i]? = some e -> ms[i]? = some m -> entRel ρ σ e m -> entRel ρ σ (f e) (g m)) -> entsRel ρ σ (es.modify i f) (ms.modify i g)
 | [], [], i, _, _ => by simp [entsRel]
 | e :: es, m :: ms, 0, ⟨h1, h2⟩, hf => by simp only [List.modify_zero_cons]; exact ⟨hf e m (by simp) (by simp) h1, h2⟩
 | e :: es, m :: ms, i + 1, ⟨h1, h2⟩, hf => by
   simp only [List.modify_succ_cons]
   exact ⟨h1, entsRel_modify h2 fun e' m' q1 q2 => hf e' m' (by simpa using q1) (by simpa using q2)⟩
 | [], _ :: _, _, h, _ => h.elim
 | _ :: _, [], _, h, _ => h.elim
theorem sameBits_ok {σ : Sig} {x y : AV} {cx cy : Value} (hx : conc ρ σ x = some cx) (hy : conc ρ σ y = some cy) (h : eqCell x y = some true) (n : Nat) : Instr.sameBits (n + 1) cy cx = true := by
 unfold eqCell at h
 split at h
 · rename_i k p j q
   by_cases hkj : k = j
   · subst hkj
     simp [eqI_eq] at h
     subst h
     obtain rfl := conc_int hx
     obtain rfl := conc_int hy
     simp [Instr.sameBits]
   · simp [hkj] at h
 · simp [strEq_eq] at h
   subst h
   obtain ⟨ok1, rfl⟩ := conc_str hx
   obtain ⟨ok2, rfl⟩ := conc_str hy
   simp only [Instr.sameBits]
   rw [beq_toListBytes, eq_str ok1 ok2, strEq_eq]; simp
 · simp at h
   subst h
   simp only [conc, Option.some.injEq] at hx hy
   subst hx; subst hy
   simp [Instr.sameBits]
 · cases h
theorem mapPut_ok {o : Oper} {t k e : TypeId} {x y z : Operand} {kd : TypeDesc} {tag : Nat} (h : o.op = .mapUpdate t x y z ∨ o.op = .insert t x y z) (hu : P.underlying t = some (.map k e)) (hk : P.underlying k = some kd) (ht : tagOf kd = some tag) : HeavyOk P ρ o (mapPutV tag) := by
 intro σ s hh a w v h' hg hs hH hv
 have hops : opVals o a = [evalT a x, evalT a y, evalT a z] := by rcases h with h | h <;> simp [opVals, h, Op.operands]
 rw [hops] at hs
 unfold mapPutV at hv
 split at hv
 · rename_i b kv u
   cases hcc : (isTag tag kv && Nat.blt b maxT) with
   | false => rw [hcc] at hv; simp at hv
   | true =>
     rw [hcc] at hv
     simp only [cond_true] at hv
     simp only [Bool.and_eq_true] at hcc
     obtain ⟨htk, hbm⟩ := hcc
     have hbm : b < maxT := by simpa using hbm
     split at hv
     · rename_i es clk hb
       obtain ⟨c, d, f, hc, hd, hf, hl⟩ := concL_three hs
       simp only [List.cons.injEq, and_true] at hl
       obtain ⟨l1, l2, l3⟩ := hl
       simp only [conc, Option.map_eq_some_iff] at hc
       obtain ⟨p, hp, rfl⟩ := hc
       obtain ⟨p', ms, hp', hdel, hobj, hents, hlt⟩ := hH.map hb
       obtain rfl : p = p' := Option.some.inj (hp.symm.trans hp')
       have hget := run_getObj (P := P) hobj (by intro c e f; simp)
       have fin : ∀ (es' : List AE) (ms' : Array MapEntry) (clk' : Nat), entsRel ρ σ es' ms'.toList -> (Instr.mapUpdate t (.map (some p.blk)) d f).run P w = .ok () (setO w p.blk (.map ms' clk')) ->
           Acts P o a w fun c w' => ∃ σ', conc ρ σ' aundef = some c /\ HRel ρ σ' (hh.upd b (some (.map es' clk'))) w' /\ Goes σ hh w σ' (hh.upd b (some (.map es' clk'))) w' := fun es' ms' clk' he hr => by
         obtain ⟨g1, g2⟩ := hH.put (x := .map es' clk') (o := .map ms' clk') hb hp hbm hlt ⟨hdel, ms', rfl, he⟩
         refine .inr (.inl ⟨_, ?_, σ, conc_undef ρ σ, g1, g2⟩)
         rcases h with h | h <;> simp only [execOp, h, l1, l2, l3, Sem.run_bind, hr, Result.andThen_ok, Sem.run_pure]
       split at hv
       · rename_i i u' hfind
         cases hv
         obtain ⟨cu, q1, q2, e0, q3, q4, q5, q6⟩ := findA_ok ht hd htk hents hfind
         simp only [Nat.sub_zero] at q4
         obtain ⟨m0, q7, q8⟩ := entsRel_get hents q4
         have hmi : ms[i]? = some m0 := by simpa using q7
         have hstay : (Instr.keyThatStays (((ms[i]?).map (·.key)).getD d) d).run P w = .ok d w := by
           rw [hmi]
           simp only [Option.map_some, Option.getD_some, Instr.keyThatStays]
           rw [if_pos (sameBits_ok hd q8.1 q6 9999)]
           rfl
         refine fin _ (ms.modify i fun e => { e with key := d, val := f }) clk ?_ ?_
         · rw [Array.toList_modify]
           refine entsRel_modify hents fun e m r1 r2 r3 => ⟨hd, hf, r3.2.2⟩
         · simp only [Instr.mapUpdate, Sem.run_bind, run_und hu, Result.andThen_ok, hget, run_checkKey hk ht _ 9999, run_findKey hk q1, hstay, run_setObj (P := P) hobj (by intro c e f; simp)]
       · rename_i hfind
         cases hv
         have q1 := findA_ok ht hd htk hents hfind
         refine fin _ (ms.push { key := d, val := f, born := clk }) (clk + 1) ?_ ?_
         · rw [Array.toList_push]
           exact entsRel_append hents ⟨⟨hd, hf, rfl⟩, trivial⟩
         · simp only [Instr.mapUpdate, Sem.run_bind, run_und hu, Result.andThen_ok, hget, run_checkKey hk ht _ 9999, run_findKey hk q1, run_setObj (P := P) hobj (by intro c e f; simp)]
       · cases hv
     · cases hv
 · cases hv
end
end Go.Ev
namespace Go.Ev
section
variable {P : Program} {ρ : Rho}
theorem str_of {σ : Sig} {s : List Nat} (h : okStr s) : conc ρ σ (.str s) = some (.string (bytesOf s)) := by
 have : s.all (fun n => decide (n < 256)) = true := by simpa [okStr] using h
 simp only [conc, this, if_true]
def strOf : List AV -> Option (List Nat)
 | [] => some []
 | .int .u8 (.ofNat m) :: l => bif Nat.blt m 256 then (match strOf l with
   | some r => some (m :: r)
   | none => none) else none
 | _ => none
theorem strOf_ok {σ : Sig} : ∀ {l : List AV} {cs : List Value} {s : List Nat}, strOf l = some s -> concL ρ σ l = some cs -> okStr s /\ s.length = l.length /\ cs = (s.map Int.ofNat).map (Value.int .u8)
 | [], cs, s, h, hc => by
   simp [strOf] at h; subst h
   simp [concL] at hc; subst hc
   exact ⟨by simp [okStr], rfl, rfl⟩
 | v :: l, cs, s, h, hc => by
   unfold strOf at h
   split at h
   · cases h
     rename_i e; cases e
   · rename_i m l' e
     cases e
     cases hm : Nat.blt m 256 with
     | false => rw [hm] at h; simp at h
     | true =>
       rw [hm] at h
       simp only [cond_true] at h
       split at h
       · rename_i r hr
         cases h
         obtain ⟨c, cr, h1, h2, h3⟩ := concL_cons hc
         obtain rfl := conc_int h1
         obtain ⟨q1, q2, q3⟩ := strOf_ok hr h2
         have hm' : m < 256 := by simpa using hm
         refine ⟨?_, by simp [q2], by rw [h3, q3]; rfl⟩
         simp only [okStr, List.all_cons, Bool.and_eq_true] at q1 ⊢
         exact ⟨by simpa using hm', q1⟩
       · cases h
   · cases h
theorem foldl_push : ∀ (s : List Nat) (acc : ByteArray), (s.map Int.ofNat).foldl (fun r n => r.push (UInt8.ofNat n.toNat)) acc = ⟨acc.data ++ (s.map UInt8.ofNat).toArray⟩
 | [], acc => by simp
 | m :: s, acc => by
   simp only [List.map_cons, List.foldl_cons]
   rw [foldl_push s]
   apply ByteArray.ext
   simp [ByteArray.push]
def bytesStrV : List AV -> H -> Option AV
 | [.nilslice], _ => some (.str [])
 | [.slice b o n _ _], h => bif Nat.beq n 0 then some (.str []) else match h.get b with
   | some (.cells _ vs _ _) => bif Nat.ble (o + n) vs.length then (match strOf ((vs.drop o).take n) with
     | some s => some (.str s)
     | none => none) else none
   | _ => none
 | _, _ => none
theorem bytesStr_ok {o : Oper} {s d e : TypeId} {x : Operand} (h : o.op = .convert s d x) (hs' : P.underlying s = some (.slice e)) (he : P.underlying e = some (.int .u8)) (hd : P.underlying d = some .string) : LightOk P ρ o bytesStrV := by
 intro σ l hh a w v hg hs hH hv
 unfold bytesStrV at hv
 split at hv
 · cases hv
   obtain ⟨c, hc, hl⟩ := concL_one hs
   simp [opVals, h, Op.operands] at hl
   simp only [conc, Option.some.injEq] at hc
   subst hc
   refine ⟨.string (bytesOf []), rfl, ?_⟩
   simp only [execOp, h, hl, Sem.run_bind, run_convert_bytes_string w s d e _ _ _ hs' he hd]
   rfl
 · rename_i b off n esz cap
   obtain ⟨c, hc, hl⟩ := concL_one hs
   simp [opVals, h, Op.operands] at hl
   obtain ⟨p', hp', rfl⟩ := conc_slice hc
   have fin : ∀ (st : List Nat), okStr st -> (loadCells ⟨p'.blk, p'.del + off, none⟩ n).run P w = .ok ((st.map Int.ofNat).map (Value.int .u8)).toArray w ->
       ∃ c, conc ρ σ (.str st) = some c /\ (execOp (evalT a) o).run P w = .ok (.value c) w := fun st ok hld => by
     refine ⟨.string (bytesOf st), str_of ok, ?_⟩
     have hr := run_bytesToString w ⟨p'.blk, p'.del + off, none⟩ n (capN p' off esz cap) _ hld
     rw [foldl_push] at hr
     simp only [execOp, h, hl, Sem.run_bind, run_convert_bytes_string w s d e _ _ _ hs' he hd, hr, Result.andThen_ok, Sem.run_pure]
     congr 2
     simp [bytesOf]
   cases h0 : Nat.beq n 0 with
   | true =>
     rw [h0] at hv
     simp only [cond_true, Option.some.injEq] at hv
     subst hv
     obtain rfl := Nat.eq_of_beq_eq_true h0
     exact fin [] (by simp [okStr]) (by simp [loadCells, loadCellsFrom])
   | false =>
     rw [h0] at hv
     simp only [cond_false] at hv
     split at hv
     · rename_i elem vs tight wr hb
       cases hle : Nat.ble (off + n) vs.length with
       | false => rw [hle] at hv; simp at hv
       | true =>
         rw [hle] at hv
         simp only [cond_true] at hv
         have hle := Nat.le_of_ble_eq_true hle
         split at hv
         · rename_i st hst
           cases hv
           obtain ⟨p, arr, fz, cs, hp, h1, h2, h3, h4, h5, h6, h7, h8⟩ := hH.cells hb
           obtain rfl : p = p' := Option.some.inj (hp.symm.trans hp')
           have hlen := concL_length h5
           obtain ⟨q1, q2, q3⟩ := strOf_ok hst (concL_take n (concL_drop off h5))
           have hld := run_loadCells (P := P) (w := w) p.blk (p.del + off) n ((cs.drop off).take n) (by simp; omega) fun j hj => by
             rw [Nat.add_assoc, h6 (off + j) (by omega)]
             simp [List.getElem?_take, hj]
           refine fin st q1 ?_
           rw [hld, q3]
         · cases hv
     · cases hv
 · cases hv
theorem run_viewAt {w : World} {r : Nat} {sh : TypeId × Nat} (h : w.shape? r = some sh) : (viewAt r).run P w = .ok none w := by
 simp [viewAt, h]
theorem run_cellsIn {w : World} {r n : Nat} {e : TypeId} (h : w.shape? r = some (e, n)) : (cellsIn r).run P w = .ok (some n) w := by
 simp [cellsIn, h]
theorem run_seenAt {w : World} {a : Addr} {sh : TypeId × Nat} (h : w.shape? a.block = some sh) : (Conv.seenAt a).run P w = .ok a w := by
 simp [Conv.seenAt, run_viewAt h]
def toUnsafeV : List AV -> H -> Option AV
 | [.nilptr], _ => some .nilptr
 | [.ptr b o], h => match h.get b with
   | some (.cells _ vs _ _) => bif Nat.blt o vs.length then some (.ptr b o) else none
   | _ => none
 | _, _ => none
theorem toUnsafe_ok {o : Oper} {s d t : TypeId} {x : Operand} {ti : TypeInfo} (h : o.op = .convert s d x) (hs' : P.underlying s = some (.pointer t)) (hd : P.underlying d = some .unsafePointer) (ht : P.info? t = some ti) (hn : ti.size ≠ 0) : LightOk P ρ o toUnsafeV := by
 intro σ l hh a w v hg hs hH hv
 unfold toUnsafeV at hv
 split at hv
 · cases hv
   obtain ⟨c, hc, hl⟩ := concL_one hs
   simp [opVals, h, Op.operands] at hl
   simp only [conc, Option.some.injEq] at hc
   subst hc
   refine ⟨_, rfl, ?_⟩
   simp [execOp, h, hl, convert, run_und hs', run_und hd, Conv.unsafePointer]
 · rename_i b off
   split at hv
   · rename_i elem vs tight wr hb
     cases hlt : Nat.blt off vs.length with
     | false => rw [hlt] at hv; simp at hv
     | true =>
       rw [hlt] at hv
       simp only [cond_true, Option.some.injEq] at hv
       subst hv
       have hlt : off < vs.length := by simpa using hlt
       obtain ⟨c, hc, hl⟩ := concL_one hs
       simp [opVals, h, Op.operands] at hl
       obtain ⟨p', hp', rfl⟩ := conc_ptr hc
       obtain ⟨p, arr, fz, cs, hp, h1, h2, h3, h4, h5, h6, h7, h8⟩ := hH.cells hb
       obtain rfl : p = p' := Option.some.inj (hp.symm.trans hp')
       refine ⟨_, hc, ?_⟩
       have hsh : w.shape? p.blk = some (elem, arr.size) := by simp [World.shape?, h1]
       have hsn := run_seenAt (P := P) (a := ⟨p.blk, p.del + off, none⟩) hsh
       have hci := run_cellsIn (P := P) hsh
       have hno : ¬ (p.del + off ≥ arr.size) := by omega
       simp only [execOp, h, hl, convert, run_und hs', run_und hd, Sem.run_bind, Result.andThen_ok, Conv.unsafePointer, hsn, hci, run_size ht, hno, hn, Sem.run_pure]
       simp [hn]
   · cases hv
 · cases hv
def ofUnsafeV (u sz : Nat) : List AV -> H -> Option AV
 | [.nilptr], _ => some .nilptr
 | [.ptr b o], h => match h.get b with
   | some (.cells e vs true _) => bif Nat.beq e u && Nat.beq (Nat.mod o sz) 0 && Nat.ble (o + sz) vs.length then some (.ptr b o) else none
   | _ => none
 | _, _ => none
theorem liesAt_one {u : TypeId} {sz off n : Nat} (hc : P.cellsOf u = sz) (hz : sz ≠ 0) (h0 : off % sz = 0) (hn : off + sz <= n) : liesAt P P.depth u (n / sz) off u 1 = true := by
 have hd : P.depth = (2 * (P.types.size + Made.depth) + 1) + 1 := rfl
 rw [hd]
 simp only [liesAt, Bool.or_eq_true]
 left
 rw [hd]
 have : off / sz + 1 <= n / sz := by
   have := Nat.div_le_div_right (c := sz) hn
   rw [Nat.add_div_right _ (by omega)] at this
   exact this
 simp [rowAt, hc, hz, h0, this, sameLayout]
theorem ofUnsafe_ok {o : Oper} {s d u : TypeId} {x : Operand} {ui : TypeInfo} (h : o.op = .convert s d x) (hs' : P.underlying s = some .unsafePointer) (hd : P.underlying d = some (.pointer u)) (hu : P.info? u = some ui) (hn : ui.size ≠ 0) : LightOk P ρ o (ofUnsafeV u ui.size) := by
 intro σ l hh a w v hg hs hH hv
 unfold ofUnsafeV at hv
 split at hv
 · cases hv
   obtain ⟨c, hc, hl⟩ := concL_one hs
   simp [opVals, h, Op.operands] at hl
   simp only [conc, Option.some.injEq] at hc
   subst hc
   refine ⟨_, rfl, ?_⟩
   simp [execOp, h, hl, convert, run_und hs', run_und hd, Conv.unsafePointer]
 · rename_i b off
   split at hv
   · rename_i elem vs wr hb
     cases hcc : (Nat.beq elem u && Nat.beq (Nat.mod off ui.size) 0 && Nat.ble (off + ui.size) vs.length) with
     | false => rw [hcc] at hv; simp at hv
     | true =>
       rw [hcc] at hv
       simp only [cond_true, Option.some.injEq] at hv
       subst hv
       simp only [Bool.and_eq_true] at hcc
       obtain ⟨⟨e1, e2⟩, e3⟩ := hcc
       obtain rfl := Nat.eq_of_beq_eq_true e1
       have e2 : off % ui.size = 0 := Nat.eq_of_beq_eq_true e2
       have e3 := Nat.le_of_ble_eq_true e3
       obtain ⟨c, hc, hl⟩ := concL_one hs
       simp [opVals, h, Op.operands] at hl
       obtain ⟨p', hp', rfl⟩ := conc_ptr hc
       obtain ⟨p, arr, fz, cs, hp, h1, h2, h3, h4, h5, h6, h7, h8⟩ := hH.cells hb
       obtain rfl : p = p' := Option.some.inj (hp.symm.trans hp')
       obtain ⟨t1, t2⟩ := h4 rfl
       refine ⟨_, hc, ?_⟩
       have hsh : w.shape? p.blk = some (elem, arr.size) := by simp [World.shape?, h1]
       have hsn := run_seenAt (P := P) (a := ⟨p.blk, p.del + off, none⟩) hsh
       have hcl : P.cellsOf elem = ui.size := by simp [Program.cellsOf, hu]
       have hv : (variablesAt ⟨p.blk, p.del + off, none⟩ elem 1).run P w = .ok true w := by
         simp only [variablesAt, Sem.run_bind, run_program, Result.andThen_ok, run_shape, hsh, Sem.run_pure, hcl]
         rw [liesAt_one hcl hn (by rw [t2]; simpa using e2) (by omega)]
       simp only [execOp, h, hl, convert, run_und hs', run_und hd, Sem.run_bind, Result.andThen_ok, Conv.unsafePointer, hsn, run_size hu, hv, Sem.run_pure]
       simp
   · cases hv
 · cases hv
def sliceDataV : List AV -> H -> Option AV
 | [.nilslice], _ => some .nilptr
 | [.slice b o n esz none], h => match h.get b with
   | some (.cells _ vs _ _) => bif Nat.ble (o + esz) vs.length && Nat.blt 0 esz then some (.ptr b o) else none
   | _ => none
 | _, _ => none
theorem sliceData_ok {o : Oper} {c : Call} (h : o.op = .call c) (hc : c.callee = .builtin .unsafeSliceData) : LightOk P ρ o sliceDataV := by
 intro σ l hh a w v hg hs hH hv
 rw [opVals_builtin h hc] at hs
 have done : ∀ (u r : Value), (c.args.map (evalT a)).toList = [u] -> (Builtin.unsafeSliceData_ c.argTypes o.type #[u]).run P w = .ok r w -> (execOp (evalT a) o).run P w = .ok (.value r) w := fun u r hl hr => by
   refine exec_builtin h hc fun cs => ?_
   have he : c.args.map (evalT a) = #[u] := by apply Array.ext'; rw [hl]
   rw [he]
   simp only [builtin, Sem.run_bind, hr, Result.andThen_ok, Sem.run_pure]
 unfold sliceDataV at hv
 split at hv
 · cases hv
   obtain ⟨cx, hcx, hl⟩ := concL_one hs
   simp only [conc, Option.some.injEq] at hcx
   subst hcx
   exact ⟨_, rfl, done _ _ hl (Lib.run_unsafeSliceData_nil w _ _ _ _)⟩
 · rename_i b off n esz
   split at hv
   · rename_i elem vs tight wr hb
     cases hcc : (Nat.ble (off + esz) vs.length && Nat.blt 0 esz) with
     | false => rw [hcc] at hv; simp at hv
     | true =>
       rw [hcc] at hv
       simp only [cond_true, Option.some.injEq] at hv
       subst hv
       simp only [Bool.and_eq_true] at hcc
       obtain ⟨e1, e2⟩ := hcc
       have e1 := Nat.le_of_ble_eq_true e1
       have e2 : 0 < esz := by simpa using e2
       obtain ⟨cx, hcx, hl⟩ := concL_one hs
       obtain ⟨p', hp', rfl⟩ := conc_slice hcx
       obtain ⟨p, arr, fz, cs, hp, h1, h2, h3, h4, h5, h6, h7, h8⟩ := hH.cells hb
       obtain rfl : p = p' := Option.some.inj (hp.symm.trans hp')
       refine ⟨.pointer (some ⟨p.blk, p.del + off, none⟩), by simp [conc, hp], done _ _ hl (Lib.run_unsafeSliceData_row w _ _ _ _ _ ?_)⟩
       simp only [capN]
       have : 1 <= (p.tot - off) / esz := (Nat.le_div_iff_mul_le e2).2 (by omega)
       omega
   · cases hv
 · cases hv
def unsafeStrV (e : Nat) : List AV -> H -> Option (AV × H)
 | [.nilptr, .int .i64 (.ofNat 0)], h => some (.str [], h)
 | [.ptr b o, .int .i64 (.ofNat n)], h => match h.get b with
   | some (.cells el vs tight wr) => bif Nat.beq el e && Nat.blt 0 n && Nat.ble (o + n) vs.length && Nat.blt b maxT && Nat.blt n 9223372036854775807 then (match strOf ((vs.drop o).take n) with
     | some s => some (.str s, h.upd b (some (.cells el vs tight false)))
     | none => none) else none
   | _ => none
 | _, _ => none
theorem freeze_eq {w : World} {r o n : Nat} {arr : Array Value} {elem : TypeId} {fz : Nat × Nat} (h : w.heap[r]? = some (.cells arr elem fz)) (hn : n ≠ 0) : ∃ fz', w.freeze ⟨r, o, none⟩ n = setO w r (.cells arr elem fz') := by
 obtain ⟨lo, hi⟩ := fz
 refine ⟨if lo == hi then (o, o + n) else (min lo o, max hi (o + n)), ?_⟩
 unfold World.freeze setO
 rw [if_neg hn]
 congr 1
 apply Array.ext_getElem?
 intro i
 rw [Array.getElem?_modify, Array.getElem?_setIfInBounds]
 have hlt : r < w.heap.size := (Array.getElem?_eq_some_iff.1 h).1
 by_cases e : r = i
 · subst e
   simp only [if_true, h, Option.map_some, hlt]
 · simp [e]
theorem liesAt_bytesAt {e : TypeId} (hc : P.cellsOf e = 1) (count off n : Nat) (hn : off + n <= count) : liesAt P P.depth e count off e n = true := by
 have hd : P.depth = (2 * (P.types.size + Made.depth) + 1) + 1 := rfl
 rw [hd]
 simp only [liesAt, Bool.or_eq_true]
 left
 rw [hd]
 simp [rowAt, hc, hn, sameLayout, Nat.mod_one]
theorem unsafeStr_ok {o : Oper} {c : Call} {pt e : TypeId} {ei : TypeInfo} (h : o.op = .call c) (hc : c.callee = .builtin .unsafeString) (hat : c.argTypes[0]? = some pt) (hp' : P.underlying pt = some (.pointer e)) (hei : P.info? e = some ei) (h1' : ei.size = 1) : HeavyOk P ρ o (unsafeStrV e) := by
 intro σ l hh a w v h' hg hs hH hv
 rw [opVals_builtin h hc] at hs
 have hmax : IntKind.i64.max = 9223372036854775807 := rfl
 have done : ∀ (u x r : Value) (w' : World), (c.args.map (evalT a)).toList = [u, x] -> (Builtin.unsafeString_ c.argTypes o.type #[u, x]).run P w = .ok r w' -> (execOp (evalT a) o).run P w = .ok (.value r) w' := fun u x r w' hl hr => by
   refine exec_builtin h hc fun cs => ?_
   have he : c.args.map (evalT a) = #[u, x] := by apply Array.ext'; rw [hl]
   rw [he]
   simp only [builtin, Sem.run_bind, hr, Result.andThen_ok, Sem.run_pure]
 unfold unsafeStrV at hv
 split at hv
 · simp only [Option.some.injEq, Prod.mk.injEq] at hv
   obtain ⟨rfl, rfl⟩ := hv
   obtain ⟨cx, cy, hcx, hcy, hl⟩ := concL_two hs
   simp only [conc, Option.some.injEq] at hcx
   subst hcx
   obtain rfl := conc_int hcy
   refine .inl ⟨.string .empty, w, done _ _ _ _ hl ?_, σ, ?_, hH, .refl _ _ _⟩
   · change (asInt (.int .i64 (Int.ofNat 0)) >>= _ : Sem Value).run P w = _
     simp [asInt, asIntOf, hmax, hat]
   · rfl
 · rename_i b off n
   split at hv
   · rename_i el vs tight wr hb
     cases hcc : (Nat.beq el e && Nat.blt 0 n && Nat.ble (off + n) vs.length && Nat.blt b maxT && Nat.blt n 9223372036854775807) with
     | false => rw [hcc] at hv; simp at hv
     | true =>
       rw [hcc] at hv
       simp only [cond_true] at hv
       simp only [Bool.and_eq_true] at hcc
       obtain ⟨⟨⟨⟨e1, e2⟩, e3⟩, e4⟩, e5⟩ := hcc
       obtain rfl := Nat.eq_of_beq_eq_true e1
       have e2 : 0 < n := by simpa using e2
       have e3 := Nat.le_of_ble_eq_true e3
       have e4 : b < maxT := by simpa using e4
       have e5 : n < 9223372036854775807 := by simpa using e5
       split at hv
       · rename_i st hst
         simp only [Option.some.injEq, Prod.mk.injEq] at hv
         obtain ⟨rfl, rfl⟩ := hv
         obtain ⟨cx, cy, hcx, hcy, hl⟩ := concL_two hs
         obtain ⟨p', hp2, rfl⟩ := conc_ptr hcx
         obtain rfl := conc_int hcy
         obtain ⟨p, arr, fz, cs, hp, h1, h2, h3, h4, h5, h6, h7, h8⟩ := hH.cells hb
         obtain rfl : p = p' := Option.some.inj (hp.symm.trans hp2)
         have hlen := concL_length h5
         obtain ⟨q1, q2, q3⟩ := strOf_ok hst (concL_take n (concL_drop off h5))
         have hn : st.length = n := by rw [q2]; simp; omega
         obtain ⟨fz', hfz⟩ := freeze_eq (o := p.del + off) h1 (show n ≠ 0 by omega)
         have hblk : p.blk < w.heap.size := (Array.getElem?_eq_some_iff.1 h1).1
         obtain ⟨g1, g2⟩ := hH.put (x := .cells el vs tight false) (o := .cells arr el fz') hb hp e4 hblk ⟨arr, fz', rfl, h2, h3, h4, ⟨cs, h5, h7⟩, fun h => by cases h⟩
         refine .inl ⟨.string (bytesOf st), _, done _ _ _ _ hl ?_, σ, str_of q1, g1, g2⟩
         have hcl : P.cellsOf el = 1 := by simp [Program.cellsOf, hei, h1']
         have hsh : w.shape? p.blk = some (el, arr.size) := by simp [World.shape?, h1]
         have hva : (variablesAt ⟨p.blk, p.del + off, none⟩ el n).run P w = .ok true w := by
           simp only [variablesAt, Sem.run_bind, run_program, Result.andThen_ok, run_shape, hsh, Sem.run_pure, hcl, Nat.div_one]
           rw [liesAt_bytesAt hcl _ _ _ (by omega)]
         have hlb := Lib.run_loadBytes (P := P) w (st.map UInt8.ofNat) ⟨p.blk, p.del + off, none⟩ .empty (fun j x hx => by
           rw [add_addr, Nat.add_assoc]
           have hj : j < n := by
             have := (List.getElem?_eq_some_iff.1 hx).1
             simpa [hn] using this
           rw [h6 (off + j) (by omega)]
           have : ((cs.drop off).take n)[j]? = cs[off + j]? := by simp [List.getElem?_take, hj]
           rw [← this, q3]
           simp only [List.getElem?_map, Option.map_eq_some_iff] at hx
           obtain ⟨m, hm1, rfl⟩ := hx
           simp only [List.getElem?_map, hm1, Option.map_some]
           have : m < 256 := by
             have := List.all_eq_true.1 q1 m (List.mem_of_getElem? hm1)
             simpa using this
           congr 1
           simp [Nat.mod_eq_of_lt this])
         rw [List.length_map, hn] at hlb
         have hel : (elemOf pt).run P w = .ok el w := by simp [elemOf, run_und hp']
         have n1 : ¬ ((n : Int) < 0) := by omega
         have n2 : ¬ ((n : Int) > 9223372036854775807) := by omega
         have n3 : ¬ ((n : Int) = 0) := by omega
         change (asInt (.int .i64 (Int.ofNat n)) >>= _ : Sem Value).run P w = _
         simp only [asInt, asIntOf, Sem.run_bind, Sem.run_pure, Result.andThen_ok, hat, hmax, Int.ofNat_eq_natCast, n1, n2, n3, if_false, hel, Int.toNat_natCast, hva, if_true, hlb, run_freeze, hfz]
         congr 2
         simp [bytesOf]
       · cases hv
   · cases hv
 · cases hv
def lenMapV : List AV -> H -> Option AV
 | [.nilmap], _ => natV 0
 | [.map b], h => match h.get b with
   | some (.map es _) => natV es.length
   | _ => none
 | _, _ => none
theorem lenMap_ok {o : Oper} {c : Call} {t k e : TypeId} (h : o.op = .call c) (hc : c.callee = .builtin .len) (ht : c.argTypes[0]? = some t) (hu : P.underlying t = some (.map k e)) : LightOk P ρ o lenMapV := by
 intro σ s hh a w v hg hs hH hv
 rw [opVals_builtin h hc] at hs
 unfold lenMapV at hv
 split at hv
 · rw [natV_eq] at hv; cases hv
   obtain ⟨x, hx, hl⟩ := concL_one hs
   simp only [conc, Option.some.injEq] at hx
   subst hx
   refine ⟨_, rfl, run_len h hc hl ?_⟩
   simp [Builtin.len_, ht, run_und hu]
 · split at hv
   · rename_i b _ es clk hb
     rw [natV_eq] at hv; cases hv
     obtain ⟨x, hx, hl⟩ := concL_one hs
     simp only [conc, Option.map_eq_some_iff] at hx
     obtain ⟨p, hp, rfl⟩ := hx
     obtain ⟨p', ms, hp', _, hobj, hents, _⟩ := hH.map hb
     obtain rfl : p = p' := Option.some.inj (hp.symm.trans hp')
     have hget := run_getObj (P := P) hobj (by intro c e f; simp)
     refine ⟨_, rfl, run_len h hc hl ?_⟩
     have := entsRel_length hents
     simp at this
     simp [Builtin.len_, ht, run_und hu, hget, this]
   · cases hv
 · cases hv
end
end Go.Ev
namespace Go.Ev
def Entry (P : Program) (f : FuncId) (e : Array Value -> Sem Value) : Prop := ∀ args w, (callFunc f args).run P w = ((e args).run P w).andThen fun v w' => .ok (.value v) w'
section
variable {P : Program} {ρ : Rho}
theorem Entry.of {f : FuncId} {fn : Func} {e : Array Value -> Sem Value} (hf : P.funcs[f]? = some fn) (hname : (fn.name == "runtime.NumGoroutine") = false) (hb : fn.body.isNone = true) (hn : Extern.findNext fn = none) (he : Extern.find fn = some e) : Entry P f e :=
 fun args w => run_callFunc_extern hf hname hb hn he args w
theorem Entry.fn {f : FuncId} {e : Array Value -> Sem Value} (h : Entry P f e) {F : List AV -> H -> Option (AV × H)}
   (hF : ∀ σ args hh v h' cs w, GOk P σ -> concL ρ σ args = some cs -> HRel ρ σ hh w -> F args hh = some (v, h') -> ∃ c w', (e cs.toArray).run P w = .ok c w' /\ After ρ σ hh w v h' c w') : FnOk P ρ f F := by
 intro σ args hh v h' cs w hg hc hH hv
 obtain ⟨c, w', h1, h2⟩ := hF σ args hh v h' cs w hg hc hH hv
 exact .inl ⟨c, w', by rw [h cs.toArray w, h1]; rfl, h2⟩
theorem Entry.pure {f : FuncId} {e : Array Value -> Sem Value} (h : Entry P f e) {F : List AV -> Option AV}
   (hF : ∀ σ args v cs w, concL ρ σ args = some cs -> F args = some v -> ∃ c, (e cs.toArray).run P w = .ok c w /\ conc ρ σ v = some c) : FnOk P ρ f (fun a hh => match F a with | some v => some (v, hh) | none => none) :=
 h.fn fun σ args hh v h' cs w hg hc hH hv => by
   split at hv
   · rename_i v' hv'
     simp only [Option.some.injEq, Prod.mk.injEq] at hv
     obtain ⟨rfl, rfl⟩ := hv
     obtain ⟨c, h1, h2⟩ := hF σ args _ cs w hc hv'
     exact ⟨c, w, h1, σ, h2, hH, .refl _ _ _⟩
   · cases hv
def sameV : List AV -> Option AV
 | [x] => some x
 | _ => none
theorem noEscape_ok {f : FuncId} (h : Entry P f Extern.AbiNoEscape.same) : FnOk P ρ f (fun a hh => match sameV a with | some v => some (v, hh) | none => none) :=
 h.pure fun σ args v cs w hc hv => by
   unfold sameV at hv
   split at hv
   · cases hv
     obtain ⟨x, hx, rfl⟩ := concL_one hc
     exact ⟨x, rfl, hx⟩
   · cases hv
def idxI (c : Nat) : List Nat -> Nat -> Int
 | [], _ => -1
 | b :: l, i => bif Nat.beq b c then .ofNat i else idxI c l (i + 1)
theorem u8_eq {a b : Nat} (ha : a < 256) (hb : b < 256) : (UInt8.ofNat a == UInt8.ofNat b) = Nat.beq a b := by
 by_cases h : a = b
 · subst h; simp
 · rw [beq_ne h, beq_eq_false_iff_ne]
   intro e
   have := congrArg UInt8.toNat e
   simp [Nat.mod_eq_of_lt ha, Nat.mod_eq_of_lt hb] at this
   exact h this
theorem idxI_eq {c : Nat} (hc : c < 256) : ∀ (s : List Nat) (i : Nat), okStr s -> idxI c s i = if Lib.indexByte (s.map UInt8.ofNat) (UInt8.ofNat c) = -1 then -1 else Lib.indexByte (s.map UInt8.ofNat) (UInt8.ofNat c) + i
 | [], i, _ => by simp [idxI, Lib.indexByte]
 | b :: s, i, h => by
   obtain ⟨h1, h2⟩ := okStr_cons h
   simp only [idxI, List.map_cons, Lib.indexByte, u8_eq h1 hc]
   cases hb : Nat.beq b c with
   | true => simp
   | false =>
     simp only [cond_false, Bool.false_eq_true, if_false]
     rw [idxI_eq hc s (i + 1) h2]
     have := Lib.indexByte_ge (s.map UInt8.ofNat) (UInt8.ofNat c)
     by_cases e : Lib.indexByte (s.map UInt8.ofNat) (UInt8.ofNat c) = -1
     · simp [e]
     · have e' : (Lib.indexByte (s.map UInt8.ofNat) (UInt8.ofNat c) == -1) = false := by simpa using e
       rw [if_neg e, e']
       simp only [Bool.false_eq_true, if_false]
       rw [if_neg (by omega)]
       omega
def indexByteV : List AV -> Option AV
 | [.str s, .int .u8 (.ofNat c)] => bif Nat.blt c 256 then strictI (idxI c s 0) fun n => some (.int .i64 n) else none
 | _ => none
theorem bytes_list (s : List Nat) : (bytesOf s).data.toList = s.map UInt8.ofNat := by simp [bytesOf]
theorem indexByte_ok {f : FuncId} (h : Entry P f Extern.BytealgIndexByte.indexByte) : FnOk P ρ f (fun a hh => match indexByteV a with | some v => some (v, hh) | none => none) :=
 h.pure fun σ args v cs w hc hv => by
   unfold indexByteV at hv
   split at hv
   · rename_i s c
     cases hcc : Nat.blt c 256 with
     | false => rw [hcc] at hv; simp at hv
     | true =>
       rw [hcc] at hv
       simp only [cond_true, strictI_eq, Option.some.injEq] at hv
       subst hv
       have hc' : c < 256 := by simpa using hcc
       obtain ⟨x, y, hx, hy, rfl⟩ := concL_two hc
       obtain ⟨ok, rfl⟩ := conc_str hx
       obtain rfl := conc_int hy
       refine ⟨_, Lib.run_indexByteString _ _ _, ?_⟩
       rw [idxI_eq hc' s 0 ok, bytes_list]
       simp only [conc, Int.ofNat_eq_natCast, Int.toNat_natCast, Nat.toUInt8]
       congr 2
       split
       · rename_i e; rw [e]
       · simp
   · cases hv
def cntN (c : Nat) : List Nat -> Nat -> Nat
 | [], n => n
 | b :: l, n => bif Nat.beq b c then cntN c l (n + 1) else cntN c l n
theorem cntN_eq {c : Nat} (hc : c < 256) : ∀ (s : List Nat) (n : Nat), okStr s -> cntN c s n = n + Lib.countByte (s.map UInt8.ofNat) (UInt8.ofNat c)
 | [], n, _ => by simp [cntN, Lib.countByte]
 | b :: s, n, h => by
   obtain ⟨h1, h2⟩ := okStr_cons h
   have e := u8_eq h1 hc
   simp only [cntN, List.map_cons, Lib.countByte, List.count_cons]
   rw [e, cntN_eq hc s (n + 1) h2, cntN_eq hc s n h2]
   cases Nat.beq b c <;> simp [Lib.countByte] <;> omega
def countV : List AV -> Option AV
 | [.str s, .int .u8 (.ofNat c)] => bif Nat.blt c 256 then natV (cntN c s 0) else none
 | _ => none
theorem count_ok {f : FuncId} (h : Entry P f Extern.BytealgCount.count) : FnOk P ρ f (fun a hh => match countV a with | some v => some (v, hh) | none => none) :=
 h.pure fun σ args v cs w hc hv => by
   unfold countV at hv
   split at hv
   · rename_i s c
     cases hcc : Nat.blt c 256 with
     | false => rw [hcc] at hv; simp at hv
     | true =>
       rw [hcc] at hv
       simp only [cond_true, natV_eq, Option.some.injEq] at hv
       subst hv
       have hc' : c < 256 := by simpa using hcc
       obtain ⟨x, y, hx, hy, rfl⟩ := concL_two hc
       obtain ⟨ok, rfl⟩ := conc_str hx
       obtain rfl := conc_int hy
       refine ⟨_, Lib.run_countString _ _ _, ?_⟩
       rw [cntN_eq hc' s 0 ok, bytes_list]
       simp [conc, Nat.toUInt8]
   · cases hv
def noZeroV (e : Nat) : List AV -> H -> Option (AV × H)
 | [.int .i64 (.ofNat n)], h => bif Nat.ble n 281474976710656 && Nat.blt h.nx maxT then some (.slice h.nx 0 n 1 none, h.add (.cells e [] false true)) else none
 | _, _ => none
theorem noZero_ok {f : FuncId} {ps : Array TypeId} {t e : TypeId} (h : Entry P f (Extern.BytealgMakeNoZero.makeNoZero ps #[t])) (ht : P.underlying t = some (.slice e)) : FnOk P ρ f (noZeroV e) :=
 h.fn fun σ args hh v h' cs w hg hc hH hv => by
   unfold noZeroV at hv
   split at hv
   · rename_i n
     cases hcc : (Nat.ble n 281474976710656 && Nat.blt hh.nx maxT) with
     | false => rw [hcc] at hv; simp at hv
     | true =>
       rw [hcc] at hv
       simp only [cond_true, Option.some.injEq, Prod.mk.injEq] at hv
       obtain ⟨rfl, rfl⟩ := hv
       simp only [Bool.and_eq_true] at hcc
       have h1 := Nat.le_of_ble_eq_true hcc.1
       have h2 : hh.nx < maxT := by simpa using hcc.2
       obtain ⟨x, hx, rfl⟩ := concL_one hc
       obtain rfl := conc_int hx
       obtain ⟨cells, hr, hle, _⟩ := Lib.run_makeNoZero (P := P) w ps t e ht n h1
       have hfr := hH.fresh hh.nx (Nat.le_refl _)
       have hO : ORel ρ (updS σ hh.nx ⟨w.heap.size, 0, cells.size⟩) ⟨w.heap.size, 0, cells.size⟩ (some (.cells cells e)) (.cells e [] false true) :=
         ⟨cells, (0, 0), rfl, by simp, by simp, (fun h => by cases h), ⟨[], rfl, fun i hi => by simp at hi⟩, fun _ i _ _ => by simp⟩
       refine ⟨_, _, hr, updS σ hh.nx ⟨w.heap.size, 0, cells.size⟩, ?_, hH.add hfr h2 (Nat.le_succ _) (Nat.lt_succ_self _) hO, .add hfr h2 (Nat.le_refl _) (Nat.le_succ _)⟩
       simp [conc, updS, capN]
   · cases hv
end
end Go.Ev
namespace Go.Ev
def rangeF (E : Env) (key nt : Nat) (fo : S -> AV) : SemF := fun x => bif Nat.blt (x.h.nx + 2) maxT then
 match fo x.s with
 | .fn f first cap => match E.call f (first ++ ([.yld (x.h.nx + 1)] ++ cap)) ((x.h.add .deferred).add (.loop key .ready none x.h.nx x.s nt)) with
   | some (_, h3) => match h3.get (x.h.nx + 1) with
     | some (.loop _ .ready none _ _ _) => some (.norm, ⟨x.s, h3.upd (x.h.nx + 1) none, x.h.nx :: x.df⟩)
     | some (.loop _ .done (some .ret) _ _ _) => some (.ret, ⟨x.s, h3.upd (x.h.nx + 1) none, x.h.nx :: x.df⟩)
     | some (.loop _ .done (some (.exit id)) _ _ _) => some (.exit id, ⟨x.s, h3.upd (x.h.nx + 1) none, x.h.nx :: x.df⟩)
     | _ => none
   | none => none
 | _ => none
 else none
def putPs : List Nat -> List AV -> S -> S
 | t :: ts, v :: vs, s => putPs ts vs (put t v s)
 | _, _, s => s
structure LoopSem where
 nt : Nat
 params : List Nat
 Fa : SemF
 Fb : SemF
def yieldF (T : Nat -> Option LoopSem) (b : Nat) (args : List AV) (h : H) : Option (AV × H) := match h.get b with
 | some (.loop key .ready _ _ s nt) => match T key with
   | some L => bif Nat.beq nt L.nt && Nat.beq args.length L.params.length && Nat.blt b maxT then
       match L.Fa ⟨putPs L.params args s, h, []⟩ with
       | some (.norm, ⟨s1, h1, []⟩) => match h1.get b with
         | some (.loop key1 .ready pend1 df1 s1' nt1) => match L.Fb ⟨s1, h1.upd b (some (.loop key1 .busy pend1 df1 s1' nt1)), []⟩ with
           | some (e, ⟨_, h2, []⟩) => match h2.get b with
             | some (.loop key2 _ _ df2 s2' nt2) => match e with
               | .norm => some (.bool true, h2.upd b (some (.loop key2 .ready none df2 s2' nt2)))
               | e => some (.bool false, h2.upd b (some (.loop key2 .done (some e) df2 s2' nt2)))
             | _ => none
           | _ => none
         | _ => none
       | _ => none
     else none
   | none => none
 | _ => none
section
variable {P : Program} {ρ : Rho}
structure LoopsOk (P : Program) (ρ : Rho) (T : Nat -> Option LoopSem) : Prop where
 ok : ∀ key L l, T key = some L -> ρ.loops key = some l -> l.params.toList = L.params /\ (∀ t ∈ L.params, t < L.nt) /\
   SimC P ρ L.nt (fun b => b.roundOf ≠ none) l.assign L.Fa /\ SimC P ρ L.nt (fun b => b.roundOf ≠ none) l.body L.Fb
theorem foldl_toList {α : Type} : ∀ (ps : List Nat) (vs : List Value) (a : Array Value) (f : Array Value -> Nat × Value -> Array Value), ps.length = vs.length ->
   ((ps.toArray.zip vs.toArray).foldl f a) = (ps.zip vs).foldl f a := by
 intro ps vs a f h
 rw [← Array.foldl_toList]
 simp [Array.toList_zip]
theorem putPs_ok {σ : Sig} {nt : Nat} : ∀ (ps : List Nat) (vs : List AV) (cs : List Value) (s : S) (a : Array Value), (∀ t ∈ ps, t < nt) -> concL ρ σ vs = some cs -> SRel ρ σ nt s a ->
   SRel ρ σ nt (putPs ps vs s) ((ps.zip cs).foldl (fun tmps (x : Nat × Value) => tmps.setIfInBounds x.1 x.2) a)
 | [], vs, cs, s, a, _, _, h => by cases vs <;> simpa [putPs] using h
 | t :: ps, [], cs, s, a, _, hc, h => by
   simp [concL] at hc; subst hc
   simpa [putPs] using h
 | t :: ps, v :: vs, cs, s, a, hp, hc, h => by
   obtain ⟨c, cr, h1, h2, rfl⟩ := concL_cons hc
   simp only [putPs, List.zip_cons_cons, List.foldl_cons]
   exact putPs_ok ps vs cr _ _ (fun t ht => hp t (List.mem_cons_of_mem _ ht)) h2 (h.put (hp t (List.mem_cons_self ..)) h1)
variable {b : FC} {a : Array Value} {ds : List Deferred} {k : List Item} {cs : List Frame} {w : World}
theorem run_getLoop {r : Nat} {l : Loop} (h : w.heap[r]? = some (.loop l)) : (Instr.getLoop r).run P w = .ok l w := by
 simp [Instr.getLoop, run_getObj (P := P) h]
theorem st_begin {r : Nat} {l : Loop} {w' : World} (hb : b.roundOf = some r) (hr : (Instr.beginRound r).run P w = .ok () w') :
   step P (lone (fr b a ds (.beginRound :: k)) cs w) = .next (lone (fr b a ds k) cs w') :=
 step_lone_go (by simp [stepG, stepG.exec, stepG.apply, fr, hb, hr, Frame.finish])
theorem st_roundEnd {r : Nat} {c : Frame} {v : Value} {w' : World} (hb : b.roundOf = some r) (hk : b.kind = .normal) (hr : (Instr.endRound r none).run P w = .ok v w') :
   step P (lone (fr b a ds []) (c :: cs) w) = .next (lone (c.finish v) cs w') :=
 step_lone_go (by simp [stepG, stepG.exec, fr, hb, hk, Sem.runT_eq, hr, doReturn])
theorem st_roundRet {r : Nat} {c : Frame} {v : Value} {w' : World} (hb : b.roundOf = some r) (hk : b.kind = .normal) (hr : (Instr.endRound r (some .ret)).run P w = .ok v w') :
   step P (lone (fr b a ds (.code .ret :: k)) (c :: cs) w) = .next (lone (c.finish v) cs w') :=
 step_lone_go (by simp [stepG, stepG.exec, fr, hb, hk, Sem.runT_eq, hr, doReturn])
theorem st_roundExit {r id : Nat} {c : Frame} {v : Value} {w' : World} (hb : b.roundOf = some r) (hk : b.kind = .normal) (he : exitTo id k = none) (hr : (Instr.endRound r (some (.exit id))).run P w = .ok v w') :
   step P (lone (fr b a ds (.code (.exit id) :: k)) (c :: cs) w) = .next (lone (c.finish v) cs w') :=
 step_lone_go (by simp [stepG, stepG.exec, fr, hb, hk, he, Sem.runT_eq, hr, doReturn])
theorem HRel.loop {σ : Sig} {h : H} {w : World} (r : HRel ρ σ h w) {b : Nat} {key : Nat} {st : LoopState} {pend : Option X} {df : Nat} {s : S} {nt : Nat} (hb : h.get b = some (.loop key st pend df s nt)) :
   ∃ p a q l, σ b = some p /\ p.del = 0 /\ ρ.loops key = some l /\ SRel ρ σ nt s a /\ σ df = some q /\ w.heap[p.blk]? = some (.loop { l with state := st, pending := pend.map X.code, tmps := a, defers := q.blk }) /\ p.blk < w.heap.size := by
 obtain ⟨p, hp, hlt, h1, a, q, l, h2, h3, h4, h5⟩ := r.lt hb
 exact ⟨p, a, q, l, hp, h1, h2, h3, h4, h5, hlt⟩
theorem defsOf_nil {σ : Sig} {ds : List Deferred} (h : defsOf σ [] = some ds) : ds = [] := by
 simp [defsOf] at h; exact h
theorem yield_ok {T : Nat -> Option LoopSem} (hT : LoopsOk P ρ T) : YieldOk P ρ (yieldF T) := by
 intro σ b args h v h' cs w p hg hargs hH hp hv
 unfold yieldF at hv
 split at hv
 · rename_i key pend df s nt hb
   split at hv
   · rename_i L hL
     cases hcc : (Nat.beq nt L.nt && Nat.beq args.length L.params.length && Nat.blt b maxT) with
     | false => rw [hcc] at hv; simp at hv
     | true =>
       rw [hcc] at hv
       simp only [cond_true] at hv
       simp only [Bool.and_eq_true] at hcc
       obtain ⟨⟨e1, e2⟩, e3⟩ := hcc
       obtain rfl := Nat.eq_of_beq_eq_true e1
       have e2 := Nat.eq_of_beq_eq_true e2
       have e3 : b < maxT := by simpa using e3
       split at hv
       · rename_i s1 h1 hFa
         split at hv
         · rename_i key1 pend1 df1 s1' nt1 hb1
           split at hv
           · rename_i e s2 h2 hFb
             split at hv
             · rename_i key2 st2 pend2 df2 s2' nt2 hb2
               obtain ⟨p', a0, q, l, hp', hdel, hl, hS, hq, hobj, hlt⟩ := hH.loop hb
               obtain rfl : p = p' := Option.some.inj (hp.symm.trans hp')
               obtain ⟨ok1, ok2, ok3, ok4⟩ := hT.ok key L l hL hl
               have hlen := concL_length hargs
               have hpl : l.params.size = L.params.length := by rw [← ok1]; simp
               refine ⟨l.fn, (l.params.zip cs.toArray).foldl (fun tmps (x : Nat × Value) => tmps.setIfInBounds x.1 x.2) a0, l.assign, l.body, ?_, ?_⟩
               · have : ¬ (cs.toArray.size ≠ l.params.size) := by simp; omega
                 simp only [Instr.yield, Sem.run_bind, run_getLoop hobj, Result.andThen_ok]
                 rw [if_neg this]
                 simp only [Sem.run_pure, Result.andThen_ok]
               · intro c cs'
                 have hfl : (l.params.zip cs.toArray).foldl (fun tmps (x : Nat × Value) => tmps.setIfInBounds x.1 x.2) a0 = (L.params.zip cs).foldl (fun tmps (x : Nat × Value) => tmps.setIfInBounds x.1 x.2) a0 := by
                   rw [← ok1, ← Array.foldl_toList]
                   simp [Array.toList_zip]
                 have hfr : Frame.round p.blk l.fn ((l.params.zip cs.toArray).foldl (fun tmps (x : Nat × Value) => tmps.setIfInBounds x.1 x.2) a0) l.assign l.body .normal =
                     fr ⟨l.fn, .normal, some p.blk⟩ ((L.params.zip cs).foldl (fun tmps (x : Nat × Value) => tmps.setIfInBounds x.1 x.2) a0) [] [.code l.assign, .beginRound, .code l.body] := by
                   rw [hfl]; rfl
                 rw [hfr]
                 obtain ⟨σ1, a1, ds1, w1, r1, g1, l1⟩ := ok3 σ _ _ _ hFa ⟨l.fn, .normal, some p.blk⟩ (by simp) [.beginRound, .code l.body] (c :: cs') _ [] w ⟨putPs_ok L.params args cs s a0 ok2 hargs hS, hH, rfl, hg⟩
                 obtain rfl := defsOf_nil r1.d
                 obtain ⟨p1, a1', q1, lp1, hp1, hdel1, hl1, hS1, hq1, hobj1, hlt1⟩ := r1.h.loop hb1
                 obtain rfl : p = p1 := Option.some.inj ((g1.ext _ _ hp).symm.trans hp1)
                 obtain ⟨x1, x2⟩ := r1.h.put (x := .loop key1 .busy pend1 df1 s1' nt1) (o := .loop { lp1 with state := .busy, pending := pend1.map X.code, tmps := a1', defers := q1.blk }) hb1 hp1 e3 hlt1 ⟨hdel1, a1', q1, lp1, hl1, hS1, hq1, rfl⟩
                 have hbr : (Instr.beginRound p.blk).run P w1 = .ok () (setO w1 p.blk (.loop { lp1 with state := .busy, pending := pend1.map X.code, tmps := a1', defers := q1.blk })) := by
                   simp only [Instr.beginRound, Sem.run_bind, run_getLoop hobj1, Result.andThen_ok, run_setObj (P := P) hobj1 (by intro c e f; simp)]
                   rfl
                 obtain ⟨σ2, a2, ds2, w2, r2, g2, l2⟩ := ok4 σ1 _ _ _ hFb ⟨l.fn, .normal, some p.blk⟩ (by simp) [] (c :: cs') a1 [] _ ⟨r1.s, x1, rfl, r1.g⟩
                 obtain rfl := defsOf_nil r2.d
                 obtain ⟨p2, a2', q2, lp2, hp2, hdel2, hl2, hS2, hq2, hobj2, hlt2⟩ := r2.h.loop hb2
                 obtain rfl : p = p2 := Option.some.inj ((g2.ext _ _ (g1.ext _ _ hp)).symm.trans hp2)
                 have s1 : Steps P (lone (fr ⟨l.fn, .normal, some p.blk⟩ ((L.params.zip cs).foldl (fun tmps (x : Nat × Value) => tmps.setIfInBounds x.1 x.2) a0) [] [.code l.assign, .beginRound, .code l.body]) (c :: cs') w)
                     (lone (fr ⟨l.fn, .normal, some p.blk⟩ a1 [] [.code l.body]) (c :: cs') (setO w1 p.blk (.loop { lp1 with state := .busy, pending := pend1.map X.code, tmps := a1', defers := q1.blk }))) := Steps.trans l1 (.one (st_begin (l := lp1) rfl hbr))
                 have fin : ∀ (st : LoopState) (pe : Option X) (bv : Bool), (Instr.endRound p.blk (pe.map X.code)).run P w2 = .ok (.bool bv) (setO w2 p.blk (.loop { lp2 with state := st, pending := pe.map X.code, tmps := a2', defers := q2.blk })) ->
                     v = .bool bv -> h' = h2.upd b (some (.loop key2 st pe df2 s2' nt2)) ->
                     step P (match e with | .norm => lone (fr ⟨l.fn, .normal, some p.blk⟩ a2 [] []) (c :: cs') w2 | .ret => lone (fr ⟨l.fn, .normal, some p.blk⟩ a2 [] []) (c :: cs') w2 | .exit _ => lone (fr ⟨l.fn, .normal, some p.blk⟩ a2 [] []) (c :: cs') w2) = step P (lone (fr ⟨l.fn, .normal, some p.blk⟩ a2 [] []) (c :: cs') w2) ->
                     ∀ m, Steps P (lone (fr ⟨l.fn, .normal, some p.blk⟩ a1 [] [.code l.body]) (c :: cs') (setO w1 p.blk (.loop { lp1 with state := .busy, pending := pend1.map X.code, tmps := a1', defers := q1.blk }))) m ->
                       step P m = .next (lone (c.finish (.bool bv)) cs' (setO w2 p.blk (.loop { lp2 with state := st, pending := pe.map X.code, tmps := a2', defers := q2.blk }))) ->
                     ∃ u w', After ρ σ h w v h' u w' /\ Steps P (lone (fr ⟨l.fn, .normal, some p.blk⟩ ((L.params.zip cs).foldl (fun tmps (x : Nat × Value) => tmps.setIfInBounds x.1 x.2) a0) [] [.code l.assign, .beginRound, .code l.body]) (c :: cs') w) (lone (c.finish u) cs' w') := fun st pe bv hr hv' hh' _ m hm hst => by
                   subst hv'; subst hh'
                   obtain ⟨y1, y2⟩ := r2.h.put (x := .loop key2 st pe df2 s2' nt2) (o := .loop { lp2 with state := st, pending := pe.map X.code, tmps := a2', defers := q2.blk }) hb2 hp2 e3 hlt2 ⟨hdel2, a2', q2, lp2, hl2, hS2, hq2, rfl⟩
                   exact ⟨.bool bv, _, ⟨σ2, rfl, y1, g1.trans (x2.trans (g2.trans y2))⟩, Steps.trans s1 (Steps.trans hm (.one hst))⟩
                 have her : ∀ (pe : Option X), (Instr.endRound p.blk (pe.map X.code)).run P w2 = .ok (.bool pe.isNone) (setO w2 p.blk (.loop { lp2 with state := if pe.isNone then .ready else .done, pending := pe.map X.code, tmps := a2', defers := q2.blk })) := fun pe => by
                   simp only [Instr.endRound, Sem.run_bind, run_getLoop hobj2, Result.andThen_ok, run_setObj (P := P) hobj2 (by intro c e f; simp), Sem.run_pure]
                   cases pe <;> rfl
                 cases e with
                 | norm =>
                   simp only [Option.some.injEq, Prod.mk.injEq] at hv
                   exact fin .ready none true (her none) hv.1.symm hv.2.symm rfl _ l2 (st_roundEnd rfl rfl (her none))
                 | exit id =>
                   simp only [Option.some.injEq, Prod.mk.injEq] at hv
                   obtain ⟨k2, ek, l2⟩ := l2
                   exact fin .done (some (.exit id)) false (her (some (.exit id))) hv.1.symm hv.2.symm rfl _ l2 (st_roundExit rfl rfl (by rw [ek]; rfl) (her (some (.exit id))))
                 | ret =>
                   simp only [Option.some.injEq, Prod.mk.injEq] at hv
                   obtain ⟨k2, l2⟩ := l2
                   exact fin .done (some .ret) false (her (some .ret)) hv.1.symm hv.2.symm rfl _ l2 (st_roundRet rfl rfl (her (some .ret)))
             · cases hv
           · cases hv
         · cases hv
       · cases hv
   · cases hv
 · cases hv
def mark (r : Nat) : Deferred := { target := .collected r, args := #[] }
theorem run_enterLoop {f : FuncId} {params : Array Tmp} {assign body : Code} :
   (Instr.enterLoop f a params assign body none).run P w = .ok (w.heap.size + 1, [mark w.heap.size])
     { w with heap := (w.heap.push (.deferred (some []))).push (.loop { state := .ready, pending := none, fn := f, tmps := a, params, assign, body, defers := w.heap.size }) } := by
 simp only [Instr.enterLoop, Sem.run_bind, Sem.run_pure, Result.andThen_ok, run_newObj, mark, World.alloc]
 simp
def yieldCall (f : Operand) (l : Nat) : Call := { callee := .value f, args := #[.const (.func (.yield l) #[] #[])], argTypes := #[] }
theorem st_range_enter {f : Operand} {params : Array Tmp} {assign body : Code} {w2 : World} {l : Nat} {mk : List Deferred} {g : FuncId} {args : Array Value} (hb : b.roundOf = none)
   (he : (Instr.enterLoop b.fn a params assign body none).run P w = .ok (l, mk) w2)
   (hr : (do let d ← resolve (evalT a) (yieldCall f l) 0; invoke d.target d.args : Sem Next).run P w2 = .ok (.enter g args) w2) :
   step P (lone (fr b a ds (.code (.rangeFunc f params assign body) :: k)) cs w) = .next (lone (Frame.enter P g args .normal) (fr b a (mk ++ ds) (.inRangeFunc l :: k) :: cs) w2) := by
 have he' := eval_fr b a (mk ++ ds) (.inRangeFunc l :: k)
 simp only [fr, hb] at he'
 simp only [yieldCall] at hr
 exact step_lone_go (by simp only [fr, hb]; simp [stepG, stepG.exec, stepG.apply, Sem.runT_eq, he, he', hr])
theorem st_range_value {f : Operand} {params : Array Tmp} {assign body : Code} {w2 w3 : World} {l : Nat} {mk : List Deferred} {v : Value} (hb : b.roundOf = none)
   (he : (Instr.enterLoop b.fn a params assign body none).run P w = .ok (l, mk) w2)
   (hr : (do let d ← resolve (evalT a) (yieldCall f l) 0; invoke d.target d.args : Sem Next).run P w2 = .ok (.value v) w3) :
   step P (lone (fr b a ds (.code (.rangeFunc f params assign body) :: k)) cs w) = .next (lone (fr b a (mk ++ ds) (.endRangeFunc l :: k)) cs w3) := by
 have he' := eval_fr b a (mk ++ ds) (.inRangeFunc l :: k)
 simp only [fr, hb] at he'
 simp only [yieldCall] at hr
 exact step_lone_go (by simp only [fr, hb]; simp [stepG, stepG.exec, stepG.apply, Sem.runT_eq, he, he', hr, Frame.finish])
theorem st_endRange {l : Nat} {jump : Option Code} {w' : World} (hr : (Instr.endLoop l).run P w = .ok jump w') :
   step P (lone (fr b a ds (.endRangeFunc l :: k)) cs w) = .next (lone (fr b a ds ((jump.map Item.code).toList ++ k)) cs w') :=
 step_lone_go (by simp [stepG, stepG.exec, fr, Sem.runT_eq, hr])
theorem finish_range (v : Value) (l : Nat) : (fr b a ds (.inRangeFunc l :: k)).finish v = fr b a ds (.endRangeFunc l :: k) := rfl
theorem sim_range {E : Env} (hE : EnvOk P ρ E) {key nt : Nat} {fo : S -> AV} {fop : Operand} {params : Array Tmp} {assign body : Code} {B : FC -> Prop} {l0 : Loop} (hB : ∀ b, B b -> b.roundOf = none /\ b.fn = l0.fn)
   (hl : ρ.loops key = some l0) (hps : l0.params = params) (has : l0.assign = assign) (hbo : l0.body = body) (ho : OpdOk P ρ nt fop fo) : SimC P ρ nt B (.rangeFunc fop params assign body) (rangeF E key nt fo) := by
 intro σ x e x' h b hb k cs a ds w hr
 obtain ⟨hb1, hb2⟩ := hB b hb
 unfold rangeF at h
 cases hlt : Nat.blt (x.h.nx + 2) maxT with
 | false => rw [hlt] at h; simp at h
 | true =>
   rw [hlt] at h
   simp only [cond_true] at h
   have hlt : x.h.nx + 2 < maxT := by simpa using hlt
   split at h
   · rename_i f first cap hfo
     split at h
     · rename_i rv h3 hcall
       have hfc := ho σ x.s a hr.g hr.s
       rw [hfo] at hfc
       have f1 := hr.h.fresh x.h.nx (Nat.le_refl _)
       have H1 := hr.h.add (nx := x.h.nx + 1) (tot := 0) (d := w.drawn) (obj := .deferred (some [])) (x := .deferred) f1 (by omega) (Nat.le_succ _) (Nat.lt_succ_self _) ⟨rfl, rfl⟩
       have G1 : Goes σ x.h w _ (x.h.add .deferred) { w with heap := w.heap.push (.deferred (some [])), drawn := w.drawn } := Goes.add (tot := 0) (obj := .deferred (some [])) (x := .deferred) f1 (by omega) (Nat.le_refl _) (Nat.le_succ _)
       have f2 := H1.fresh (x.h.nx + 1) (Nat.le_refl _)
       have hl' : l0 = { state := l0.state, pending := l0.pending, fn := b.fn, tmps := l0.tmps, params, assign, body, defers := l0.defers } := by
         rw [hb2, ← hps, ← has, ← hbo]
       have O2 : ORel ρ (updS (updS σ x.h.nx ⟨w.heap.size, 0, 0⟩) (x.h.nx + 1) ⟨w.heap.size + 1, 0, 0⟩) ⟨w.heap.size + 1, 0, 0⟩
           (some (.loop { state := .ready, pending := none, fn := b.fn, tmps := a, params, assign, body, defers := w.heap.size })) (.loop key .ready none x.h.nx x.s nt) := by
         refine ⟨rfl, a, ⟨w.heap.size, 0, 0⟩, l0, hl, (hr.s.ext G1.ext).ext (.upd f2), by simp [updS], ?_⟩
         rw [hl']; rfl
       have H2 := H1.add (nx := x.h.nx + 1 + 1) (tot := 0) (d := w.drawn) (x := .loop key .ready none x.h.nx x.s nt) f2 (by omega) (Nat.le_succ _) (Nat.lt_succ_self _) (obj := .loop { state := .ready, pending := none, fn := b.fn, tmps := a, params, assign, body, defers := w.heap.size }) (by simpa using O2)
       have G2 := Goes.add (h := x.h.add .deferred) (w := { w with heap := w.heap.push (.deferred (some [])), drawn := w.drawn }) (nx := x.h.nx + 1 + 1) (tot := 0) (d := w.drawn) (x := .loop key .ready none x.h.nx x.s nt) f2 (by omega) (Nat.le_refl _) (Nat.le_succ _) (obj := .loop { state := .ready, pending := none, fn := b.fn, tmps := a, params, assign, body, defers := w.heap.size })
       have hGo := G1.trans G2
       simp only [conc] at hfc
       split at hfc
       · rename_i fx cx hfx hcx
         have hfc := Option.some.inj hfc
         have hextra : Ext σ (updS (updS σ x.h.nx ⟨w.heap.size, 0, 0⟩) (x.h.nx + 1) ⟨(w.heap.push (.deferred (some []))).size, 0, 0⟩) := hGo.ext
         have hargs : concL ρ (updS (updS σ x.h.nx ⟨w.heap.size, 0, 0⟩) (x.h.nx + 1) ⟨(w.heap.push (.deferred (some []))).size, 0, 0⟩) (first ++ ([.yld (x.h.nx + 1)] ++ cap)) = some (fx ++ ([.func (.yield (w.heap.size + 1)) #[] #[]] ++ cx)) :=
           concL_append (concL_ext hextra hfx) (concL_append (by simp [concL, conc, updS]) (concL_ext hextra hcx))
         have hgo2 : GOk P (updS (updS σ x.h.nx ⟨w.heap.size, 0, 0⟩) (x.h.nx + 1) ⟨(w.heap.push (.deferred (some []))).size, 0, 0⟩) := hr.g.ext hextra
         have hrun : ∀ w', (do let d ← resolve (evalT a) (yieldCall fop (w.heap.size + 1)) 0; invoke d.target d.args : Sem Next).run P w' = (callFunc f (fx ++ ([Value.func (.yield (w.heap.size + 1)) #[] #[]] ++ cx)).toArray).run P w' := fun w' => by
           simp only [yieldCall, resolve, ← hfc, Deferred.ofValue, Sem.run_bind, Sem.run_pure, Result.andThen_ok, invoke]
           congr 2
           apply Array.ext'
           simp [evalT]
         have hen := run_enterLoop (P := P) (a := a) (w := w) (f := b.fn) (params := params) (assign := assign) (body := body)
         have fin : ∀ (c : Value) (w3 : World), After ρ (updS (updS σ x.h.nx ⟨w.heap.size, 0, 0⟩) (x.h.nx + 1) ⟨(w.heap.push (.deferred (some []))).size, 0, 0⟩) ((x.h.add .deferred).add (.loop key .ready none x.h.nx x.s nt)) { w with heap := (w.heap.push (.deferred (some []))).push (.loop { state := .ready, pending := none, fn := b.fn, tmps := a, params, assign, body, defers := w.heap.size }) } rv h3 c w3 ->
             Steps P (lone (fr b a ds (.code (.rangeFunc fop params assign body) :: k)) cs w) (lone (fr b a (mark w.heap.size :: ds) (.endRangeFunc (w.heap.size + 1) :: k)) cs w3) ->
             ∃ σ' a' ds' w', StRel P ρ nt σ' x' a' ds' w' /\ Goes σ x.h w σ' x'.h w' /\ Lands P (lone (fr b a ds (.code (.rangeFunc fop params assign body) :: k)) cs w) b a' ds' k cs w' e := fun c w3 ⟨σ3, hc3, hH3, hG3⟩ hs3 => by
           have hp3 : σ3 (x.h.nx + 1) = some ⟨w.heap.size + 1, 0, 0⟩ := by
             have := hG3.ext (x.h.nx + 1) ⟨(w.heap.push (.deferred (some []))).size, 0, 0⟩ (by simp [updS])
             simpa using this
           have hpd : σ3 x.h.nx = some ⟨w.heap.size, 0, 0⟩ := hG3.ext _ _ (by simp [updS])
           have all := hGo.trans hG3
           have done : ∀ (k3 : Nat) (st : LoopState) (pend : Option X) (df : Nat) (s : S) (n3 : Nat), h3.get (x.h.nx + 1) = some (.loop k3 st pend df s n3) -> st ≠ .busy -> x' = ⟨x.s, h3.upd (x.h.nx + 1) none, x.h.nx :: x.df⟩ ->
               ∃ w4, StRel P ρ nt σ3 x' a (mark w.heap.size :: ds) w4 /\ Goes σ x.h w σ3 x'.h w4 /\ Steps P (lone (fr b a ds (.code (.rangeFunc fop params assign body) :: k)) cs w) (lone (fr b a (mark w.heap.size :: ds) (((pend.map X.code).map Item.code).toList ++ k)) cs w4) := fun k3 st pend df s n3 hget hst hx' => by
             subst hx'
             obtain ⟨p, a3, q, l3, hp, hdel, hl3, hS3, hq, hobj, hlt3⟩ := hH3.loop hget
             obtain rfl : (⟨w.heap.size + 1, 0, 0⟩ : Place) = p := Option.some.inj (hp3.symm.trans hp)
             obtain ⟨g1, g2⟩ := hH3.giveUp hget hp (by omega) (.loop { l3 with state := .exhausted, pending := pend.map X.code, tmps := a3, defers := q.blk })
             have hend : (Instr.endLoop (w.heap.size + 1)).run P w3 = .ok (pend.map X.code) (setO w3 (w.heap.size + 1) (.loop { l3 with state := .exhausted, pending := pend.map X.code, tmps := a3, defers := q.blk })) := by
               have hne : (st == .busy) = false := by simpa using hst
               simp only [Instr.endLoop, Sem.run_bind, run_getLoop hobj, Result.andThen_ok, hne, Bool.false_eq_true, if_false, Sem.run_pure, run_setObj (P := P) hobj (by intro c e f; simp)]
             refine ⟨_, ⟨hr.s.ext all.ext, g1, ?_, hr.g.ext all.ext⟩, all.trans g2, Steps.trans hs3 (.one (st_endRange hend))⟩
             simp only [defsOf, hpd, defsOf_ext all.ext hr.d, mark]
           split at h
           · rename_i k3 df s n3 hget
             simp only [Option.some.injEq, Prod.mk.injEq] at h
             obtain ⟨rfl, rfl⟩ := h
             obtain ⟨w4, q1, q2, q3⟩ := done k3 .ready none df s n3 hget (by simp) rfl
             exact ⟨σ3, a, _, w4, q1, q2, show Steps _ _ _ by simpa using q3⟩
           · rename_i k3 df s n3 hget
             simp only [Option.some.injEq, Prod.mk.injEq] at h
             obtain ⟨rfl, rfl⟩ := h
             obtain ⟨w4, q1, q2, q3⟩ := done k3 .done (some .ret) df s n3 hget (by simp) rfl
             exact ⟨σ3, a, _, w4, q1, q2, k, by simpa [X.code] using q3⟩
           · rename_i k3 id df s n3 hget
             simp only [Option.some.injEq, Prod.mk.injEq] at h
             obtain ⟨rfl, rfl⟩ := h
             obtain ⟨w4, q1, q2, q3⟩ := done k3 .done (some (.exit id)) df s n3 hget (by simp) rfl
             exact ⟨σ3, a, _, w4, q1, q2, k, rfl, by simpa [X.code] using q3⟩
           · cases h
         rcases hE.call f _ _ _ _ _ _ _ hgo2 hargs H2 hcall with ⟨c, w3, hcr, ha⟩ | ⟨hcr, ha⟩
         · refine fin c w3 ha (.one ?_)
           exact st_range_value hb1 hen (by rw [hrun]; exact hcr)
         · obtain ⟨c, w3, haf, hst⟩ := ha (fr b a (mark w.heap.size :: ds) (.inRangeFunc (w.heap.size + 1) :: k)) cs
           rw [finish_range] at hst
           exact fin c w3 haf (.head (st_range_enter hb1 hen (by rw [hrun]; exact hcr)) hst)
       · cases hfc
     · cases h
   · cases h
end
end Go.Ev
namespace Go.Ev
def fieldV (agg : Bool) (off n : Nat) : List AV -> Option AV
 | [.agg l] => bif agg then (bif Nat.ble (off + n) l.length then some (.agg ((l.drop off).take n)) else none) else l[off]?
 | _ => none
theorem field_ok {P : Program} {ρ : Rho} {o : Oper} {t : TypeId} {x : Operand} {i : Nat} {fs : Array Field} {f : Field} {d : TypeDesc} {fi : TypeInfo} (h : o.op = .field t x i) (hu : P.underlying t = some (.struct fs)) (hf : fs[i]? = some f) (hd : P.underlying f.type = some d) (hi : P.info? f.type = some fi) : PureOk P ρ o (fieldV (aggD d) f.offset fi.size) := by
 intro σ s a w v hg hs hv
 unfold fieldV at hv
 split at hv
 · rename_i l
   obtain ⟨c, hc, hl⟩ := concL_one hs
   simp [opVals, h, Op.operands] at hl
   simp only [conc, Option.map_eq_some_iff] at hc
   obtain ⟨cs, hcs, rfl⟩ := hc
   have hag := run_isAgg (w := w) hd
   have hsz := run_size (P := P) (w := w) hi
   have hund := run_und (P := P) (w := w) hu
   have hlen := concL_length hcs
   generalize aggD d = ag at hv hag
   cases ag with
   | true =>
     simp only [cond_true] at hv
     cases hle : Nat.ble (f.offset + fi.size) l.length with
     | false => simp [hle] at hv
     | true =>
       rw [hle] at hv
       simp only [cond_true, Option.some.injEq] at hv
       subst hv
       refine ⟨.agg ((cs.drop f.offset).take fi.size).toArray, by simp [conc, concL_take fi.size (concL_drop f.offset hcs)], ?_⟩
       have he : (cs.toArray.extract f.offset (f.offset + fi.size)) = ((cs.drop f.offset).take fi.size).toArray := by
         apply Array.ext'
         simp [List.extract_eq_drop_take]
       simp only [execOp, h, hl, Instr.field, part, asAgg, Sem.run_bind, hund, Result.andThen_ok, hf, Sem.run_pure, hag, hsz, if_true, he]
   | false =>
     simp only [cond_false] at hv
     obtain ⟨y, hy, hcy⟩ := concL_get hcs hv
     refine ⟨y, hcy, ?_⟩
     have hy' : cs.toArray[f.offset]? = some y := by simpa using hy
     simp only [execOp, h, hl, Instr.field, part, asAgg, Sem.run_bind, hund, Result.andThen_ok, hf, Sem.run_pure, hag, Bool.false_eq_true, if_false, hy']
 · cases hv
def sliceArrV (n esz : Nat) (hasLo hasHi : Bool) : List AV -> Option AV
 | .ptr b off :: r => match bounds hasLo hasHi n n r with
   | some (l, h) => bif Nat.ble h n && Nat.blt l n then some (.slice b (off + l * esz) (h - l) esz (some (n - l))) else none
   | none => none
 | _ => none
theorem sliceArr_ok {P : Program} {ρ : Rho} {o : Oper} {t e : TypeId} {n : Nat} {x : Operand} {lo hi : Option Operand} (h : o.op = .slice t x lo hi none) {ei : TypeInfo} (hu : P.underlying t = some (.array n e)) (hi' : P.info? e = some ei) : PureOk P ρ o (sliceArrV n ei.size lo.isSome hi.isSome) := by
 intro σ s a w v hg hs hv
 have he' : opVals o a = evalT a x :: ((lo.toArray ++ hi.toArray).toList.map (evalT a)) := by simp [opVals, h, Op.operands]
 rw [he'] at hs
 unfold sliceArrV at hv
 split at hv
 · rename_i b off r
   split at hv
   · rename_i l h2 hb
     cases hle : (Nat.ble h2 n && Nat.blt l n) with
     | false => rw [hle] at hv; simp at hv
     | true =>
       rw [hle] at hv
       simp only [cond_true, Option.some.injEq] at hv
       subst hv
       simp only [Bool.and_eq_true] at hle
       have hl : l < n := by simpa using hle.2
       obtain ⟨c1, rr, hc, hr, he⟩ := concL_cons hs
       simp only [List.cons.injEq] at he
       obtain ⟨e1, e2⟩ := he
       obtain ⟨p, hp, hpe⟩ := conc_ptr hc
       rw [← e2] at hr
       obtain ⟨q1, q2, q3⟩ := bounds_ok (P := P) (w := w) (isSlice := false) (len := n) (cap := n) hb (Nat.le_refl _) hr
       refine ⟨.slice (some ⟨p.blk, p.del + (off + l * ei.size), none⟩) (h2 - l) (n - l), by simp only [conc, hp, Option.map_some, capN], ?_⟩
       have hne : ¬ n = l := by omega
       rw [hpe] at e1
       simp only [execOp, h, e1, Option.map_none, Instr.sliceAt, Instr.sureAddr, Sem.run_bind, run_und hu, Result.andThen_ok, q3, run_size hi', Sem.run_pure, add_addr, if_neg hne, Nat.add_assoc]
   · cases hv
 · cases hv
def denBin (P : Program) (op : BinOp) (t : TypeId) : Option OpF := match P.underlying t with
 | some (.int _) => some (.pure (binV op))
 | some .string => some (.pure (binV op))
 | some (.pointer e) => match P.info? e with
   | some ei => if ei.size ≠ 0 then some (.pure (eqPtrV op)) else none
   | none => none
 | some (.slice _) => some (.pure (eqSliceV op))
 | some (.map _ _) => some (.pure (eqMapV op))
 | some (.func _ _ _) => some (.pure (eqFuncV op))
 | some .bool => some (.pure (eqBoolV op))
 | some (.struct fs) => if P.stoodInHeld t = false /\ P.eqGuardType P.depth t = false then match flatFields P fs.toList with
     | some offs => some (.pure (eqStructV op offs))
     | none => none
   else none
 | _ => none
def denConv (P : Program) (s d : TypeId) : Option OpF := match P.underlying s, P.underlying d with
 | some (.slice e), some .string => match P.underlying e with
   | some (.int .u8) => some (.light bytesStrV)
   | _ => none
 | some .string, some .string => some (.pure convStrV)
 | some (.int _), some (.int k) => some (.pure (convIntV k))
 | some (.pointer t), some .unsafePointer => match P.info? t with
   | some ti => if ti.size ≠ 0 then some (.light toUnsafeV) else none
   | none => none
 | some .unsafePointer, some (.pointer u) => match P.info? u with
   | some ui => if ui.size ≠ 0 then some (.light (ofUnsafeV u ui.size)) else none
   | none => none
 | _, _ => none
def denSlice (P : Program) (t : TypeId) (lo hi : Bool) : Option OpF := match P.underlying t with
 | some .string => some (.pure (sliceStrV lo hi))
 | some (.slice e) => match P.info? e with
   | some ei => some (.light (sliceV ei.size lo hi))
   | none => none
 | some (.array n e) => match P.info? e with
   | some ei => some (.pure (sliceArrV n ei.size lo hi))
   | none => none
 | _ => none
def denLen (P : Program) (t : TypeId) : Option OpF := match P.underlying t with
 | some .string => some (.pure lenStrV)
 | some (.slice _) => some (.pure lenSlV)
 | some (.map _ _) => some (.light lenMapV)
 | _ => none
def denAppend (P : Program) (s xt : TypeId) : Option OpF := match P.underlying s, P.underlying xt with
 | some (.slice _), some (.int _) => none
 | some (.slice e), some _ => match P.info? e with
   | some ei => match ei.zero with
     | some z => if z.cells.size = ei.size /\ ei.size ≠ 0 then some (.heavy (appendV e ei.size ei.bytes)) else none
     | none => none
   | none => none
 | _, _ => none
def denBuiltin (P : Program) (b : Builtin) (ts : Array TypeId) : Option OpF := match b with
 | .len => match ts[0]? with | some t => denLen P t | none => none
 | .cap => match ts[0]? with
   | some t => match P.underlying t with
     | some (.slice e) => match P.info? e with | some ei => some (.light (capV ei.size)) | none => none
     | _ => none
   | none => none
 | .append => match ts[0]?, ts[1]? with | some s, some x => denAppend P s x | _, _ => none
 | .copy => match ts[0]? with
   | some s => match P.underlying s with
     | some (.slice e) => match P.info? e with | some ei => some (.heavy (copyV ei.size)) | none => none
     | _ => none
   | none => none
 | .min => some (.pure minV)
 | .max => some (.pure maxV)
 | .unsafeSliceData => some (.light sliceDataV)
 | .unsafeString => match ts[0]? with
   | some pt => match P.underlying pt with
     | some (.pointer e) => match P.info? e with | some ei => if ei.size = 1 then some (.heavy (unsafeStrV e)) else none | none => none
     | _ => none
   | none => none
 | _ => none
def zerosOf (P : Program) (t : TypeId) : Option (List AV) := match P.info? t with
 | some i => match i.zero with
   | some z => ofScalars z.cells.toList
   | none => none
 | none => none
def allSome {α : Type} : List (Option α) -> Option (List α)
 | [] => some []
 | some x :: l => match allSome l with | some r => some (x :: r) | none => none
 | none :: _ => none
theorem allSome_eq {α : Type} : ∀ {l : List (Option α)} {r : List α}, allSome l = some r -> l = r.map some
 | [], r, h => by simp [allSome] at h; subst h; rfl
 | none :: _, _, h => by simp [allSome] at h
 | some x :: l, r, h => by
   simp only [allSome] at h
   split at h
   · rename_i q hq
     cases h
     simp [allSome_eq hq]
   · cases h
def denBuild (P : Program) (t : TypeId) (parts : List (Nat × Operand)) : Option OpF := match zerosOf P t with
 | some zs => match P.underlying t with
   | some (.struct fs) => match placesOf P fs.toList with
     | some places => match allSome (parts.map fun p => places[p.1]?) with
       | some pl => some (.pure (buildV zs pl))
       | none => none
     | none => none
   | some (.array _ e) => match P.info? e with
     | some ei => some (.pure (buildV zs (parts.map fun p => (p.1 * ei.size, ei.size))))
     | none => none
   | _ => none
 | none => none
def denBuildSlice (P : Program) (t : TypeId) (len : Nat) (parts : List (Nat × Operand)) : Option OpF := match P.underlying t with
 | some (.slice e) => match P.info? e with
   | some ei => match ei.zero with
     | some z => if len * ei.size <= 2 ^ 24 /\ ei.size ≠ 0 then match ofScalars ((Array.range (len * ei.size)).map ((if len * ei.size = 0 then #[] else z.cells)[· % (if len * ei.size = 0 then #[] else z.cells).size]!)).toList with
         | some za => some (.alloc (buildSliceV e za (parts.map fun p => (p.1 * ei.size, ei.size))) (sliceTo len ei.size))
         | none => none
       else none
     | none => none
   | none => none
 | _ => none
def denMakeSlice (P : Program) (t : TypeId) : Option OpF := match P.underlying t with
 | some (.slice e) => match P.info? e with
   | some ei => match ei.zero with
     | some z => if z.cells.size = ei.size /\ ei.size ≠ 0 then match ofScalars z.cells.toList with
         | some zs => some (.alloc (makeSliceV e zs ei.bytes) (sliceOf ei.size))
         | none => none
       else none
     | none => none
   | none => none
 | _ => none
def keyTag (P : Program) (k : TypeId) : Option Nat := match P.underlying k with
 | some kd => tagOf kd
 | none => none
def denLookup (P : Program) (t : TypeId) (ok : Bool) : Option OpF := match P.underlying t with
 | some (.map k e) => match keyTag P k, P.info? e with
   | some tag, some ei => match ei.zero with
     | some z => match ofValue z with
       | some zv => some (.light (lookupV tag zv ok))
       | none => none
     | none => none
   | _, _ => none
 | _ => none
def denMapPut (P : Program) (t : TypeId) : Option OpF := match P.underlying t with
 | some (.map k _) => match keyTag P k with
   | some tag => some (.heavy (mapPutV tag))
   | none => none
 | _ => none
def denOp (P : Program) (E : Env) (op : Op) : Option OpF := match op with
 | .move _ => some (.pure moveV)
 | .assign _ => some (.pure moveV)
 | .pick _ _ _ => some (.pure pickV)
 | .extract _ i => some (.pure (extractV i))
 | .makeFunc (.func f) first _ => some (.pure (makeFuncV f first.size))
 | .makeInterface t _ => match P.underlying t with
   | some (.interface _) => none
   | some _ => some (.pure (ifaceV t))
   | none => none
 | .binOp b t _ _ _ => denBin P b t
 | .unOp u _ _ => some (.pure (unV u))
 | .load t _ => match P.underlying t, P.info? t with
   | some d, some i => some (.light (loadV (aggD d) i.size))
   | _, _ => none
 | .store t _ _ => match P.info? t with
   | some i => some (.heavy (storeV i.size))
   | none => none
 | .fieldAddr t _ i => match P.underlying t with
   | some (.struct fs) => match fs[i]? with
     | some f => match P.info? f.type with
       | some fi => if fi.size ≠ 0 then some (.pure (fieldAddrV f.offset)) else none
       | none => none
     | none => none
   | _ => none
 | .field t _ i => match P.underlying t with
   | some (.struct fs) => match fs[i]? with
     | some f => match P.underlying f.type, P.info? f.type with
       | some d, some fi => some (.pure (fieldV (aggD d) f.offset fi.size))
       | _, _ => none
     | none => none
   | _ => none
 | .indexAddr t _ _ => match P.underlying t with
   | some (.slice e) => match P.info? e with | some ei => some (.pure (indexAddrV ei.size)) | none => none
   | some (.array len e) => match P.info? e with | some ei => some (.pure (indexArrV len ei.size)) | none => none
   | _ => none
 | .nilCheck _ => some (.pure nilCheckV)
 | .alloc t => match zerosOf P t with | some zs => some (.alloc (allocV t zs) ptrTo) | none => none
 | .box t _ => some (.alloc (boxV t) ptrTo)
 | .build t parts => denBuild P t parts.toList
 | .buildSlice t len parts => denBuildSlice P t len parts.toList
 | .makeSlice t _ _ => denMakeSlice P t
 | .index t _ _ => match P.underlying t with | some .string => some (.pure indexStrV) | _ => none
 | .convert s d _ => denConv P s d
 | .slice t _ lo hi none => denSlice P t lo.isSome hi.isSome
 | .lookup t _ _ ok => denLookup P t ok
 | .makeMap _ none => some (.alloc makeMapV mapTo)
 | .mapUpdate t _ _ _ => denMapPut P t
 | .insert t _ _ _ => denMapPut P t
 | .call c => match c.callee with
   | .value _ => some (.heavy (callV E))
   | .builtin b => denBuiltin P b c.argTypes
   | _ => none
 | _ => none
end Go.Ev
namespace Go.Ev
section
variable {P : Program} {ρ : Rho} {o : Oper} {f : OpF}
theorem denBin_ok {op : BinOp} {t t' : TypeId} {x y : Operand} (hop : o.op = .binOp op t x y t') (h : denBin P op t = some f) : OpOk P ρ o f := by
 unfold denBin at h
 split at h
 · cases h; exact bin_ok hop
 · cases h; exact bin_ok hop
 · rename_i e hu
   split at h
   · rename_i ei he
     split at h
     · rename_i hz; cases h; exact eqPtr_ok hop hu he hz
     · cases h
   · cases h
 · rename_i hu; cases h; exact eqSlice_ok hop hu
 · rename_i hu; cases h; exact eqMap_ok hop hu
 · rename_i hu; cases h; exact eqFunc_ok hop hu
 · rename_i hu; cases h; exact eqBool_ok hop hu
 · rename_i fs hu
   split at h
   · rename_i hc
     split at h
     · rename_i offs hf; cases h; exact eqStruct_ok hop hu hc.1 hc.2 hf
     · cases h
   · cases h
 · cases h
theorem denConv_ok {s d : TypeId} {x : Operand} (hop : o.op = .convert s d x) (h : denConv P s d = some f) : OpOk P ρ o f := by
 unfold denConv at h
 split at h
 · rename_i e hs hd
   split at h
   · rename_i he; cases h; exact bytesStr_ok hop hs he hd
   · cases h
 · rename_i hs hd; cases h; exact convStr_ok hop hs hd
 · rename_i hs hd; cases h; exact convInt_ok hop hs hd
 · rename_i t hs hd
   split at h
   · rename_i ti ht
     split at h
     · rename_i hz; cases h; exact toUnsafe_ok hop hs hd ht hz
     · cases h
   · cases h
 · rename_i u hs hd
   split at h
   · rename_i ui hu
     split at h
     · rename_i hz; cases h; exact ofUnsafe_ok hop hs hd hu hz
     · cases h
   · cases h
 · cases h
theorem denSlice_ok {t : TypeId} {x : Operand} {lo hi : Option Operand} (hop : o.op = .slice t x lo hi none) (h : denSlice P t lo.isSome hi.isSome = some f) : OpOk P ρ o f := by
 unfold denSlice at h
 split at h
 · rename_i hu; cases h; exact sliceStr_ok hop hu
 · rename_i e hu
   split at h
   · rename_i ei he; cases h; exact slice_ok hop hu he
   · cases h
 · rename_i n e hu
   split at h
   · rename_i ei he; cases h; exact sliceArr_ok hop hu he
   · cases h
 · cases h
theorem denLen_ok {c : Call} {t : TypeId} (hop : o.op = .call c) (hc : c.callee = .builtin .len) (ht : c.argTypes[0]? = some t) (h : denLen P t = some f) : OpOk P ρ o f := by
 unfold denLen at h
 split at h
 · rename_i hu; cases h; exact lenStr_ok hop hc ht hu
 · rename_i hu; cases h; exact lenSl_ok hop hc ht hu
 · rename_i hu; cases h; exact lenMap_ok hop hc ht hu
 · cases h
theorem denAppend_ok {c : Call} {s xt : TypeId} (hop : o.op = .call c) (hc : c.callee = .builtin .append) (h0 : c.argTypes[0]? = some s) (h1 : c.argTypes[1]? = some xt) (h : denAppend P s xt = some f) : OpOk P ρ o f := by
 unfold denAppend at h
 split at h
 · cases h
 · rename_i e dx hk hu hdx
   split at h
   · rename_i ei he
     split at h
     · rename_i z hz
       split at h
       · rename_i hc'
         cases h
         exact append_ok hop hc h0 h1 hu he hz hc'.1 hc'.2 hdx (fun k e => hk k e)
       · cases h
     · cases h
   · cases h
 · cases h
theorem denBuiltin_ok {c : Call} {b : Builtin} (hop : o.op = .call c) (hc : c.callee = .builtin b) (h : denBuiltin P b c.argTypes = some f) : OpOk P ρ o f := by
 unfold denBuiltin at h
 split at h
 · split at h
   · rename_i t ht; exact denLen_ok hop hc ht h
   · cases h
 · split at h
   · rename_i t ht
     split at h
     · rename_i e hu
       split at h
       · rename_i ei he; cases h; exact cap_ok hop hc ht hu
       · cases h
     · cases h
   · cases h
 · split at h
   · rename_i s x h0 h1; exact denAppend_ok hop hc h0 h1 h
   · cases h
 · split at h
   · rename_i s hs
     split at h
     · rename_i e hu
       split at h
       · rename_i ei he; cases h; exact copy_ok hop hc hs hu he
       · cases h
     · cases h
   · cases h
 · cases h; exact min_ok hop hc
 · cases h; exact max_ok hop hc
 · cases h; exact sliceData_ok hop hc
 · split at h
   · rename_i pt hpt
     split at h
     · rename_i e hu
       split at h
       · rename_i ei he
         split at h
         · rename_i h1; cases h; exact unsafeStr_ok hop hc hpt hu he h1
         · cases h
       · cases h
     · cases h
   · cases h
 · cases h
theorem zerosOf_spec {t : TypeId} {zs : List AV} (h : zerosOf P t = some zs) : ∃ i z, P.info? t = some i /\ i.zero = some z /\ ofScalars z.cells.toList = some zs := by
 unfold zerosOf at h
 split at h
 · rename_i i hi
   split at h
   · rename_i z hz; exact ⟨i, z, hi, hz, h⟩
   · cases h
 · cases h
theorem denBuild_ok {t : TypeId} {parts : Array (Nat × Operand)} (hop : o.op = .build t parts) (h : denBuild P t parts.toList = some f) : OpOk P ρ o f := by
 unfold denBuild at h
 split at h
 · rename_i zs hzs
   obtain ⟨i, z, hi, hz, hzs⟩ := zerosOf_spec hzs
   split at h
   · rename_i fs hu
     split at h
     · rename_i places hpl
       split at h
       · rename_i pl hp; cases h; exact buildStruct_ok hop hi hz hzs hu hpl (allSome_eq hp)
       · cases h
     · cases h
   · rename_i n e hu
     split at h
     · rename_i ei he; cases h; exact buildArray_ok hop hi hz hzs hu he rfl
     · cases h
   · cases h
 · cases h
theorem denBuildSlice_ok {t : TypeId} {len : Nat} {parts : Array (Nat × Operand)} (hop : o.op = .buildSlice t len parts) (h : denBuildSlice P t len parts.toList = some f) : OpOk P ρ o f := by
 unfold denBuildSlice at h
 split at h
 · rename_i e hu
   split at h
   · rename_i ei he
     split at h
     · rename_i z hz
       split at h
       · rename_i hc
         split at h
         · rename_i za hza; cases h; exact buildSlice_ok hop hu he hz hc.1 hc.2 hza rfl
         · cases h
       · cases h
     · cases h
   · cases h
 · cases h
theorem denMakeSlice_ok {t : TypeId} {x y : Operand} (hop : o.op = .makeSlice t x y) (h : denMakeSlice P t = some f) : OpOk P ρ o f := by
 unfold denMakeSlice at h
 split at h
 · rename_i e hu
   split at h
   · rename_i ei he
     split at h
     · rename_i z hz
       split at h
       · rename_i hc
         split at h
         · rename_i zs hzs; cases h; exact makeSlice_ok hop hu he hz hzs hc.1 hc.2
         · cases h
       · cases h
     · cases h
   · cases h
 · cases h
theorem keyTag_spec {k : TypeId} {tag : Nat} (h : keyTag P k = some tag) : ∃ kd, P.underlying k = some kd /\ tagOf kd = some tag := by
 unfold keyTag at h
 split at h
 · rename_i kd hk; exact ⟨kd, hk, h⟩
 · cases h
theorem denLookup_ok {t : TypeId} {x y : Operand} {ok : Bool} (hop : o.op = .lookup t x y ok) (h : denLookup P t ok = some f) : OpOk P ρ o f := by
 unfold denLookup at h
 split at h
 · rename_i k e hu
   split at h
   · rename_i tag ei ht he
     obtain ⟨kd, hk, ht⟩ := keyTag_spec ht
     split at h
     · rename_i z hz
       split at h
       · rename_i zv hzv; cases h; exact lookup_ok hop hu hk ht he hz hzv
       · cases h
     · cases h
   · cases h
 · cases h
theorem denMapPut_ok {t : TypeId} {x y z : Operand} (hop : o.op = .mapUpdate t x y z ∨ o.op = .insert t x y z) (h : denMapPut P t = some f) : OpOk P ρ o f := by
 unfold denMapPut at h
 split at h
 · rename_i k e hu
   split at h
   · rename_i tag ht
     obtain ⟨kd, hk, ht⟩ := keyTag_spec ht
     cases h; exact mapPut_ok hop hu hk ht
   · cases h
 · cases h
theorem denOp_ok {E : Env} (hE : EnvOk P ρ E) (h : denOp P E o.op = some f) : OpOk P ρ o f := by
 generalize hop : o.op = op at h
 unfold denOp at h
 split at h
 · cases h; exact move_ok (.inl hop)
 · cases h; exact move_ok (.inr hop)
 · cases h; exact pick_ok hop
 · cases h; exact extract_ok hop
 · cases h; exact makeFunc_ok hop
 · split at h
   · cases h
   · rename_i d hd hu; cases h; exact iface_ok hop hu (fun ms e => hd ms e)
   · cases h
 · exact denBin_ok hop h
 · cases h; exact un_ok hop
 · split at h
   · rename_i d i hu hi; cases h; exact load_ok hop hu hi
   · cases h
 · split at h
   · rename_i i hi; cases h; exact store_ok hop hi
   · cases h
 · split at h
   · rename_i fs hu
     split at h
     · rename_i f' hf
       split at h
       · rename_i fi hfi
         split at h
         · rename_i hz; cases h; exact fieldAddr_ok hop hu hf hfi hz
         · cases h
       · cases h
     · cases h
   · cases h
 · split at h
   · rename_i fs hu
     split at h
     · rename_i f' hf
       split at h
       · rename_i d fi hd hi; cases h; exact field_ok hop hu hf hd hi
       · cases h
     · cases h
   · cases h
 · split at h
   · rename_i e hu
     split at h
     · rename_i ei he; cases h; exact indexAddr_ok hop hu he
     · cases h
   · rename_i n e hu
     split at h
     · rename_i ei he; cases h; exact indexArr_ok hop hu he
     · cases h
   · cases h
 · cases h; exact nilCheck_ok hop
 · split at h
   · rename_i zs hzs
     obtain ⟨i, z, hi, hz, hzs⟩ := zerosOf_spec hzs
     cases h; exact alloc_ok hop hi hz hzs
   · cases h
 · cases h; exact box_ok hop
 · exact denBuild_ok hop h
 · exact denBuildSlice_ok hop h
 · exact denMakeSlice_ok hop h
 · split at h
   · rename_i hu; cases h; exact indexStr_ok hop hu
   · cases h
 · exact denConv_ok hop h
 · exact denSlice_ok hop h
 · exact denLookup_ok hop h
 · cases h; exact makeMap_ok hop
 · exact denMapPut_ok (.inl hop) h
 · exact denMapPut_ok (.inr hop) h
 · rename_i c
   split at h
   · rename_i x hc; cases h; exact call_ok hE hop hc
   · rename_i b hc; exact denBuiltin_ok hop hc h
   · cases h
 · cases h
end
end Go.Ev
namespace Go.Ev
inductive OpK where
 | std (f : OpF)
 | call
def OpK.toF (E : Env) : OpK -> OpF
 | .std f => f
 | .call => .heavy (callV E)
def env0 : Env := ⟨fun _ _ _ => none, fun _ _ _ => none⟩
def isCallV : Op -> Bool
 | .call c => match c.callee with | .value _ => true | _ => false
 | _ => false
def denK (P : Program) (op : Op) : Option OpK := bif isCallV op then some .call else match denOp P env0 op with
 | some f => some (.std f)
 | none => none
theorem denOp_env {P : Program} {op : Op} {f : OpF} (hc : isCallV op = false) (E E' : Env) : denOp P E op = denOp P E' op := by
 unfold denOp
 split <;> first | rfl | (rename_i c; split <;> first | rfl | (rename_i x hx; simp [isCallV, hx] at hc))
theorem denK_eq {P : Program} {op : Op} {k : OpK} (h : denK P op = some k) (E : Env) : denOp P E op = some (k.toF E) := by
 unfold denK at h
 cases hc : isCallV op with
 | true =>
   rw [hc] at h
   simp only [cond_true, Option.some.injEq] at h
   subst h
   cases op <;> simp only [isCallV] at hc <;> try cases hc
   rename_i c
   split at hc
   · rename_i x hx
     simp [denOp, hx, OpK.toF]
   · cases hc
 | false =>
   rw [hc] at h
   simp only [cond_false] at h
   split at h
   · rename_i f hf
     cases h
     rw [denOp_env (f := f) hc E env0]
     exact hf
   · cases h
structure COp where
 guard : Option ((S -> AV) × Bool)
 dst : Option Nat
 xs : List (S -> AV)
 k : OpK
def COp.toR (E : Env) (c : COp) : ROp := ⟨c.guard, c.dst, c.xs, c.k.toF E⟩
def asK (E : Env) : OpK -> List AV -> H -> Option (AV × H)
 | .std f, s, h => asHeavy f s h
 | .call, s, h => callV E s h
theorem asK_eq (E : Env) (k : OpK) : asK E k = asHeavy (k.toF E) := by
 cases k <;> rfl
def runC (E : Env) : List COp -> S -> H -> Option (S × H)
 | [], s, h => some (s, h)
 | o :: l, s, h =>
   match (match o.guard with | none => some true | some (x, want) => guardV (x s) want) with
   | some true => match asK E o.k (vals o.xs s) h with
     | some (v, h') => runC E l (putO o.dst v s) h'
     | none => none
   | some false => runC E l (putO o.dst aundef s) h
   | none => none
theorem runC_eq (E : Env) : ∀ (l : List COp) (s : S) (h : H), runC E l s h = runOps (l.map (COp.toR E)) s h
 | [], _, _ => rfl
 | o :: l, s, h => by
   have ih := runC_eq E l
   simp only [runC, List.map_cons, runOps, COp.toR, asK_eq, ih]
   rfl
def regionC (E : Env) (rs : List COp) : SemF := fun x => match runC E rs x.s x.h with
 | some (s, h) => some (.norm, ⟨s, h, x.df⟩)
 | none => none
theorem regionC_eq (E : Env) (rs : List COp) : regionC E rs = regionF (rs.map (COp.toR E)) := by
 funext x; simp only [regionC, regionF, runC_eq]; rfl
structure CD where
 c : COp
 slots : List Nat
 pre : Nat
def CD.toD (E : Env) (d : CD) : DOp := ⟨d.c.toR E, d.slots, d.pre⟩
inductive CC where
 | skip
 | exit (id : Nat)
 | ret
 | seq (a b : CC)
 | cond (t : S -> AV) (a b : CC)
 | block (id : Nat) (a : CC)
 | loop (a : CC)
 | region (rs : List COp)
 | draw (rs : List CD) (na : Nat)
 | range (key nt : Nat) (fo : S -> AV)
 | fail
def semC (E : Env) (n : Nat) : CC -> SemF
 | .skip => skipF
 | .exit id => exitF id
 | .ret => retF
 | .seq a b => seqF (semC E n a) (semC E n b)
 | .cond t a b => condF t (semC E n a) (semC E n b)
 | .block id a => blockF id (semC E n a)
 | .loop a => iterF (semC E n a) n
 | .region rs => regionC E rs
 | .draw rs na => drawF (rs.map (CD.toD E)) na
 | .range key nt fo => rangeF E key nt fo
 | .fail => failF
def guardC (nt : Nat) (ops : Array Oper) : Option (Nat × Bool) -> Option (Option ((S -> AV) × Bool))
 | none => some none
 | some (j, want) => match ops[j]? with
   | some o => match o.dst with
     | some t => if t < nt then some (some (g t, want)) else none
     | none => none
   | none => none
def dstOk (nt : Nat) : Option Nat -> Bool
 | some t => decide (t < nt)
 | none => true
def denOper (P : Program) (nt : Nat) (ops : Array Oper) (o : Oper) : Option COp := bif dstOk nt o.dst then
 match guardC nt ops o.guard, opds nt P.globals.size o.op.operands.toList, denK P o.op with
 | some gd, some xs, some k => some ⟨gd, o.dst, xs, k⟩
 | _, _, _ => none
 else none
def denOpers (P : Program) (nt : Nat) (ops : Array Oper) : List Oper -> Option (List COp)
 | [] => some []
 | o :: l => match denOper P nt ops o, denOpers P nt ops l with
   | some x, some r => some (x :: r)
   | _, _ => none
def guardSlot (ops : Array Oper) : Option (Nat × Bool) -> List Nat
 | none => []
 | some (j, _) => match ops[j]? with
   | some o => match o.dst with
     | some t => [t]
     | none => []
   | none => []
def presOf : List Oper -> List Nat -> List Nat
 | [], acc => acc
 | o :: l, acc => presOf l (acc ++ [o.after.toList.foldl (fun r e => bif Region.binds .any e then r ||| (1 <<< e.on) ||| acc.getD e.on 0 else r) 0])
def cdsOf (ops : Array Oper) : List Oper -> List COp -> List Nat -> List CD
 | o :: l, c :: m, p :: q => ⟨c, guardSlot ops o.guard ++ slotsOf o.op.operands.toList, p⟩ :: cdsOf ops l m q
 | _, _, _ => []
def isAlloc : OpK -> Bool
 | .std (.alloc _ _) => true
 | _ => false
def denDraw (P : Program) (nt : Nat) (ops : Array Oper) : Option CC := match denOpers P nt ops ops.toList with
 | some cs => match cdsOf ops ops.toList cs (presOf ops.toList []) with
   | ds => bif statOk nt ops.toList (ds.map (CD.toD env0)) && Nat.beq ds.length cs.length then some (.draw ds (cs.filter fun c => isAlloc c.k).length) else none
 | none => none
def ranges : Code -> List (Array Tmp × Code × Code)
 | .seq a b => ranges a ++ ranges b
 | .cond _ a b => ranges a ++ ranges b
 | .block _ a => ranges a
 | .loop a => ranges a
 | .rangeFunc _ ps a b => [(ps, a, b)]
 | _ => []
def denC (P : Program) (nt : Nat) : Option Nat -> Code -> Option CC
 | _, .skip => some .skip
 | _, .label _ => some .skip
 | _, .exit id => some (.exit id)
 | _, .ret => some .ret
 | k, .seq a b => match denC P nt k a, denC P nt (k.map (· + (ranges a).length)) b with
   | some x, some y => some (.seq x y)
   | _, _ => none
 | k, .cond t a b => match opd nt P.globals.size t, denC P nt k a, denC P nt (k.map (· + (ranges a).length)) b with
   | some t, some x, some y => some (.cond t x y)
   | _, _, _ => none
 | k, .block id a => match denC P nt k a with | some x => some (.block id x) | none => none
 | k, .loop a => match denC P nt k a with | some x => some (.loop x) | none => none
 | _, .region _ ops false => match denOpers P nt ops ops.toList with
   | some cs => some (.region cs)
   | none => some .fail
 | _, .region _ ops true => match denDraw P nt ops with
   | some c => some c
   | none => some .fail
 | some key, .rangeFunc f _ _ _ => match opd nt P.globals.size f with
   | some fo => some (.range key nt fo)
   | none => none
 | _, _ => some .fail
end Go.Ev
namespace Go.Ev
section
variable {P : Program} {ρ : Rho} {E : Env} {nt : Nat}
theorem denOper_ok (hE : EnvOk P ρ E) {ops : Array Oper} {o : Oper} {c : COp} (h : denOper P nt ops o = some c) : ROpOk P ρ nt ops o (c.toR E) := by
 unfold denOper at h
 cases hd : dstOk nt o.dst with
 | false => rw [hd] at h; simp at h
 | true =>
   rw [hd] at h
   simp only [cond_true] at h
   split at h
   · rename_i gd xs k hg hx hk
     cases h
     refine ⟨denOp_ok hE (denK_eq hk E), opds_ok hx, rfl, fun t ht => ?_, fun cl hcl => ?_, ?_⟩
     · rw [ht] at hd; simpa [dstOk] using hd
     · rw [hcl] at hk; simp [denK, isCallV, denOp] at hk
     · cases hog : o.guard with
       | none => rw [hog] at hg; simp [guardC] at hg; subst hg; rfl
       | some jw =>
         obtain ⟨j, want⟩ := jw
         rw [hog] at hg
         simp only [guardC] at hg
         split at hg
         · rename_i o' ho'
           split at hg
           · rename_i t ht
             split at hg
             · rename_i hlt
               cases hg
               exact ⟨t, by simp [ho', ht], hlt, rfl⟩
             · cases hg
           · cases hg
         · cases hg
   · cases h
theorem denOpers_ok (hE : EnvOk P ρ E) {ops : Array Oper} : ∀ {l : List Oper} {cs : List COp}, denOpers P nt ops l = some cs -> ROpsOk P ρ nt ops l (cs.map (COp.toR E))
 | [], cs, h => by simp [denOpers] at h; subst h; trivial
 | o :: l, cs, h => by
   simp only [denOpers] at h
   split at h
   · rename_i x r hx hr
     cases h
     exact ⟨denOper_ok hE hx, denOpers_ok hE hr⟩
   · cases h
theorem denOper_slots {ops : Array Oper} {o : Oper} {c : COp} (h : denOper P nt ops o = some c) {slots : List Nat} (hs : ∀ t ∈ guardSlot ops o.guard ++ slotsOf o.op.operands.toList, t ∈ slots) :
   (∀ x ∈ c.xs, DepOn slots x) /\ ∀ x want, c.guard = some (x, want) -> DepOn slots x := by
 unfold denOper at h
 cases hd : dstOk nt o.dst with
 | false => rw [hd] at h; simp at h
 | true =>
   rw [hd] at h
   simp only [cond_true] at h
   split at h
   · rename_i gd xs k hg hx hk
     cases h
     refine ⟨opds_dep hx fun t ht => hs t (List.mem_append_right _ ht), fun x want hgd => ?_⟩
     cases hog : o.guard with
     | none => rw [hog] at hg; simp [guardC] at hg; subst hg; cases hgd
     | some jw =>
       obtain ⟨j, w⟩ := jw
       rw [hog] at hg
       simp only [guardC] at hg
       split at hg
       · rename_i o' ho'
         split at hg
         · rename_i t ht
           split at hg
           · cases hg
             simp only [Option.some.injEq, Prod.mk.injEq] at hgd
             obtain ⟨rfl, rfl⟩ := hgd
             intro s s' hss
             exact hss t (hs t (List.mem_append_left _ (by simp [guardSlot, hog, ho', ht])))
           · cases hg
         · cases hg
       · cases hg
   · cases h
theorem cdsOf_ok (hE : EnvOk P ρ E) {ops : Array Oper} : ∀ {l : List Oper} {cs : List COp} {ps : List Nat}, denOpers P nt ops l = some cs -> (cdsOf ops l cs ps).length = cs.length ->
   DOpsOk P ρ nt ops l ((cdsOf ops l cs ps).map (CD.toD E))
 | [], cs, ps, h, _ => by simp [denOpers] at h; subst h; simp [cdsOf, DOpsOk]
 | o :: l, cs, ps, h, hl => by
   simp only [denOpers] at h
   split at h
   · rename_i x r hx hr
     cases h
     cases ps with
     | nil => simp [cdsOf] at hl
     | cons p q =>
       simp only [cdsOf, List.map_cons]
       simp only [cdsOf, List.length_cons, Nat.add_right_cancel_iff] at hl
       have sl := denOper_slots hx (slots := guardSlot ops o.guard ++ slotsOf o.op.operands.toList) fun _ h => h
       exact ⟨⟨denOper_ok hE hx, sl.1, sl.2⟩, cdsOf_ok hE hr hl⟩
   · cases h
theorem statOk_env {ops : List Oper} {ds : List CD} (E E' : Env) : statOk nt ops (ds.map (CD.toD E)) = statOk nt ops (ds.map (CD.toD E')) := by
 unfold statOk
 simp only [List.getElem?_map]
 congr 1
 funext i
 cases ops[i]? with
 | none => rfl
 | some o =>
   cases hi : ds[i]? with
   | none => rfl
   | some d =>
     simp only [Option.map_some, CD.toD, COp.toR]
     congr 1
     · congr 1
       congr 1
       congr 1
       congr 1
       funext j
       congr 1
       congr 1
       funext e
       cases ds[e.on]? <;> rfl
     · congr 1
       funext j
       cases ds[j]? <;> rfl
theorem denDraw_ok (hm : P.follows .mixedOrders = true) (hE : EnvOk P ρ E) {B : FC -> Prop} {id n : Nat} {ops : Array Oper} {c : CC} (h : denDraw P nt ops = some c) : SimC P ρ nt B (.region id ops true) (semC E n c) := by
 unfold denDraw at h
 split at h
 · rename_i cs hcs
   simp only at h
   cases hc : (statOk nt ops.toList ((cdsOf ops ops.toList cs (presOf ops.toList [])).map (CD.toD env0)) && Nat.beq (cdsOf ops ops.toList cs (presOf ops.toList [])).length cs.length) with
   | false => rw [hc] at h; simp at h
   | true =>
     rw [hc] at h
     simp only [cond_true, Option.some.injEq] at h
     subst h
     simp only [Bool.and_eq_true] at hc
     simp only [semC]
     exact sim_draw hm (cdsOf_ok hE hcs (Nat.eq_of_beq_eq_true hc.2)) (by rw [statOk_env E env0]; exact hc.1)
 · cases h
def LoopsAt (ρ : Rho) (f : FuncId) (k : Option Nat) (rs : List (Array Tmp × Code × Code)) : Prop := ∀ key, k = some key -> ∀ i x, rs[i]? = some x -> ∃ l, ρ.loops (key + i) = some l /\ l.fn = f /\ l.params = x.1 /\ l.assign = x.2.1 /\ l.body = x.2.2
theorem LoopsAt.left {f : FuncId} {k : Option Nat} {a b : List (Array Tmp × Code × Code)} (h : LoopsAt ρ f k (a ++ b)) : LoopsAt ρ f k a := fun key hk i x hx =>
 h key hk i x (by rw [List.getElem?_append_left (List.getElem?_eq_some_iff.1 hx).1]; exact hx)
theorem LoopsAt.right {f : FuncId} {k : Option Nat} {a b : List (Array Tmp × Code × Code)} (h : LoopsAt ρ f k (a ++ b)) : LoopsAt ρ f (k.map (· + a.length)) b := fun key hk i x hx => by
 simp only [Option.map_eq_some_iff] at hk
 obtain ⟨k', rfl, rfl⟩ := hk
 obtain ⟨l, h1, h2⟩ := h k' rfl (a.length + i) x (by rw [List.getElem?_append_right (by omega)]; simpa using hx)
 exact ⟨l, by rw [Nat.add_assoc]; exact h1, h2⟩
theorem denC_ok (hm : P.follows .mixedOrders = true) (hE : EnvOk P ρ E) {n : Nat} {f : FuncId} {B : FC -> Prop} : ∀ (code : Code) (k : Option Nat) (c : CC), (k ≠ none -> ∀ b, B b -> b.roundOf = none /\ b.fn = f) -> LoopsAt ρ f k (ranges code) -> denC P nt k code = some c -> SimC P ρ nt B code (semC E n c)
 | .skip, k, c, hB, hL, h => by simp only [denC, Option.some.injEq] at h; subst h; exact sim_skip
 | .label l, k, c, hB, hL, h => by simp only [denC, Option.some.injEq] at h; subst h; exact sim_label
 | .exit id, k, c, hB, hL, h => by simp only [denC, Option.some.injEq] at h; subst h; exact sim_exit
 | .ret, k, c, hB, hL, h => by simp only [denC, Option.some.injEq] at h; subst h; exact sim_ret
 | .seq a b, k, c, hB, hL, h => by
   simp only [denC] at h
   split at h
   · rename_i x y hx hy
     cases h
     simp only [ranges] at hL
     exact sim_seq (denC_ok hm hE a k x hB hL.left hx) (denC_ok hm hE b _ y (fun hk => hB (fun e => hk (by rw [e]; rfl))) hL.right hy)
   · cases h
 | .cond t a b, k, c, hB, hL, h => by
   simp only [denC] at h
   split at h
   · rename_i tt x y ht hx hy
     cases h
     simp only [ranges] at hL
     exact sim_cond (opd_ok ht) (denC_ok hm hE a k x hB hL.left hx) (denC_ok hm hE b _ y (fun hk => hB (fun e => hk (by rw [e]; rfl))) hL.right hy)
   · cases h
 | .block id a, k, c, hB, hL, h => by
   simp only [denC] at h
   split at h
   · rename_i x hx
     cases h
     exact sim_block (denC_ok hm hE a k x hB hL hx)
   · cases h
 | .loop a, k, c, hB, hL, h => by
   simp only [denC] at h
   split at h
   · rename_i x hx
     cases h
     exact sim_loop (denC_ok hm hE a k x hB hL hx) n
   · cases h
 | .region id ops d, k, c, hB, hL, h => by
   cases d with
   | false =>
     simp only [denC] at h
     split at h
     · rename_i cs hcs
       cases h
       simp only [semC, regionC_eq]
       exact sim_region (denOpers_ok hE hcs)
     · cases h; exact sim_fail
   | true =>
     simp only [denC] at h
     split at h
     · rename_i c' hc'
       cases h
       exact denDraw_ok hm hE hc'
     · cases h; exact sim_fail
 | .rangeFunc fop ps a b, k, c, hB, hL, h => by
   cases k with
   | none => simp only [denC, Option.some.injEq] at h; subst h; exact sim_fail
   | some key =>
     simp only [denC] at h
     split at h
     · rename_i fo hfo
       cases h
       obtain ⟨l, h1, h2, h3, h4, h5⟩ := hL key rfl 0 (ps, a, b) rfl
       exact sim_range hE (fun b hb => by rw [h2]; exact hB (by simp) b hb) h1 h3 h4 h5 (opd_ok hfo)
     · cases h
 | .scope a, k, c, hB, hL, h => by simp only [denC, Option.some.injEq] at h; subst h; exact sim_fail
 | .goto l, k, c, hB, hL, h => by simp only [denC, Option.some.injEq] at h; subst h; exact sim_fail
 | .refuse why, k, c, hB, hL, h => by simp only [denC, Option.some.injEq] at h; subst h; exact sim_fail
end
end Go.Ev
