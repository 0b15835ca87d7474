/- ItemPartials, one part of the proof: PropR. -/
import Derived.Test.YtljoobbnhbaklaaGreatDoorP19
set_option linter.all false
set_option maxRecDepth 100000
set_option maxHeartbeats 16000000
namespace Go.EvProp
open Go Go.Ev Go.Proofs Go.RowKit
theorem newAtP {ρ : Rho} {σ : Sig} {h : H} {w w' : World} (r : HRel ρ σ h w) (hb : Below w.heap.size w w') {g del tot : Nat} {o : Obj} {x : ABlk} (hg : w.heap.size <= g) (ho : w'.heap[g]? = some o) (hm : h.nx < maxT) (hO : ORel ρ (updS σ h.nx ⟨g, del, tot⟩) ⟨g, del, tot⟩ (some o) x) :
   HRel ρ (updS σ h.nx ⟨g, del, tot⟩) (h.add x) w' /\ Goes σ h w (updS σ h.nx ⟨g, del, tot⟩) (h.add x) w' := by
 have hn := r.fresh h.nx (Nat.le_refl _)
 have he : Ext σ (updS σ h.nx ⟨g, del, tot⟩) := Ext.upd hn
 have gs := fun j => H.get_add h j x hm
 have at' : ∀ b p, b ≠ h.nx -> (updS σ h.nx ⟨g, del, tot⟩) b = some p -> σ b = some p := fun b p hne hs => by
   unfold updS at hs; rw [if_neg hne] at hs; exact hs
 have new : (updS σ h.nx ⟨g, del, tot⟩) h.nx = some ⟨g, del, tot⟩ := by unfold updS; rw [if_pos rfl]
 refine ⟨⟨fun b y hy => ?_, fun b b' y y' p p' hy hy' hp hp' hne => ?_, fun b hb' => ?_⟩, ⟨he, fun b h1 h2 => ?_, Nat.le_succ _, hb.size, fun k hk _ => hb.block k hk, fun k ho' => ?_, hb.os, hb.output, hb.tape⟩⟩
 · rw [gs] at hy
   by_cases e : b = h.nx
   · rw [if_pos e] at hy
     cases hy
     subst e
     exact ⟨_, new, by rw [ho]; exact hO⟩
   · rw [if_neg e] at hy
     obtain ⟨p, hp, hO'⟩ := r.blk b y hy
     exact ⟨p, he b p hp, by rw [hb.block p.blk (r.lt' hy hp)]; exact hO'.ext he⟩
 · rw [gs] at hy hy'
   by_cases e : b = h.nx
   · have e' : b' ≠ h.nx := fun q => hne (e.trans q.symm)
     rw [if_neg e'] at hy'
     have := r.lt' hy' (at' b' p' e' hp')
     subst e
     rw [new] at hp
     cases hp
     simp only
     omega
   · rw [if_neg e] at hy
     have h1 := r.lt' hy (at' b p e hp)
     by_cases e' : b' = h.nx
     · subst e'
       rw [new] at hp'
       cases hp'
       simp only
       omega
     · rw [if_neg e'] at hy'
       exact r.inj b b' y y' p p' hy hy' (at' b p e hp) (at' b' p' e' hp') hne
 · have hb'' : h.nx + 1 <= b := hb'
   unfold updS
   rw [if_neg (by omega)]
   exact r.fresh b (by omega)
 · by_cases e : b = h.nx
   · omega
   · unfold updS at h2
     rw [if_neg e] at h2
     exact (h2 h1).elim
 · obtain ⟨b, y, p, g1, g2, rfl⟩ := ho'
   rw [gs] at g1
   by_cases e : b = h.nx
   · subst e
     rw [new] at g2
     cases g2
     exact .inl hg
   · rw [if_neg e] at g1
     exact .inr ⟨b, y, p, g1, at' b p e g2, rfl⟩
theorem enterParse (cs : Array Value) (w : World) : (callFunc 75 cs).run Tryz.prog w = .ok (.enter 75 cs) w := enters Tryz.func75 (by decide) (by kernel_rfl)
theorem parseV_ok {ρ : Rho} : FnOk Tryz.prog ρ 75 parseV := by
 intro σ args h v h' cs w hg hargs hH hv
 refine .inr ⟨enterParse _ _, ?_⟩
 unfold parseV at hv
 split at hv
 · simp only [Option.some.injEq, Prod.mk.injEq] at hv
   obtain ⟨rfl, rfl⟩ := hv
   obtain ⟨c, hc, rfl⟩ := concL_one hargs
   rw [strOf _ (by decide)] at hc
   cases hc
   refine Ret.of ((parse_x w).mono ?_)
   rintro e w' ⟨rfl, hb⟩
   exact ⟨_, rfl, σ, rfl, hH.below hb, Goes.below hb⟩
 · cases hm : Nat.blt h.nx maxT with
   | false => rw [hm] at hv; cases hv
   | true =>
     rw [hm] at hv
     simp only [cond_true, Option.some.injEq, Prod.mk.injEq] at hv
     obtain ⟨rfl, rfl⟩ := hv
     have hm : h.nx < maxT := by simpa using hm
     obtain ⟨c, hc, rfl⟩ := concL_one hargs
     rw [strOf _ (by decide)] at hc
     cases hc
     refine Ret.of ((parse_l w).mono ?_)
     rintro e w' ⟨b, del, tot, rfl, hge, ⟨⟨arr, fz, q1, q2, q3, q4⟩, q5⟩, hb⟩
     have hO : ORel ρ (updS σ h.nx ⟨b, del, tot⟩) ⟨b, del, tot⟩ (some (.cells arr 260 fz)) (.cells 260 [.int .i64 (.ofNat 3), .int .i64 (.ofNat 1), .int .i64 (.ofNat 200), .str []] false true) :=
       ⟨arr, fz, rfl, q2, q5, fun h => by (cases h), ⟨_, rfl, fun i hi => q3 i hi⟩, fun _ => q4⟩
     obtain ⟨r1, r2⟩ := newAtP hH hb (del := del) (tot := tot) hge q1 hm hO
     refine ⟨_, rfl, _, ?_, r1, r2⟩
     have : (updS σ h.nx ⟨b, del, tot⟩) h.nx = some ⟨b, del, tot⟩ := by unfold updS; rw [if_pos rfl]
     simp [conc, concL, this, capN]
 · cases hv
theorem extP_ok {ρ : Rho} (f : FuncId) (F : List AV -> H -> Option (AV × H)) (h : extP f = some F) : FnOk Tryz.prog ρ f F := by
 unfold extP at h
 simp only [bif_beq] at h
 split at h
 · rename_i e; subst e; cases h; exact parseV_ok
 · exact ext0_ok f F h
theorem envP_ok {ρ : Rho} (hρ : ρ.loops = loopsOf Tryz.prog) (n : Nat) : EnvOk Tryz.prog ρ (envK Tryz.prog extP tabT.find n) :=
 envK_ok follows hρ (BT.find_ok tabT_ok) extP_ok n
end Go.EvProp
