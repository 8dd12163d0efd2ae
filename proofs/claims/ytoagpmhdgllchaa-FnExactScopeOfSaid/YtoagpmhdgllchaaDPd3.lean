/-
  Plans' trees bent: one of what is drawn is changed, in place. Own work; no condition.
-/
import Derived.Test.YtoagpmhdgllchaaVCap2
import Derived.Test.YtoagpmhdgllchaaDPd2
namespace Go.Proofs.Ytoagpmhdgllchaa
open Go
set_option linter.unusedSimpArgs false
set_option linter.unusedVariables false

/-- A tree in memory of one's own, part by part. -/
theorem PE.unown {s : S} {b : Nat} {H : List BE} {u : V} {x : PE} (h : Hold s b (.own u x.toV :: H)) : ∃ w : Nat → Nat × Nat, u = PE.ov (x, w) ∧ Hold s b (PE.ob (x, w) ++ H) := by
  rw [PE.toV_eq] at h
  obtain ⟨vs, rfl, hl⟩ := h.aggOk
  match vs, hl with
  | [v0, v1, v2, v3, v4, v5, v6, v7, v8, v9], _ =>
    unfold PE.v at h
    obtain ⟨e0, g0⟩ := h.unscal rfl
    obtain ⟨e1, g1⟩ := g0.unscal rfl
    obtain ⟨e2, g2⟩ := g1.unscal rfl
    obtain ⟨e3, g3⟩ := g2.unscal rfl
    obtain ⟨e4, g4⟩ := g3.unscal rfl
    obtain ⟨e5, g5⟩ := g4.unscal rfl
    obtain ⟨e6, g6⟩ := g5.unscal rfl
    obtain ⟨e7, g7⟩ := g6.unscal rfl
    subst e0 e1 e2 e3 e4 e5 e6 e7
    have h8 := g7.unagg
    have h9 : Hold s b (.own (.agg [v9]) (.agg [.sl 0 (x.sub.map PE.planV)]) :: .own v8 (.sl 0 (x.kids.map PE.toV)) :: H) := h8.sel (.cons 1 rfl rfl (.cons 0 rfl rfl (Sel.refl H)))
    have h10 := h9.unagg
    have h11 : Hold s b (.own v8 (.sl 0 (x.kids.map PE.toV)) :: .own v9 (.sl 0 (x.sub.map PE.planV)) :: H) := h10.sel (.cons 2 rfl rfl (.cons 0 rfl rfl (Sel.drop (Sel.refl H))))
    have h12 : Hold s b (.own v9 (.sl 0 (x.sub.map PE.planV)) :: .own v8 (.sl 0 (x.kids.map PE.toV)) :: H) := h11.sel (.cons 1 rfl rfl (.cons 0 rfl rfl (Sel.refl H)))
    obtain ⟨c8, l8, e8, _⟩ := h11.slc
    obtain ⟨c9, l9, e9, _⟩ := h12.slc
    rw [List.length_map] at e8 e9
    subst e8 e9
    exact ⟨f2 (c8, l8) (c9, l9), rfl, h11⟩
theorem PE.own {s : S} {b : Nat} {H : List BE} {w : PE × (Nat → Nat × Nat)} (h : Hold s b (PE.ob w ++ H)) : Hold s b (.own (PE.ov w) w.1.toV :: H) := by
  rw [PE.toV_eq]
  exact h.pack (H' := H) (by unfold PE.v; ((repeat' first | (exact ConsOL.nil) | (exact ConsO.scal rfl) | (exact ConsO.slm0) | (refine' ConsO.op ?_; ((repeat' first | (exact Pick.here) | (refine' Pick.there ?_)); done)) | (refine' ConsOL.cons ?_ ?_) | (refine' ConsO.agg ?_)); done))

theorem wgt_snoc {α : Type} (f : α → V) (l : List α) (x : α) : wgt (.sl 0 ((l ++ [x]).map f)) = wgt (.sl 0 (l.map f)) + (1 + wgt (f x)) := by
  rw [wgt_sl, wgt_sl]
  simp only [slW, sumW, List.map_append, List.sum_append, List.length_append, List.map_cons, List.map_nil, List.sum_cons, List.sum_nil, List.length_cons, List.length_nil]
  omega
theorem wgt_pl0 : wgt (PE.planV (⟨[], [], [], [], [], [], false, 0⟩ : PL)) = 0 := rfl
theorem wgtL_app : ∀ a b : List V, wgtL (a ++ b) = wgtL a + wgtL b
  | [], b => by simp [wgtL]
  | x :: a, b => by simp only [List.cons_append, wgtL, wgtL_app a b]; omega
theorem wgt_mid (A Z : List V) (d : V) : wgt (.sl 0 (A ++ d :: Z)) = A.length + Z.length + 1 + wgtL A + wgt d + wgtL Z := by
  simp only [wgt, wgtL_app, wgtL, List.length_append, List.length_cons]; omega

end Go.Proofs.Ytoagpmhdgllchaa
