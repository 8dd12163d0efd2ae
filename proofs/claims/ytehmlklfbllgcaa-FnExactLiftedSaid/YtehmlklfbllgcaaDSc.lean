/-
  What is held of plans' trees: bounds on its numbers. Own work; no condition.
-/
import Derived.Test.YtehmlklfbllgcaaDRecM
import Derived.Test.YtehmlklfbllgcaaDRecP
namespace Go.Proofs.Ytehmlklfbllgcaa
open Go
set_option linter.unusedSimpArgs false
set_option linter.unusedVariables false

theorem SzC.okW {P : Program} {g : FuncId} {d : V} (h : SzC P g d) {w : Nat} (e : wgt d = w) {left : Int} (h1 : left ≤ 1048576) (h2 : (w : Int) ≤ left) (s : S) : VCalls P g [d, .int .i64 left] s (fun v s' => v = .int .i64 (left - (w : Nat)) ∧ s' = s) := by
  subst e; exact h.ok h1 h2 s
theorem sc_sl {α : Type} (f : α → V) (l : List α) (h : ∀ x ∈ l, sc (f x) ≤ 12 * (1 + wgt (f x))) : scL (l.map f) ≤ 12 * wgt (.sl 0 (l.map f)) := by
  induction l with
  | nil => simp [scL]
  | cons x l ih =>
    have h1 := h x (by simp)
    have h2 := ih (fun y hy => h y (by simp [hy]))
    simp only [List.map_cons, scL, wgt, wgtL, List.length_cons, List.length_map] at *
    omega
theorem PL.sc_r (p : PL) (h : ∀ k ∈ p.parts, sc k.v + 4 ≤ 12 * (1 + wgt k.v)) : sc p.v ≤ 12 * (1 + wgt p.v) := by
  have a1 := sc_sl iV p.tables (fun x _ => by show 1 ≤ _; omega)
  have a2 := sc_sl PE.vS p.on (fun l hl => by
    have := sc_sl PE.toV l (fun x hx => by have := h x (PlanOf.mem_on hl hx); rw [PE.toV_eq]; omega)
    simp only [PE.vS, sc]; omega)
  have a3 := sc_sl PE.toV p.wher (fun x hx => by have := h x (PlanOf.mem_wher hx); rw [PE.toV_eq]; omega)
  have a4 := sc_sl PE.sv p.order (fun x hx => by
    have := h x.1 (PlanOf.mem_order hx)
    have e : sc (PE.sv x) = sc x.1.v + 1 := by simp only [PE.sv, PE.v, sc, scL]; omega
    rw [e, PE.wgt_eqs]; omega)
  have a5 := sc_sl PE.toV p.items (fun x hx => by have := h x (PlanOf.mem_items hx); rw [PE.toV_eq]; omega)
  have a6 := sc_sl sV p.names (fun x _ => by show 1 ≤ _; omega)
  have a7 := PL.wgt_eq p
  have e : sc p.v = scL (p.tables.map iV) + (scL (p.on.map PE.vS) + (scL (p.wher.map PE.toV) + (scL (p.order.map PE.sv) + (scL (p.items.map PE.toV) + (scL (p.names.map sV) + 2))))) := by simp only [PL.v, sc, scL]
  omega
theorem PE.sc_le (e : PE) : sc e.v + 4 ≤ 12 * (1 + wgt e.v) := by
  induction e using PE.ind with
  | h e ih1 ih2 =>
    have a1 := sc_sl PE.toV e.kids (fun x hx => by have := ih1 x hx; rw [PE.toV_eq]; omega)
    have a2 := sc_sl PE.planV e.sub (fun p hp => by rw [PE.planV_eq]; exact PL.sc_r p (ih2 p hp))
    have a3 := PE.wgt_eq e
    have e1 : sc e.v = 8 + (scL (e.kids.map PE.toV) + scL (e.sub.map PE.planV)) := by simp only [PE.v, sc, scL]; omega
    omega
theorem PL.sc_le (p : PL) : sc p.v ≤ 12 * (1 + wgt p.v) := PL.sc_r p fun k _ => PE.sc_le k
theorem nk_PE (e : PE) (h : wgt e.v ≤ 1048576) : nkT e.v 1 ≤ 4000000000000 := by
  have a1 := nkT_sc e.v 1
  have a2 := PE.sc_le e
  omega
theorem nk_PL (p : PL) (h : wgt p.v ≤ 1048576) : nkT p.v 1 ≤ 4000000000000 := by
  have a1 := nkT_sc p.v 1
  have a2 := PL.sc_le p
  omega
theorem SzC.noW {P : Program} {g : FuncId} {d : V} (h : SzC P g d) {w : Nat} (e : wgt d = w) {left : Int} (h0 : 0 ≤ left) (h1 : left ≤ 1048576) (h2 : left < (w : Int)) (s : S) : VCalls P g [d, .int .i64 left] s (fun v s' => v = .int .i64 (-1) ∧ s' = s) := by
  subst e; exact h.no h0 h1 h2 s
theorem nk_PES (l : List PE) (h : wgt (.sl 0 (l.map PE.toV)) ≤ 1048576) : nkT (.sl 0 (l.map PE.toV)) 1 ≤ 4000000000000 := by
  have a1 := nkT_sc (.sl 0 (l.map PE.toV)) 1
  have a2 := sc_sl PE.toV l (fun x _ => by have := PE.sc_le x; rw [PE.toV_eq]; omega)
  simp only [sc] at a1
  omega

end Go.Proofs.Ytehmlklfbllgcaa
