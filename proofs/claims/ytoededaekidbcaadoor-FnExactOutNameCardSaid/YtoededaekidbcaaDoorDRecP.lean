/-
  Copies, sizes and comparisons of plans' trees and plans. Printed by a program of our own; no condition.
-/
import Derived.Test.YtoededaekidbcaaDoorDPE
import Derived.Test.YtoededaekidbcaaDoorDFam2
import Derived.Test.YtoededaekidbcaaDoorDRow
namespace Go.Proofs.YtoededaekidbcaaDoor
open Go
set_option linter.unusedSimpArgs false
set_option linter.unusedVariables false

def ToC (P : Program) (g : FuncId) (d : V) : Prop := ∀ t : S, VCalls P g [d] t (fun v t' => Own2 d v t')
def SzC (P : Program) (g : FuncId) (d : V) : Prop := ∀ (left : Int) (s : S), 0 ≤ left → left ≤ 1048576 → VCalls P g [d, .int .i64 left] s (fun v s' => v = .int .i64 (szI (wgt d) left) ∧ s' = s)
def EqC (P : Program) (g : FuncId) (d : V) : Prop := ∀ s : S, VCalls P g [d, d] s (fun v s' => v = .bool true ∧ s' = s)
theorem SzC.ok {P : Program} {g : FuncId} {d : V} (h : SzC P g d) {left : Int} (h1 : left ≤ 1048576) (h2 : (wgt d : Int) ≤ left) (s : S) : VCalls P g [d, .int .i64 left] s (fun v s' => v = .int .i64 (left - (wgt d : Nat)) ∧ s' = s) := by
  rw [← szI_pos (w := wgt d) (by omega)]; exact h left s (by omega) h1
theorem SzC.no {P : Program} {g : FuncId} {d : V} (h : SzC P g d) {left : Int} (h0 : 0 ≤ left) (h1 : left ≤ 1048576) (h2 : left < (wgt d : Int)) (s : S) : VCalls P g [d, .int .i64 left] s (fun v s' => v = .int .i64 (-1) ∧ s' = s) := by
  rw [← szI_neg (w := wgt d) (left := left) (by omega)]; exact h left s h0 h1
theorem ToC.pure {P : Program} {g : FuncId} {d : V} (h : ToC P g d) (hd : d.plain = true) (s : S) : VCalls P g [d] s (fun v s' => v = d ∧ s' = s) := VCalls.pureOf (plainL_cons hd rfl) hd h s
theorem plainL_of {id : Nat} {xs : List V} (h : V.plain (.sl id xs) = true) : V.plainL xs = true := by
  simp only [V.plain, Bool.and_eq_true] at h
  exact h.2
theorem PE.wgt_eq2 (x : PE) : wgt x.v = x.value.wt + wgt (.sl 0 (x.kids.map PE.toV)) + wgt (.sl 0 (x.sub.map PE.planV)) := PE.wgt_eq x
theorem wgt_ints (l : List Int) : wgt (.sl 0 (l.map iV)) = l.length := by
  rw [wgt_sl]
  simp only [slW, sumW, iV, wgt]
  induction l with
  | nil => rfl
  | cons x l ih => simp only [List.length_cons, List.map_cons, List.sum_cons] at *; omega


theorem PExprS_len (l : List PE) : ∀ x ∈ l.map PE.toV, x.cells.length = 10 := by
  intro v hv
  obtain ⟨x, _, rfl⟩ := List.mem_map.1 hv
  rw [PE.toV_eq]; rfl
theorem PExprS_wgt (l : List PE) : wgt (.sl 0 (l.map PE.toV)) = slW (fun x => wgt (PE.v x)) l := by
  rw [wgt_sl]
  simp only [PE.toV_eq]
theorem PExprSS_len (l : List (List PE)) : ∀ x ∈ l.map PE.vS, x.cells.length = 1 := by
  intro v hv
  obtain ⟨x, _, rfl⟩ := List.mem_map.1 hv
  rfl
theorem PExprSS_wgt (l : List (List PE)) : wgt (.sl 0 (l.map PE.vS)) = slW (fun x => wgt (PE.vS x)) l := by
  rw [wgt_sl]
theorem PSortS_len (l : List (PE × Bool)) : ∀ x ∈ l.map PE.sv, x.cells.length = 11 := by
  intro v hv
  obtain ⟨x, _, rfl⟩ := List.mem_map.1 hv
  rfl
theorem PSortS_wgt (l : List (PE × Bool)) : wgt (.sl 0 (l.map PE.sv)) = slW (fun x => wgt (PE.sv x)) l := by
  rw [wgt_sl]
theorem PlanS_len (l : List PL) : ∀ x ∈ l.map PE.planV, x.cells.length = 8 := by
  intro v hv
  obtain ⟨x, _, rfl⟩ := List.mem_map.1 hv
  rw [PE.planV_eq]; rfl
theorem PlanS_wgt (l : List PL) : wgt (.sl 0 (l.map PE.planV)) = slW (fun x => wgt (PL.v x)) l := by
  rw [wgt_sl]
  simp only [PE.planV_eq]
theorem PE.thw_v (m : Nat) (e : PE) : (thw m (PE.v e)).1 = .agg [.int .i64 e.kind, .int .i64 e.op, .bool e.nt, .int .i64 e.value.kind, .int .i64 e.value.num, .str e.value.text, .int .i64 e.up, .int .i64 e.pos, (thw m (.sl 0 (e.kids.map PE.toV))).1, (thw (m + cv (.sl 0 (e.kids.map PE.toV))) (.sl 0 (e.sub.map PE.planV))).1] := by
  simp only [PE.v, thw_agg, thwL_nil, thwL_int, thwL_str, thwL_bool, thwL_sl]
theorem PE.thaw_v (m : Nat) (e : PE) : thawed m (PE.v e) = thawed m (.sl 0 (e.kids.map PE.toV)) ++ thawed (m + cv (.sl 0 (e.kids.map PE.toV))) (.sl 0 (e.sub.map PE.planV)) := by
  simp only [thawed, PE.v, thw_agg, thwL_nil, thwL_int, thwL_str, thwL_bool, thwL_sl, List.map_append, List.append_nil]
theorem PE.wgt_kid {e k : PE} (h : k ∈ e.kids) : wgt k.v ≤ wgt e.v := by
  have h1 := wgt_mem (f := PE.toV) h
  rw [PE.toV_eq] at h1
  have := PE.wgt_eq2 e
  omega
theorem PE.wgt_sub {e : PE} {p : PL} (h : p ∈ e.sub) : wgt p.v ≤ wgt e.v := by
  have h1 := wgt_mem (f := PE.planV) h
  rw [PE.planV_eq] at h1
  have := PE.wgt_eq2 e
  omega
theorem PL.wgt_part2 {p : PL} {k : PE} (h : k ∈ p.parts) : wgt k.v ≤ wgt p.v := by
  have := PL.wgt_part h
  rwa [PE.toV_eq] at this
theorem PL.wgt_on {p : PL} {l : List PE} (h : l ∈ p.on) : wgt (.sl 0 (l.map PE.toV)) ≤ wgt p.v := by
  have h1 := wgt_mem (f := PE.vS) h
  have := PL.wgt_eq p
  simp only [PE.vS] at h1
  omega


end Go.Proofs.YtoededaekidbcaaDoor
