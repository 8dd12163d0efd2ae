/-
  Plans' trees drawn, whole: by induction on the depth. Own work; no condition.
-/
import Derived.Test.YtoagpmhdgllchaaDPd
namespace Go.Proofs.Ytoagpmhdgllchaa
open Go
set_option linter.unusedSimpArgs false
set_option linter.unusedVariables false

def wE : Nat → Nat
  | 0 => 8
  | 1 => 30
  | n + 2 => 3 * (wE (n + 1) + 1) + 1 + (64 + 6 * wE n)
theorem wE_le : ∀ n, 8 ≤ wE n
  | 0 => by decide
  | 1 => by decide
  | n + 2 => by simp only [wE]; omega
theorem wE_kids (n : Nat) : 3 * (wE n + 1) + 1 ≤ wE (n + 1) := by
  cases n with
  | zero => decide
  | succ n => show 3 * (wE (n + 1) + 1) + 1 ≤ 3 * (wE (n + 1) + 1) + 1 + (64 + 6 * wE n); omega
theorem wE_mono (n : Nat) : wE n ≤ wE (n + 1) := by have := wE_kids n; omega
theorem kids_wgt {es : List PE} {w : Nat} (h : ∀ e ∈ es, wgt e.v ≤ w) : wgt (.sl 0 (es.map PE.toV)) ≤ es.length * (w + 1) := wgt_sl_le es fun e he => by rw [PE.toV_eq]; exact h e he
theorem PL.q_eq (p : PL) : V.agg [.sl 0 (p.tables.map iV), .sl 0 (p.on.map PE.vS), .sl 0 (p.wher.map PE.toV), .sl 0 (p.order.map PE.sv), .sl 0 (p.items.map PE.toV), .sl 0 (p.names.map sV), .bool p.distinct, .int .i64 p.limit] = PE.planV p := (PE.planV_eq p).symm
theorem wgt_nilP : wgt (.sl 0 (([] : List PL).map PE.planV)) = 0 := rfl
theorem wgt_nilE : wgt (.sl 0 (([] : List PE).map PE.toV)) = 0 := rfl
theorem wgt_oneP (p : PL) : wgt (.sl 0 ([p].map PE.planV)) = 1 + wgt p.v := by simp only [List.map_cons, List.map_nil, PE.planV_eq, wgt, wgtL, List.length_cons, List.length_nil]; omega

end Go.Proofs.Ytoagpmhdgllchaa
