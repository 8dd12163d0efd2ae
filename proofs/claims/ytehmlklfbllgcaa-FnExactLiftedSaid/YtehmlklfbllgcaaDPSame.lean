/-
  Plans' trees and plans compared, of the program and of the reference. Printed by a program of our own; no condition.
-/
import Derived.Test.YtehmlklfbllgcaaDPE
import Derived.Test.YtehmlklfbllgcaaDSame
namespace Go.Proofs.Ytehmlklfbllgcaa
open Go
set_option linter.unusedSimpArgs false
set_option linter.unusedVariables false

theorem plainL_of' {id : Nat} {xs : List V} (h : V.plain (.sl id xs) = true) : V.plainL xs = true := by
  simp only [V.plain, Bool.and_eq_true] at h
  exact h.2
mutual
def PE.eqB : PE → PE → Bool
  | .mk k o n v u p kids sub, y => decide (k = y.kind) && (decide (o = y.op) && (decide (n = y.nt) && (valEq v y.value && (decide (u = y.up) && (decide (p = y.pos) && (PE.eqL kids y.kids && PE.eqPs sub y.sub))))))
def PE.eqL : List PE → List PE → Bool
  | x :: xs, y :: ys => PE.eqB x y && PE.eqL xs ys
  | [], [] => true
  | _, _ => false
def PE.eqPs : List (PlanOf PE) → List (PlanOf PE) → Bool
  | x :: xs, y :: ys => PE.eqP x y && PE.eqPs xs ys
  | [], [] => true
  | _, _ => false
def PE.eqP : PlanOf PE → PlanOf PE → Bool
  | ⟨t, on, w, o, i, n, d, l⟩, q => same intEq t q.tables && (PE.eqLL on q.on && (PE.eqL w q.wher && (PE.eqO o q.order && (PE.eqL i q.items && (same strEq n q.names && (decide (d = q.distinct) && decide (l = q.limit)))))))
def PE.eqLL : List (List PE) → List (List PE) → Bool
  | x :: xs, y :: ys => PE.eqL x y && PE.eqLL xs ys
  | [], [] => true
  | _, _ => false
def PE.eqO : List (PE × Bool) → List (PE × Bool) → Bool
  | x :: xs, y :: ys => PE.eqS x y && PE.eqO xs ys
  | [], [] => true
  | _, _ => false
def PE.eqS : PE × Bool → PE × Bool → Bool
  | (e, d), y => decide (d = y.2) && PE.eqB e y.1
end
theorem same_cons {α : Type} (p : α → α → Bool) (x y : α) (xs ys : List α) : same p (x :: xs) (y :: ys) = (p x y && same p xs ys) := by
  unfold same
  simp only [List.length_cons, Nat.add_right_cancel_iff, eqAll]
  cases p x y <;> cases decide (xs.length = ys.length) <;> rfl
theorem same_nc {α : Type} (p : α → α → Bool) (x : α) (xs : List α) : same p [] (x :: xs) = false ∧ same p (x :: xs) [] = false := by constructor <;> simp [same]
theorem PE.eqL_eq : ∀ (a b : List PE), PE.eqL a b = same PE.eqB a b
  | x :: xs, y :: ys => by rw [same_cons, PE.eqL, PE.eqL_eq xs ys]
  | [], [] => by simp [PE.eqL, same, eqAll]
  | [], y :: ys => by rw [(same_nc _ y ys).1]; simp [PE.eqL]
  | y :: ys, [] => by rw [(same_nc _ y ys).2]; simp [PE.eqL]
theorem PE.eqPs_eq : ∀ (a b : List (PlanOf PE)), PE.eqPs a b = same PE.eqP a b
  | x :: xs, y :: ys => by rw [same_cons, PE.eqPs, PE.eqPs_eq xs ys]
  | [], [] => by simp [PE.eqPs, same, eqAll]
  | [], y :: ys => by rw [(same_nc _ y ys).1]; simp [PE.eqPs]
  | y :: ys, [] => by rw [(same_nc _ y ys).2]; simp [PE.eqPs]
theorem PE.eqO_eq : ∀ (a b : List (PE × Bool)), PE.eqO a b = same PE.eqS a b
  | x :: xs, y :: ys => by rw [same_cons, PE.eqO, PE.eqO_eq xs ys]
  | [], [] => by simp [PE.eqO, same, eqAll]
  | [], y :: ys => by rw [(same_nc _ y ys).1]; simp [PE.eqO]
  | y :: ys, [] => by rw [(same_nc _ y ys).2]; simp [PE.eqO]
theorem PE.eqLL_eq : ∀ (a b : List (List PE)), PE.eqLL a b = same (same PE.eqB) a b
  | x :: xs, y :: ys => by rw [same_cons, PE.eqLL, PE.eqLL_eq xs ys, PE.eqL_eq]
  | [], [] => by simp [PE.eqLL, same, eqAll]
  | [], y :: ys => by rw [(same_nc _ y ys).1]; simp [PE.eqLL]
  | y :: ys, [] => by rw [(same_nc _ y ys).2]; simp [PE.eqLL]
theorem PE.eqB_eq (x y : PE) : x.eqB y = (decide (x.kind = y.kind) && (decide (x.op = y.op) && (decide (x.nt = y.nt) && (valEq x.value y.value && (decide (x.up = y.up) && (decide (x.pos = y.pos) && (same PE.eqB x.kids y.kids && same PE.eqP x.sub y.sub))))))) := by
  cases x
  cases y
  simp only [PE.eqB, PE.eqL_eq, PE.eqPs_eq, PE.kind, PE.op, PE.nt, PE.value, PE.up, PE.pos, PE.kids, PE.sub]
  rfl
theorem PE.eqS_eq (x y : PE × Bool) : PE.eqS x y = (decide (x.2 = y.2) && PE.eqB x.1 y.1) := by
  obtain ⟨e, d⟩ := x
  obtain ⟨e2, d2⟩ := y
  simp only [PE.eqS]
theorem PE.eqP_eq (p q : PL) : PE.eqP p q = (same intEq p.tables q.tables && (same (same PE.eqB) p.on q.on && (same PE.eqB p.wher q.wher && (same PE.eqS p.order q.order && (same PE.eqB p.items q.items && (same strEq p.names q.names && (decide (p.distinct = q.distinct) && decide (p.limit = q.limit)))))))) := by
  obtain ⟨t, on, w, o, i, n, d, l⟩ := p
  simp only [PE.eqP, PE.eqL_eq, PE.eqLL_eq, PE.eqO_eq]
theorem same_refl {α : Type} {p : α → α → Bool} : ∀ (l : List α), (∀ x ∈ l, p x x = true) → same p l l = true
  | [], _ => by simp [same, eqAll]
  | x :: l, h => by rw [same_cons, h x (by simp), same_refl l fun y hy => h y (by simp [hy])]; rfl
theorem valEq_refl (v : Val) : valEq v v = true := by simp [valEq]
theorem PE.eqP_refl (p : PL) (h : ∀ k ∈ p.parts, PE.eqB k k = true) : PE.eqP p p = true := by
  rw [PE.eqP_eq, same_refl p.tables (by simp [intEq]), same_refl p.on fun l hl => same_refl l fun k hk => h k (PlanOf.mem_on hl hk), same_refl p.wher fun k hk => h k (PlanOf.mem_wher hk),
    same_refl p.order fun x hx => by rw [PE.eqS_eq, h x.1 (PlanOf.mem_order hx)]; simp, same_refl p.items fun k hk => h k (PlanOf.mem_items hk), same_refl p.names (by simp [strEq])]
  simp
theorem PE.eqB_refl (x : PE) : x.eqB x = true := by
  induction x using PE.ind with
  | h e ih1 ih2 => rw [PE.eqB_eq, valEq_refl, same_refl e.kids ih1, same_refl e.sub fun p hp => PE.eqP_refl p (ih2 p hp)]; simp
theorem wf_len2 {i j : Nat} {xs ys : List V} {r : List V} (h : (V.sl i xs :: V.sl j ys :: r).all V.wf = true) : xs.length ≤ 9223372036854775807 ∧ ys.length ≤ 9223372036854775807 := by
  simp only [List.all_cons, Bool.and_eq_true, V.wf, decide_eq_true_eq] at h
  obtain ⟨⟨h1, _⟩, ⟨h2, _⟩, _⟩ := h
  unfold maxLen at h1 h2
  omega


def SameC (P : Program) (g : FuncId) (x : PE) : Prop := ∀ (y : PE) (s : S), VCalls P g [x.v, y.v] s (fun v s' => v = .bool (x.eqB y) ∧ s' = s)

@[simp] theorem PE.under_S (n : Nat) (l : List PE) : V.underL n (l.map PE.toV) = true := underL_dat (plainL_dat _ (plainL_of' (plain_PExprS l)))
@[simp] theorem PE.under_SS (n : Nat) (l : List (List PE)) : V.underL n (l.map PE.vS) = true := underL_dat (plainL_dat _ (plainL_of' (plain_PExprSS l)))
@[simp] theorem PE.under_O (n : Nat) (l : List (PE × Bool)) : V.underL n (l.map PE.sv) = true := underL_dat (plainL_dat _ (plainL_of' (plain_PSortS l)))
@[simp] theorem PE.under_P (n : Nat) (l : List PL) : V.underL n (l.map PE.planV) = true := underL_dat (plainL_dat _ (plainL_of' (plain_PlanS l)))


end Go.Proofs.Ytehmlklfbllgcaa
