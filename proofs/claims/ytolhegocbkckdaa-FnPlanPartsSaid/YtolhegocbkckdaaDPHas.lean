/-
  What has a type of plans' trees is one. Own work; no condition.
-/
import Derived.Test.YtolhegocbkckdaaDPE
import Derived.Test.YtolhegocbkckdaaDFam2
import Derived.Test.YtolhegocbkckdaaDRow
namespace Go.Proofs.Ytolhegocbkckdaa
open Go
set_option linter.unusedSimpArgs false
set_option linter.unusedVariables false

theorem Has.slLt {P : Program} {n : Nat} {t e : TypeId} {v : V} (ht : P.underlying t = some (.slice e)) (h : Has P n t v) : v = .nilsl ∨ ∃ k xs, k < n ∧ v = .sl 0 xs ∧ ∀ x ∈ xs, Has P k e x := by
  cases n with
  | zero => exact h.elim
  | succ n =>
    simp only [Has, ht] at h
    rcases h with h | ⟨xs, h⟩
    · exact .inl h
    · exact .inr ⟨n, xs, Nat.lt_succ_self n, h⟩
theorem Has.stLt {P : Program} {n : Nat} {t : TypeId} {fs : Array Field} {v : V} (ht : P.underlying t = some (.struct fs)) (h : Has P n t v) : ∃ k us, k < n ∧ v = .agg (V.flat us) ∧ AllHas (Has P k) (fs.toList.map (·.type)) us := by
  cases n with
  | zero => exact h.elim
  | succ n =>
    simp only [Has, ht] at h
    obtain ⟨us, h⟩ := h
    exact ⟨n, us, Nat.lt_succ_self n, h⟩
theorem slice_hasLt {α : Type} {f : α → V} {P : Program} {n : Nat} {t e : TypeId} {v : V} (ht : P.underlying t = some (.slice e)) (he : ∀ k, k < n → ∀ u, Has P k e u → ∃ x, u.forget = f x) (h : Has P n t v) : ∃ xs : List α, v.forget = .sl 0 (xs.map f) := by
  rcases Has.slLt ht h with rfl | ⟨m, us, hm, rfl, hu⟩
  · exact ⟨[], by simp [V.forget]⟩
  · obtain ⟨xs, hxs⟩ := list_has fun u hm' => he m hm u (hu u hm')
    exact ⟨xs, by simp only [V.forget, V.forgetL_eq, hxs]⟩
theorem flat_forget5 (us : List V) : (V.agg (V.flat us)).forget = .agg (us.flatMap fun u => u.forget.cells) := by
  simp only [V.forget, V.forgetL_eq]
  congr 1
  induction us with
  | nil => rfl
  | cons u us ih => rw [flat_cons, List.map_append, ih, List.flatMap_cons, V.forget_cells]
theorem intS_hasLt {n : Nat} {v : V} (h : Has Try.prog n 39 v) : ∃ xs : List Int, v.forget = .sl 0 (xs.map iV) := slice_hasLt Try.underlying39 (fun _ _ u hu => by
  obtain ⟨m, rfl⟩ := Has.int Try.underlying3 hu
  exact ⟨m, rfl⟩) h
theorem strS_hasLt {n : Nat} {v : V} (h : Has Try.prog n 42 v) : ∃ xs : List (List UInt8), v.forget = .sl 0 (xs.map sV) := slice_hasLt Try.underlying42 (fun _ _ u hu => by
  obtain ⟨m, rfl⟩ := Has.str Try.underlying9 hu
  exact ⟨m, rfl⟩) h


end Go.Proofs.Ytolhegocbkckdaa
