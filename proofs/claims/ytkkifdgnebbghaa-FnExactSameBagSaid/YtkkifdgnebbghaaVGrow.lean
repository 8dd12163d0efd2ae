/-
  Worlds that a call of the library's leaves behind: draws, and blocks behind the heap. Own work; no condition.
-/
import Derived.Test.YtkkifdgnebbghaaVRel
import Derived.Sort.Grow
import Derived.Sort.Row
import Derived.Deep.Draws
namespace Go.Proofs.Ytkkifdgnebbghaa
open Go
set_option linter.unusedSimpArgs false
set_option linter.unusedVariables false

/-- What is drawn, and what is laid behind the heap, no state is told of. -/
theorem RelS.grown {s : S} (os : List Obj) : ∀ {E : Env}, RelS E s → ∃ E' : Env, E'.w = Sort.grow E.w os.toArray ∧ Step E s E' s ∧ RelS E' s := by
  induction os with
  | nil => intro E h; exact ⟨E, by simp, .refl _ _, h⟩
  | cons o os ih =>
    intro E h
    obtain ⟨a, b⟩ := step_raw h o
    obtain ⟨E', e, c, d⟩ := ih b
    refine ⟨E', ?_, a.trans c, d⟩
    rw [e]
    show Sort.grow (E.w.alloc o) _ = _
    rw [Sort.alloc_eq_grow, Sort.grow_grow]
    congr 1
    simp
theorem RelS.drewN {s : S} (k : Nat) : ∀ {E : Env}, RelS E s → ∃ E' : Env, E'.w = E.w.drewN k ∧ Step E s E' s ∧ RelS E' s := by
  induction k with
  | zero => intro E h; exact ⟨E, rfl, .refl _ _, h⟩
  | succ k ih =>
    intro E h
    obtain ⟨E', e, c, d⟩ := ih h
    obtain ⟨a, b⟩ := step_drew d
    refine ⟨E'.drew, ?_, c.trans a, b⟩
    show E'.w.drew = _
    rw [e]
    rfl

end Go.Proofs.Ytkkifdgnebbghaa
