/-
  A value taken for a plain one. Own work; no condition.
-/
import Derived.Test.YtkkifdgnebbghaaVStab
namespace Go.Proofs.Ytkkifdgnebbghaa
open Go

/-- A value, taken for a plain one. -/
theorem WL.fgtV {P : Program} {N : Nat} {c : Code} {Q : Exit → Kn → S → Prop} {L : Kn} {s : S} {v d : V} (t : Nat) (hx : lk L t = some v) (hd : v.forget = d) (h : WL P N c Q ((t, d) :: L) s) : WL P N c Q L s := by
  subst hd
  refine ⟨fun σ hσ E act h1 h2 => ?_⟩
  have ha : RepA E (put σ t v.forget) N act := by
    refine ⟨fun u => ?_, h2.size, h2.defers⟩
    unfold put
    by_cases e : u = t
    · rw [if_pos e, e]
      have h3 := h2.slot t
      rw [hσ t _ hx] at h3
      exact h3.forget
    · rw [if_neg e]
      exact h2.slot u
  exact h.run _ (hσ.cons t _) E act h1 ha

theorem WL.toB {P : Program} {N : Nat} {c : Code} {Q : Exit → Kn → S → Prop} {L : Kn} {s : S} {os : List Own} {H : List BE} (hh : Hold s s.next H) (h : ∀ t : S, Hold t t.next H → WL P N c Q L (t.ext [])) : WL P N c Q L (s.ext os) := by
  have := h (s.ext os) (hh.ext os)
  rwa [ext_ext_nil] at this

end Go.Proofs.Ytkkifdgnebbghaa
