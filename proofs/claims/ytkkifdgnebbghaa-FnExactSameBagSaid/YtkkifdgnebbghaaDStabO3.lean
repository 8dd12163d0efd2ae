/-
  Two sorted rows beside one another, merged in place: the library's symMerge, whole. Own work; no condition.
-/
import Derived.Test.YtkkifdgnebbghaaDStabO
import Derived.Test.YtkkifdgnebbghaaDStabO2
namespace Go.Proofs.Ytkkifdgnebbghaa
open Go
set_option linter.unusedSimpArgs false
set_option linter.unusedVariables false

theorem sym_all (N : Nat) : SymC N := by
  induction N with
  | zero =>
    intro A U V Z c l n rest za zm zb h1 h2 h3
    omega
  | succ N ih =>
    intro A U V Z c l n rest za zm zb h1 h2 h3 ha hm hb hl hbig hrow sU sV
    simp only [List.length_append] at hl
    by_cases u1 : U.length = 1
    · obtain ⟨u, rfl⟩ := List.length_eq_one_iff.1 u1
      exact sym_one h3 ha (by simpa using hm) (by simpa using hb) (by simpa [Nat.add_assoc] using hl) hbig (hrow u (by simp)) (fun x hx => hrow x (by simp [hx])) sV
    by_cases v1 : V.length = 1
    · obtain ⟨w, rfl⟩ := List.length_eq_one_iff.1 v1
      exact sym_last (by omega) ha hm (by simpa using hb) (by simp only [List.length_cons, List.length_nil] at hl; omega) hbig (hrow w (by simp)) (fun x hx => hrow x (by simp [hx])) sU
    by_cases hgt : zm > (za + zb) / 2
    · exact sym_gt ih h1 (by omega) (by omega) ha hm hb (by omega) hbig hrow sU sV hgt
    · exact sym_le ih h1 (by omega) (by omega) ha hm hb (by omega) hbig hrow sU sV hgt

end Go.Proofs.Ytkkifdgnebbghaa
