/-
  Parts of a slice whose elements are known. Own work; no condition.
-/
import Derived.Test.YtkkifdgnebbghaaVFac
namespace Go.Proofs.Ytkkifdgnebbghaa
open Go

theorem AnsL.slcU {P : Program} {L : Kn} {s : S} {tt : BT} (ht : tt.ok P) {us ys : List V} {T e : TypeId} {t te : Ty} {x i : Operand} {id n : Nat} {k : IntKind} (hx : opd L x = some (.sl id us)) (hT : tt.get T = some t) (hkd : t.kd = .slice e) (hte : tt.get e = some te) (hi : opd L i = some (.int k (n : Int)))
    (hn : n ≤ us.length) (hy : us.take n = ys) : AnsL P (.slice T x none (some i) none) L s (.sl 0 ys) := by
  subst hy
  exact AnsL.slcT ht hx hT hkd hte hi hn
theorem AnsL.slcD {P : Program} {L : Kn} {s : S} {tt : BT} (ht : tt.ok P) {us ys : List V} {T e : TypeId} {t te : Ty} {x i : Operand} {id n : Nat} {m : Int} {k : IntKind} (hx : opd L x = some (.sl id us)) (hT : tt.get T = some t) (hkd : t.kd = .slice e) (hte : tt.get e = some te) (hi : opd L i = some (.int k m)) (hm : m = (n : Int))
    (hn : n ≤ us.length) (hsz : ∀ x ∈ us, x.cells.length = te.size) (hy : us.drop n = ys) : AnsL P (.slice T x (some i) none none) L s (.sl 0 ys) := by
  subst hm hy
  have hsz' : (us.all fun x => decide (x.cells.length = te.size)) = true := by rw [List.all_eq_true]; exact fun x hx => by simpa using hsz x hx
  refine AnsL.slc (lo' := some (.int k (n : Int))) (hi' := none) (mx' := none) hx (by simp only [opdO, hi]) rfl rfl ?_
  simp only [vslice, ht.get hT, hkd, ht.get hte, Option.bind_some, bound, Int.toNat_natCast, Int.natCast_nonneg, if_true]
  rw [if_pos ⟨hn, Nat.le_refl _, .inr hsz'⟩, List.take_of_length_le (by simp)]
theorem AnsL.slcB {P : Program} {L : Kn} {s : S} {tt : BT} (ht : tt.ok P) {us ys : List V} {T e : TypeId} {t te : Ty} {x i j : Operand} {id n n2 : Nat} {m m2 : Int} {k k2 : IntKind} (hx : opd L x = some (.sl id us)) (hT : tt.get T = some t) (hkd : t.kd = .slice e) (hte : tt.get e = some te) (hi : opd L i = some (.int k m)) (hj : opd L j = some (.int k2 m2)) (hm : m = (n : Int)) (hm2 : m2 = (n2 : Int))
    (hn : n ≤ n2) (hn2 : n2 ≤ us.length) (hsz : ∀ x ∈ us, x.cells.length = te.size) (hy : (us.take n2).drop n = ys) : AnsL P (.slice T x (some i) (some j) none) L s (.sl 0 ys) := by
  subst hm hm2 hy
  have hsz' : (us.all fun x => decide (x.cells.length = te.size)) = true := by rw [List.all_eq_true]; exact fun x hx => by simpa using hsz x hx
  refine AnsL.slc (lo' := some (.int k (n : Int))) (hi' := some (.int k2 (n2 : Int))) (mx' := none) hx (by simp only [opdO, hi]) (by simp only [opdO, hj]) rfl ?_
  simp only [vslice, ht.get hT, hkd, ht.get hte, Option.bind_some, bound, Int.toNat_natCast, Int.natCast_nonneg, if_true]
  rw [if_pos ⟨hn, hn2, .inr hsz'⟩, List.drop_take]


end Go.Proofs.Ytkkifdgnebbghaa
