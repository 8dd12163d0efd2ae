/-
  Sorting by blocks and merging, plainly: nothing of the program. Own work; no condition.
-/
import Derived.Test.YtkkifdgnebbghaaVBase
namespace Go.Proofs.Ytkkifdgnebbghaa
set_option linter.unusedSimpArgs false
set_option linter.unusedVariables false

/-- A comparison that orders. -/
structure Ordr {α : Type} (cf : α → α → Int) : Prop where
  tot : ∀ a b, ¬ cf b a < 0 ∨ ¬ cf a b < 0
  trans : ∀ a b c, ¬ cf b a < 0 → ¬ cf c b < 0 → ¬ cf c a < 0
  anti : ∀ a b, ¬ cf b a < 0 → ¬ cf a b < 0 → a = b
section
variable {α : Type} {cf : α → α → Int}
def leF (cf : α → α → Int) (a b : α) : Prop := ¬ cf b a < 0
def Srt (cf : α → α → Int) (l : List α) : Prop := l.Pairwise (leF cf)
theorem Ordr.lt (h : Ordr cf) {a b : α} (hl : cf a b < 0) : leF cf a b := (h.tot a b).resolve_right fun h => h hl
theorem Ordr.refl (h : Ordr cf) (a : α) : leF cf a a := (h.tot a a).elim id id
theorem srt_uniq (h : Ordr cf) {l m : List α} (hp : l.Perm m) (hl : Srt cf l) (hm : Srt cf m) : l = m := by
  induction l generalizing m with
  | nil => exact (List.nil_perm.1 hp).symm
  | cons x l ih =>
    cases m with
    | nil => exact absurd hp.length_eq (by simp)
    | cons y m =>
      unfold Srt at hl hm
      rw [List.pairwise_cons] at hl hm
      have hxy : x = y := by
        have h1 : x ∈ y :: m := hp.subset (.head _)
        have h2 : y ∈ x :: l := hp.symm.subset (.head _)
        cases h1 with
        | head => rfl
        | tail _ h1 => cases h2 with
          | head => rfl
          | tail _ h2 => exact h.anti _ _ (hl.1 _ h2) (hm.1 _ h1)
      subst hxy
      rw [ih (hp.cons_inv) hl.2 hm.2]
theorem Srt.left {a b : List α} (h : Srt cf (a ++ b)) : Srt cf a := (List.pairwise_append.1 h).1
theorem Srt.right {a b : List α} (h : Srt cf (a ++ b)) : Srt cf b := (List.pairwise_append.1 h).2.1
theorem Srt.one (x : α) : Srt cf [x] := List.pairwise_singleton _ _
/-- One put between. -/
theorem Srt.ins (o : Ordr cf) {P Q : List α} {x : α} (h : Srt cf (P ++ Q)) (hq : ∀ q ∈ Q, leF cf x q) (hp : ∀ p ∈ P, leF cf p x) : Srt cf (P ++ x :: Q) := by
  obtain ⟨h1, h2, h3⟩ := List.pairwise_append.1 h
  refine List.pairwise_append.2 ⟨h1, List.pairwise_cons.2 ⟨hq, h2⟩, fun a ha b hb => ?_⟩
  cases hb with
  | head => exact hp a ha
  | tail _ hb => exact h3 a ha b hb
theorem Srt.lastLe (o : Ordr cf) {P : List α} {p x : α} (h : Srt cf (P ++ [p])) (hx : leF cf p x) : ∀ a ∈ P ++ [p], leF cf a x := by
  intro a ha
  obtain ⟨-, -, h3⟩ := List.pairwise_append.1 h
  rcases List.mem_append.1 ha with ha | ha
  · exact o.trans _ _ _ (h3 a ha p (.head _)) hx
  · cases ha with
    | head => exact hx
    | tail _ ha => cases ha
theorem Srt.headLe (o : Ordr cf) {Q : List α} {q x : α} (h : Srt cf (q :: Q)) (hx : leF cf x q) : ∀ a ∈ q :: Q, leF cf x a := by
  intro a ha
  cases ha with
  | head => exact hx
  | tail _ ha => exact o.trans _ _ _ hx ((List.pairwise_cons.1 h).1 a ha)
/-- Two sorted halves, taken apart crosswise and sorted again. -/
theorem Srt.cross (o : Ordr cf) {U1 U2 V1 V2 W1 W2 : List α} (hu : Srt cf (U1 ++ U2)) (hv : Srt cf (V1 ++ V2)) (c1 : ∀ u ∈ U1, ∀ v ∈ V2, leF cf u v) (c2 : ∀ v ∈ V1, ∀ u ∈ U2, leF cf v u)
    (w1 : Srt cf W1) (p1 : W1.Perm (U1 ++ V1)) (w2 : Srt cf W2) (p2 : W2.Perm (U2 ++ V2)) : Srt cf (W1 ++ W2) := by
  refine List.pairwise_append.2 ⟨w1, w2, fun a ha b hb => ?_⟩
  have ha := List.mem_append.1 (p1.subset ha)
  have hb := List.mem_append.1 (p2.subset hb)
  rcases ha with ha | ha <;> rcases hb with hb | hb
  · exact (List.pairwise_append.1 hu).2.2 a ha b hb
  · exact c1 a ha b hb
  · exact c2 a ha b hb
  · exact (List.pairwise_append.1 hv).2.2 a ha b hb
theorem perm_cross {U1 U2 V1 V2 W1 W2 : List α} (p1 : W1.Perm (U1 ++ V1)) (p2 : W2.Perm (U2 ++ V2)) : (W1 ++ W2).Perm ((U1 ++ U2) ++ (V1 ++ V2)) := by
  refine (p1.append p2).trans ?_
  rw [List.append_assoc, List.append_assoc]
  refine List.Perm.append_left _ ?_
  rw [← List.append_assoc, ← List.append_assoc]
  exact List.Perm.append_right _ List.perm_append_comm
/-- Sorted blocks of n, the last one no longer. -/
inductive Bk (cf : α → α → Int) (n : Nat) : List α → Prop
  | one {W} : Srt cf W → W.length ≤ n → Bk cf n W
  | cons {W R} : Srt cf W → W.length = n → Bk cf n R → Bk cf n (W ++ R)
/-- Sorted blocks of n, all whole. -/
inductive Fb (cf : α → α → Int) (n : Nat) : List α → Prop
  | nil : Fb cf n []
  | cons {W R} : Srt cf W → W.length = n → Fb cf n R → Fb cf n (W ++ R)
theorem Fb.snoc {n : Nat} {D W : List α} (h : Fb cf n D) (hs : Srt cf W) (hl : W.length = n) : Fb cf n (D ++ W) := by
  induction h with
  | nil => have := Fb.cons hs hl (.nil (cf := cf) (n := n)); simpa using this
  | cons a b c ih => rw [List.append_assoc]; exact .cons a b ih
theorem Fb.bk {n : Nat} {D R : List α} (h : Fb cf n D) (hr : Bk cf n R) : Bk cf n (D ++ R) := by
  induction h with
  | nil => exact hr
  | cons a b c ih => rw [List.append_assoc]; exact .cons a b ih
theorem Bk.short {n : Nat} {R : List α} (h : Bk cf n R) (hl : R.length ≤ n) : Srt cf R := by
  cases h with
  | one a b => exact a
  | @cons W R a b c =>
    have : R = [] := List.eq_nil_of_length_eq_zero (by simp only [List.length_append] at hl; omega)
    subst this
    rw [List.append_nil]; exact a
theorem Bk.take {n : Nat} {R : List α} (hn : 0 < n) (h : Bk cf n R) (hl : n < R.length) : ∃ W S, R = W ++ S ∧ W.length = n ∧ Srt cf W ∧ Bk cf n S := by
  cases h with
  | one a b => omega
  | @cons W S a b c => exact ⟨W, S, rfl, b, a, c⟩
/-- The next two blocks. -/
theorem Bk.two {n : Nat} {R : List α} (hn : 0 < n) (h : Bk cf n R) (hl : n + n ≤ R.length) : ∃ W1 W2 S, R = W1 ++ (W2 ++ S) ∧ W1.length = n ∧ W2.length = n ∧ Srt cf W1 ∧ Srt cf W2 ∧ Bk cf n S := by
  obtain ⟨W1, S1, rfl, l1, s1, b1⟩ := h.take hn (by omega)
  have hl1 : n ≤ S1.length := by simp only [List.length_append] at hl; omega
  rcases Nat.lt_or_ge n S1.length with h2 | h2
  · obtain ⟨W2, S2, rfl, l2, s2, b2⟩ := b1.take hn h2
    exact ⟨W1, W2, S2, rfl, l1, l2, s1, s2, b2⟩
  · exact ⟨W1, S1, [], by simp, l1, by omega, s1, b1.short h2, .one .nil (by simp)⟩
/-- What holds of the first ones, element by element. -/
theorem take_all {l : List α} {p : α → Prop} {k : Nat} (h : ∀ i (hi : i < l.length), i < k → p l[i]) : ∀ x ∈ l.take k, p x := by
  intro x hx
  obtain ⟨i, hi, rfl⟩ := List.mem_iff_getElem.1 hx
  rw [List.length_take] at hi
  rw [List.getElem_take]
  exact h i (by omega) (by omega)
theorem drop_all {l : List α} {p : α → Prop} {k : Nat} (h : ∀ i (hi : i < l.length), k ≤ i → p l[i]) : ∀ x ∈ l.drop k, p x := by
  intro x hx
  obtain ⟨i, hi, rfl⟩ := List.mem_iff_getElem.1 hx
  rw [List.length_drop] at hi
  rw [List.getElem_drop]
  exact h (k + i) (by omega) (by omega)
theorem Srt.at (o : Ordr cf) {l : List α} (h : Srt cf l) {i j : Nat} (hj : j < l.length) (hij : i ≤ j) : leF cf (l[i]'(by omega)) l[j] := by
  rcases Nat.lt_or_ge i j with hlt | hge
  · exact List.pairwise_iff_getElem.1 h i j (by omega) hj hlt
  · have : i = j := by omega
    subst this
    exact o.refl _
/-- The parts' edges tell of all. -/
theorem cross_le (o : Ordr cf) {U V : List α} (hu : Srt cf U) (hv : Srt cf V) {i j : Nat} (d : α) (hi : i ≤ U.length) (h : 0 < i → j < V.length → leF cf (U.getD (i - 1) d) (V.getD j d)) : ∀ u ∈ U.take i, ∀ v ∈ V.drop j, leF cf u v := by
  intro u hu1 v hv1
  obtain ⟨p, hp, rfl⟩ := List.mem_iff_getElem.1 hu1
  obtain ⟨q, hq, rfl⟩ := List.mem_iff_getElem.1 hv1
  rw [List.length_take] at hp
  rw [List.length_drop] at hq
  rw [List.getElem_take, List.getElem_drop]
  have h2 := h (by omega) (by omega)
  have e1 : U.getD (i - 1) d = U[i - 1] := by simp [List.getD, show i - 1 < U.length by omega]
  have e2 : V.getD j d = V[j] := by simp [List.getD, show j < V.length by omega]
  rw [e1, e2] at h2
  exact o.trans _ _ _ (hu.at o (by omega) (by omega)) (o.trans _ _ _ h2 (hv.at o (by omega) (by omega)))
end

end Go.Proofs.Ytkkifdgnebbghaa
