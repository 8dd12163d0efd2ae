/-
  What a scope of sources holds: its names differ, and each is found. Plain; own work; no condition.
-/
import Derived.Test.YtoagpmhdgllchaaDScD
import Derived.Test.YtoagpmhdgllchaaDCatL
import Derived.Test.YtoagpmhdgllchaaDStar
namespace Go.Proofs.Ytoagpmhdgllchaa
open Go
set_option linter.unusedSimpArgs false
set_option linter.unusedVariables false

def Uq (ns : List Named) : Prop := (ns.map fun n => (n.qual, n.name)).Nodup
theorem findI_at {α : Type} {p : α → Bool} : ∀ (xs : List α) (n k : Nat), findI p xs n = ((n + k : Nat) : Int) → ∃ h : k < xs.length, p xs[k] = true
  | [], n, k, h => by simp only [findI] at h; omega
  | x :: xs, n, k, h => by
    unfold findI at h
    split at h
    · rename_i hp
      have : k = 0 := by omega
      subst this
      exact ⟨by simp, hp⟩
    · have e : ((n : Int) + 1) = ((n + 1 : Nat) : Int) := rfl
      rw [e] at h
      have h1 := findI_lt (p := p) xs (n + 1) (by rw [h]; omega)
      obtain ⟨k, rfl⟩ : ∃ m, k = m + 1 := ⟨k - 1, by omega⟩
      obtain ⟨h2, h3⟩ := findI_at xs (n + 1) k (by rw [h]; omega)
      exact ⟨by simpa using h2, by simpa using h3⟩
theorem cat_at {c : Cat} {q : List UInt8} (hc : catOk c = true) (h : 0 ≤ c.at q) : ∃ k : Nat, ∃ hk : k < c.tables.length, c.at q = k ∧ c.tables[k].name = q ∧ tabOk c.tables[k] = true := by
  obtain ⟨k, h1, h2⟩ := Cat.at_lt c q h
  have h3 : findI (tableP q) c.tables ((0 : Nat) : Int) = ((0 + k : Nat) : Int) := by rw [Nat.zero_add]; exact h1
  obtain ⟨h4, h5⟩ := findI_at c.tables 0 k h3
  refine ⟨k, h2, h1, by simpa [tableP] using h5, ?_⟩
  unfold catOk at hc
  rw [Bool.and_eq_true] at hc
  have := allI_at c.tables 0 k hc.2 h2
  simp only [rowOk, Bool.and_eq_true] at this
  exact this.1
theorem cols_nodup {t : Tab} (h : tabOk t = true) : (t.cols.map Col.name).Nodup := by
  unfold tabOk at h
  simp only [Bool.and_eq_true] at h
  have key : ∀ i (hi : i < t.cols.length), t.at t.cols[i].name = i := fun i hi => by
    have := allI_at t.cols 0 i h.2.2 hi
    simp only [colOk, Bool.and_eq_true, decide_eq_true_eq, Nat.zero_add] at this
    exact this.2.2
  rw [List.Nodup, List.pairwise_iff_getElem]
  intro i j hi hj hij he
  simp only [List.length_map] at hi hj
  simp only [List.getElem_map] at he
  have a := key i hi
  have b := key j hj
  rw [he] at a
  omega
theorem name_ne {b : List UInt8} (h : nameOk b = true) : b ≠ [] := by
  intro e
  subst e
  simp [nameOk, inR] at h
theorem bring_ok {c : Cat} {x : ESrc} (hc : catOk c = true) (h : 0 ≤ c.at x.table) : srcAlias x ≠ [] ∧ Uq (bring c x) ∧ ∀ n ∈ bring c x, n.qual = srcAlias x := by
  obtain ⟨k, hk, h1, h2, h3⟩ := cat_at hc h
  rw [bring_at c x k h1 hk]
  refine ⟨?_, ?_, ?_⟩
  · unfold srcAlias
    split
    · rw [← h2]
      unfold tabOk at h3
      rw [Bool.and_eq_true] at h3
      exact name_ne h3.1
    · assumption
  · have h4 := cols_nodup h3
    unfold Uq
    rw [List.map_map]
    generalize c.tables[k].cols = l at h4
    induction l with
    | nil => exact List.nodup_nil
    | cons y l ih =>
      rw [List.map_cons, List.nodup_cons] at h4 ⊢
      refine ⟨fun hm => h4.1 ?_, ih h4.2⟩
      rw [List.mem_map] at hm ⊢
      obtain ⟨z, hz, e⟩ := hm
      refine ⟨z, hz, ?_⟩
      simp only [Function.comp_apply, Prod.mk.injEq] at e
      exact e.2
  · intro n hn
    rw [List.mem_map] at hn
    obtain ⟨y, _, rfl⟩ := hn
    rfl
theorem scopeOf_uq (c : Cat) (hc : catOk c = true) : ∀ (l : List ESrc) (seen : List (List UInt8)) (ns r : List Named) (e : List UInt8), scopeOf c l seen ns = (r, 0, e) → Uq ns → (∀ n ∈ ns, n.qual ∈ seen ∧ n.qual ≠ []) → Uq r ∧ ∀ n ∈ r, n.qual ≠ []
  | [], seen, ns, r, e, h, hu, hq => by
    simp only [scopeOf, Prod.mk.injEq] at h
    obtain ⟨rfl, _, _⟩ := h
    exact ⟨hu, fun n hn => (hq n hn).2⟩
  | x :: l, seen, ns, r, e, h, hu, hq => by
    unfold scopeOf at h
    split at h
    · simp at h
    · split at h
      · simp at h
      · rename_i h0 h1
        obtain ⟨a1, a2, a3⟩ := bring_ok hc (by omega : 0 ≤ c.at x.table)
        refine scopeOf_uq c hc l _ _ r e h ?_ ?_
        · unfold Uq at hu a2 ⊢
          rw [List.map_append, List.nodup_append]
          refine ⟨hu, a2, ?_⟩
          intro p hp q hq2 e2
          rw [List.mem_map] at hp hq2
          obtain ⟨n, hn, rfl⟩ := hp
          obtain ⟨m, hm, rfl⟩ := hq2
          simp only [Prod.mk.injEq] at e2
          have := (hq n hn).1
          rw [e2.1, a3 m hm] at this
          exact h1 this
        · intro n hn
          rw [List.mem_append] at hn
          rcases hn with hn | hn
          · exact ⟨List.mem_append_left _ (hq n hn).1, (hq n hn).2⟩
          · rw [a3 n hn]
            exact ⟨List.mem_append_right _ (by simp), a1⟩
theorem hits_one {α : Type} {p : α → Bool} {xs : List α} {i : Nat} (hi : i < xs.length) (hp : p xs[i] = true) (hu : ∀ j (h : j < xs.length), p xs[j] = true → j = i) : ∀ m, m ≤ xs.length → hits p xs m = if i < m then [(i : Int)] else []
  | 0, _ => by simp [hits]
  | m + 1, hm => by
    have ih := hits_one hi hp hu m (by omega)
    rw [hits_succ (show m < xs.length by omega), ih]
    by_cases hmi : m = i
    · subst hmi
      simp [hp]
    · have : p (xs[m]'(by omega)) = false := by
        cases h : p (xs[m]'(by omega)) with
        | false => rfl
        | true => exact absurd (hu m (by omega) h) hmi
      rw [this]
      by_cases h2 : i < m
      · simp [h2, show i < m + 1 by omega]
      · simp [h2, show ¬ i < m + 1 by omega]
theorem find_one {ns : List Named} (hu : Uq ns) {i : Nat} (hi : i < ns.length) (hq : ns[i].qual ≠ []) : findFrom ns[i].qual ns[i].name [⟨ns⟩] 0 = (⟨0, i, ns[i].type⟩, 0) := by
  have h : (⟨ns⟩ : Scope).matches ns[i].qual ns[i].name = [(i : Int)] := by
    unfold Scope.matches
    rw [hits_one hi (by simp [matchP, starP]) ?_ _ (Nat.le_refl _), if_pos hi]
    intro j hj hp
    simp only [matchP, starP, Bool.and_eq_true, Bool.or_eq_true, decide_eq_true_eq, hq, false_or] at hp
    unfold Uq at hu
    have := (List.getElem_inj (xs := ns.map fun n => (n.qual, n.name)) (h₀ := by simpa using hj) (h₁ := by simpa using hi) hu).1 (by simp [hp.1, hp.2])
    exact this
  rw [findFrom, h]
  simp [hi]
theorem star_all (ns : List Named) : ((⟨ns⟩ : Scope).star []).length = ns.length := by
  have key : ∀ m, m ≤ ns.length → (hits (starP []) ns m).length = m := by
    intro m
    induction m with
    | zero => intro _; rfl
    | succ m ih =>
      intro h
      rw [hits_succ (show m < ns.length by omega), List.length_append, ih (by omega)]
      simp [starP]
  exact key _ (Nat.le_refl _)

end Go.Proofs.Ytoagpmhdgllchaa
