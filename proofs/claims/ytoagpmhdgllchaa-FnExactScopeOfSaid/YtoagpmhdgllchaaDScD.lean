/-
  The scope of a list of sources, as a plain function. Own work; no condition.
-/
import Derived.Test.YtoagpmhdgllchaaDAlias
import Derived.Test.YtoagpmhdgllchaaDScope
namespace Go.Proofs.Ytoagpmhdgllchaa
open Go
set_option linter.unusedSimpArgs false
set_option linter.unusedVariables false

/-- The names that a source brings. -/
def bring (c : Cat) (x : ESrc) : List Named := match c.tables[(c.at x.table).toNat]? with
  | some t => t.cols.map fun k => ⟨srcAlias x, k.name, k.type⟩
  | none => []
def scopeOf (c : Cat) : List ESrc → List (List UInt8) → List Named → List Named × Int × List UInt8
  | [], _, ns => (ns, 0, [])
  | x :: xs, seen, ns => if c.at x.table < 0 then ([], 1, x.table) else if srcAlias x ∈ seen then ([], 2, srcAlias x) else scopeOf c xs (seen ++ [srcAlias x]) (ns ++ bring c x)
def brings (c : Cat) (l : List ESrc) : List Named := (l.map (bring c)).flatten
def scopeV (r : List Named × Int × List UInt8) : V := .tup [.agg [.sl 0 (r.1.map Named.toV)], .int .i64 r.2.1, .str r.2.2]
theorem findI_lt {α : Type} {p : α → Bool} : ∀ (xs : List α) (k : Nat), 0 ≤ findI p xs k → (k : Int) ≤ findI p xs k ∧ findI p xs k < k + xs.length
  | [], k, h => by simp [findI] at h
  | x :: xs, k, h => by
    unfold findI at h ⊢
    split
    · simp only [List.length_cons]; omega
    · rename_i hp
      rw [if_neg hp] at h
      have := findI_lt (p := p) xs (k + 1) h
      simp only [List.length_cons]
      have e : ((k + 1 : Nat) : Int) = (k : Int) + 1 := rfl
      rw [e] at this
      omega
theorem Cat.at_lt (c : Cat) (q : List UInt8) (h : 0 ≤ c.at q) : ∃ k : Nat, c.at q = k ∧ k < c.tables.length := by
  have h2 : ((0 : Nat) : Int) ≤ c.at q ∧ c.at q < ((0 : Nat) : Int) + c.tables.length := findI_lt (p := tableP q) c.tables 0 h
  exact ⟨(c.at q).toNat, by omega, by omega⟩
theorem bring_at (c : Cat) (x : ESrc) (k : Nat) (h : c.at x.table = k) (hk : k < c.tables.length) : bring c x = c.tables[k].cols.map fun y => ⟨srcAlias x, y.name, y.type⟩ := by
  have e : c.tables[(c.at x.table).toNat]? = some c.tables[k] := by rw [h]; simp [hk]
  unfold bring
  rw [e]
theorem bring_len (c : Cat) (x : ESrc) (h : c.wt ≤ 1048576) : (bring c x).length ≤ 1048576 := by
  unfold bring
  split
  · rename_i t ht
    obtain ⟨hi, rfl⟩ := List.getElem?_eq_some_iff.1 ht
    have h1 := mem_slW (f := Tab.wt) hi
    have h2 := len_slW Col.wt c.tables[(c.at x.table).toNat].cols
    simp only [Cat.wt, Tab.wt] at h h1
    rw [List.length_map]
    omega
  · exact Nat.zero_le _
theorem brings_len (c : Cat) (h : c.wt ≤ 1048576) : ∀ l : List ESrc, (brings c l).length ≤ l.length * 1048576
  | [] => by simp [brings]
  | x :: l => by
    have h1 := bring_len c x h
    have h2 := brings_len c h l
    simp only [brings, List.map_cons, List.flatten_cons, List.length_append, List.length_cons] at h2 ⊢
    omega
theorem brings_take (c : Cat) {l : List ESrc} {i : Nat} (h : i < l.length) : brings c (l.take (i + 1)) = brings c (l.take i) ++ bring c l[i] := by
  rw [List.take_succ_eq_append_getElem h]
  simp only [brings, List.map_append, List.map_cons, List.map_nil, List.flatten_append, List.flatten_cons, List.flatten_nil, List.append_nil]
/-- The walk at the i-th source. -/
def scopeAt (c : Cat) (l : List ESrc) (i : Nat) : List Named × Int × List UInt8 := scopeOf c (l.drop i) ((l.take i).map srcAlias) (brings c (l.take i))
theorem scopeAt_0 (c : Cat) (l : List ESrc) : scopeAt c l 0 = scopeOf c l [] [] := by simp [scopeAt, brings]
theorem scopeAt_end (c : Cat) (l : List ESrc) (i : Nat) (h : l.length ≤ i) : scopeAt c l i = (brings c l, 0, []) := by
  unfold scopeAt
  rw [List.drop_of_length_le h, List.take_of_length_le h]
  rfl
theorem scopeAt_lt (c : Cat) {l : List ESrc} {i : Nat} (h : i < l.length) : scopeAt c l i = if c.at l[i].table < 0 then ([], 1, l[i].table) else if srcAlias l[i] ∈ (l.take i).map srcAlias then ([], 2, srcAlias l[i]) else scopeAt c l (i + 1) := by
  unfold scopeAt
  rw [List.drop_eq_getElem_cons h, scopeOf, brings_take c h, List.take_succ_eq_append_getElem h, List.map_append]
  rfl
theorem scopeOf_len (c : Cat) (l : List ESrc) (h : c.wt ≤ 1048576) (hl : l.length ≤ 1048576) : (scopeOf c l [] []).1.length ≤ 1099511627776 := by
  rw [← scopeAt_0]
  have key : ∀ k i, l.length ≤ i + k → (scopeAt c l i).1.length ≤ 1099511627776 := by
    intro k
    induction k with
    | zero =>
      intro i hi
      rw [scopeAt_end c l i (by omega)]
      have := brings_len c h l
      show (brings c l).length ≤ _
      omega
    | succ k ih =>
      intro i hi
      rcases Nat.lt_or_ge i l.length with hlt | hge
      · rw [scopeAt_lt c hlt]
        split
        · simp
        · split
          · simp
          · exact ih (i + 1) (by omega)
      · rw [scopeAt_end c l i hge]
        have := brings_len c h l
        show (brings c l).length ≤ _
        omega
  exact key l.length 0 (by omega)

end Go.Proofs.Ytoagpmhdgllchaa
