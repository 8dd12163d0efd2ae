/-
  The law on tables and columns found by name. Own work; no condition.
-/
import Derived.Test.YtoagpmhdgllchaaDCatE
import Derived.Test.YtoagpmhdgllchaaDCat2
import Derived.Test.YtoagpmhdgllchaaDTypes
import Derived.Test.YtoagpmhdgllchaaDBig
namespace Go.Proofs.Ytoagpmhdgllchaa
open Go
set_option linter.unusedSimpArgs false
set_option linter.unusedVariables false

theorem findI_le {α : Type} {p : α → Bool} : ∀ (l : List α) (i : Nat) (n : Int), 0 ≤ n → ∀ h : i < l.length, p l[i] = true → n ≤ findI p l n ∧ findI p l n ≤ n + i
  | [], i, n, _, h, _ => by simp at h
  | x :: xs, 0, n, hn, h, hp => by
    have hp' : p x = true := hp
    unfold findI
    rw [if_pos hp']
    omega
  | x :: xs, i + 1, n, hn, h, hp => by
    unfold findI
    split
    · omega
    · have := findI_le xs i (n + 1) (by omega) (by simpa using h) hp
      omega
theorem allI_at {α : Type} {p : Nat → α → Bool} : ∀ (l : List α) (n i : Nat), allI p l n = true → ∀ h : i < l.length, p (n + i) l[i] = true
  | [], n, i, _, h => by simp at h
  | x :: xs, n, 0, ha, h => by
    simp only [allI, Bool.and_eq_true] at ha
    exact ha.1
  | x :: xs, n, i + 1, ha, h => by
    simp only [allI, Bool.and_eq_true] at ha
    have := allI_at xs (n + 1) i ha.2 (by simpa using h)
    rw [show n + 1 + i = n + (i + 1) by omega] at this
    exact this
theorem tab_at {c : Cat} {i : Nat} (h : i < c.tables.length) : 0 ≤ c.at c.tables[i].name ∧ c.at c.tables[i].name ≤ i := by
  have := findI_le (p := tableP c.tables[i].name) c.tables i 0 (Int.le_refl _) h (by simp [tableP])
  unfold Cat.at
  omega
theorem tab_eq {c : Cat} {i : Nat} (h : i < c.tables.length) (hc : catOk c = true) : c.at c.tables[i].name = i := by
  unfold catOk at hc
  rw [Bool.and_eq_true] at hc
  have := allI_at c.tables 0 i hc.2 h
  simp only [rowOk, Bool.and_eq_true, decide_eq_true_eq, Nat.zero_add] at this
  exact this.2
theorem col_at {t : Tab} {k : Nat} (h : k < t.cols.length) : 0 ≤ t.at t.cols[k].name ∧ t.at t.cols[k].name ≤ k := by
  have := findI_le (p := colP t.cols[k].name) t.cols k 0 (Int.le_refl _) h (by simp [colP])
  unfold Tab.at
  omega
theorem Tab.mid_wt {t : Tab} (h : t.mid) : t.wt ≤ 200 := by
  obtain ⟨h1, h2, h3⟩ := h
  have e : slW Col.wt t.cols ≤ t.cols.length * 22 := by
    generalize t.cols = l at h3
    induction l with
    | nil => exact Nat.le_refl _
    | cons c l ih =>
      have a1 := h3 c (by simp)
      have a2 := ih fun x hx => h3 x (by simp [hx])
      have a3 : slW Col.wt (c :: l) = l.length + 1 + (c.name.length + sumW Col.wt l) := by simp [slW, sumW, Col.wt]
      have a4 : slW Col.wt l = l.length + sumW Col.wt l := rfl
      simp only [List.length_cons]
      omega
  have m : t.cols.length * 22 ≤ 4 * 22 := Nat.mul_le_mul_right _ h2
  simp only [Tab.wt]
  omega
theorem Cat.mid_wt {ts : List Tab} (h : ts.length ≤ 5) (hs : ∀ t ∈ ts, t.mid) : (⟨ts⟩ : Cat).wt ≤ 1048576 := by
  have e : slW Tab.wt ts ≤ ts.length * 201 := by
    clear h
    induction ts with
    | nil => exact Nat.le_refl _
    | cons c l ih =>
      have a1 := Tab.mid_wt (hs c (by simp))
      have a2 := ih fun x hx => hs x (by simp [hx])
      simp only [slW, sumW, List.length_cons, List.map_cons, List.sum_cons] at a2 ⊢
      omega
  have m : ts.length * 201 ≤ 5 * 201 := Nat.mul_le_mul_right _ h
  simp only [Cat.wt]
  omega
theorem AnsL.gtrF {P : Program} {L : Kn} {s : S} {T U : TypeId} {x y : Operand} {k : IntKind} {m n : Int} (hx : opd L x = some (.int k m)) (hy : opd L y = some (.int k n)) (h : ¬ m > n) : AnsL P (.binOp .gtr T x y U) L s (.bool false) :=
  .of fun σ hσ _ _ _ _ _ => by
    simp only [vop, opd_eq hσ hx, opd_eq hσ hy, vbin, Option.bind_some, Option.map_some]
    simp [h]
theorem AnsL.lssF {P : Program} {L : Kn} {s : S} {T U : TypeId} {x y : Operand} {k : IntKind} {m n : Int} (hx : opd L x = some (.int k m)) (hy : opd L y = some (.int k n)) (h : ¬ m < n) : AnsL P (.binOp .lss T x y U) L s (.bool false) :=
  .of fun σ hσ _ _ _ _ _ => by
    simp only [vop, opd_eq hσ hx, opd_eq hσ hy, vbin, Option.bind_some, Option.map_some]
    simp [h]

end Go.Proofs.Ytoagpmhdgllchaa
