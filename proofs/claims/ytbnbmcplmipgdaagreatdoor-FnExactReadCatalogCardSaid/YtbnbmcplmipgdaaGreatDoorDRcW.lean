/-
  How much is read, plainly: weights of tokens, tables and catalogs. Own work; no condition.
-/
import Derived.Test.YtbnbmcplmipgdaaGreatDoorDTab
namespace Go.Proofs.YtbnbmcplmipgdaaGreatDoor
set_option linter.unusedSimpArgs false
set_option linter.unusedVariables false
def tkW (l : List Token) : Nat := (l.map fun t => t.text.length + 1).sum
theorem tkW_app (a b : List Token) : tkW (a ++ b) = tkW a + tkW b := by simp [tkW]
theorem tkW_len : ∀ l : List Token, l.length ≤ tkW l
  | [] => Nat.le_refl _
  | t :: l => by
    have := tkW_len l
    simp only [tkW, List.map_cons, List.sum_cons, List.length_cons] at this ⊢
    omega
theorem tkW_mem {l : List Token} {t : Token} (h : t ∈ l) : t.text.length ≤ tkW l := by
  induction l with
  | nil => cases h
  | cons x l ih =>
    simp only [tkW, List.map_cons, List.sum_cons]
    cases h with
    | head => omega
    | tail _ h => have := ih h; simp only [tkW] at this; omega
/-! ### The lexer -/
theorem quot_txt {q : UInt8} : ∀ {n : Nat} {l : List UInt8} {x : List UInt8 × Nat}, l.length ≤ n → quotS q l = some x → x.1.length ≤ x.2
  | _, [], x, _, h => by cases h
  | 0, b :: l, x, hn, h => by simp at hn
  | n + 1, b :: l, x, hn, h => by
    by_cases hb : b = q
    · subst hb
      cases l with
      | nil => rw [quotS_end] at h; cases h; simp
      | cons c l =>
        by_cases hc : c = b
        · subst hc
          rw [quotS_two] at h
          obtain ⟨y, hy, rfl⟩ := Option.map_eq_some_iff.1 h
          have := quot_txt (n := n) (by simp at hn; omega) hy
          simp only [List.length_cons]
          omega
        · rw [quotS_stop hc] at h; cases h; simp
    · rw [quotS_ne hb] at h
      obtain ⟨y, hy, rfl⟩ := Option.map_eq_some_iff.1 h
      have := quot_txt (n := n) (by simpa using hn) hy
      simp only [List.length_cons]
      omega
theorem oneP_txt {num : List UInt8 → Bool} {l : List UInt8} {i : Nat} {x : Token × Nat} (h : oneP num l i = some x) : x.1.text.length ≤ x.2 - i := by
  unfold oneP at h
  split at h
  case h_2 => cases h
  rename_i b hb
  obtain ⟨hi, _⟩ := List.getElem?_eq_some_iff.1 hb
  have hr := runE_le l i (by omega)
  have hw : (wordT l i).length = runE l i - i := by unfold wordT; rw [List.length_drop, List.length_take]; omega
  have hc : ∀ {t : Token} {e : Nat}, chkT num t e = some x → x.1 = t ∧ x.2 = e := fun {t e} h => by
    obtain ⟨rfl, _⟩ := chkT_some h
    exact ⟨rfl, rfl⟩
  have hq : ∀ {k : Int} {q : UInt8}, quoT num k i (quotS q (l.drop (i + 1))) = some x → x.1.text.length ≤ x.2 - i := fun {k q} h => by
    cases hs : quotS q (l.drop (i + 1)) with
    | none => rw [hs] at h; cases h
    | some y =>
      rw [hs] at h
      obtain ⟨h1, h2⟩ := hc h
      have := quot_txt (Nat.le_refl _) hs
      rw [h1, h2]
      dsimp only
      omega
  unfold oneB at h
  split at h
  · split at h
    · obtain ⟨h1, h2⟩ := hc h
      rw [h1, h2]
      dsimp only
      rw [fold_len]
      omega
    · obtain ⟨h1, h2⟩ := hc h
      rw [h1, h2]
      dsimp only
      omega
  · split at h
    · obtain ⟨h1, h2⟩ := hc h
      rw [h1, h2]
      dsimp only
      omega
    · split at h
      · exact hq h
      · split at h
        · exact hq h
        · obtain ⟨h1, h2⟩ := hc h
          rw [h1, h2]
          dsimp only
          omega
theorem lexP_wt {num : List UInt8 → Bool} {l : List UInt8} : ∀ (f i : Nat) (ts : List Token), i ≤ l.length → tkW ts ≤ 2 * i → tkW (lexP num l f i ts).1 ≤ 2 * l.length
  | 0, i, ts, hi, h => by unfold lexP; dsimp only; omega
  | f + 1, i, ts, hi, h => by
    obtain ⟨b1, b2, b3⟩ := pass_bnd l _ i (Nat.le_refl _) hi
    unfold lexP
    split
    · simp [tkW]
    · split
      · dsimp only; omega
      · split
        · rename_i x hx
          obtain ⟨e1, e2⟩ := oneP_end hx
          have e3 := oneP_txt hx
          refine lexP_wt f _ _ e2 ?_
          rw [tkW_app]
          have : tkW [x.1] = x.1.text.length + 1 := by simp [tkW]
          omega
        · simp [tkW]
theorem lexT_wt (num : List UInt8 → Bool) (l : List UInt8) : tkW (lexT num l).1 ≤ 4000 := by
  unfold lexT
  split
  · simp [tkW]
  · have := lexP_wt (num := num) (l := l) (l.length + 1) 0 [] (Nat.zero_le _) (by simp [tkW])
    omega
/-! ### The reader -/
def wA (l : List Token) (k : Nat) : Nat := tkW (l.take k)
theorem wA_step {l : List Token} {k : Nat} (h : k < l.length) : wA l (k + 1) = wA l k + (l[k].text.length + 1) := by
  unfold wA
  rw [List.take_succ_eq_append_getElem h, tkW_app]
  simp [tkW]
theorem wA_mono (l : List Token) {a b : Nat} (h : a ≤ b) : wA l a ≤ wA l b := by
  obtain ⟨c, rfl⟩ := Nat.exists_eq_add_of_le h
  unfold wA
  rw [List.take_add, tkW_app]
  omega
theorem wA_all (l : List Token) (k : Nat) : wA l k ≤ tkW l := by
  have : tkW l = tkW (l.take k) + tkW (l.drop k) := by rw [← tkW_app, List.take_append_drop]
  unfold wA
  omega
def bN (p : Pst) : Nat := if p.2 = true then 1 else 0
theorem bN_le (p : Pst) : bN p ≤ 1 := by unfold bN; split <;> omega
theorem nmP_b (l : List Token) (q : Pst) : bN q ≤ bN (nmP l q) := by
  unfold nmP
  split
  · exact Nat.le_refl _
  · exact bN_le q
theorem sgP_b (l : List Token) (b : List UInt8) (q : Pst) : bN q ≤ bN (sgP l b q) := by
  unfold sgP
  split
  · exact Nat.le_refl _
  · exact bN_le q
theorem nm_wt (l : List Token) (q : Pst) : (nmX l q).length + 1 + wA l q.1 ≤ wA l (nmP l q).1 + bN (nmP l q) := by
  unfold nmX nmP
  cases c : isNm l q
  · simp [bN]; omega
  · obtain ⟨h1, h2⟩ := isNm_lt c
    simp only [if_true, List.getElem?_eq_getElem h1]
    rw [wA_step h1]
    omega
theorem col_wt (ty : List UInt8 → Int) (l : List Token) (p : Pst) : 1 + (colR ty l p).wt + wA l p.1 ≤ wA l (colQ l p).1 + bN (colQ l p) := by
  have h1 := nm_wt l p
  have h2 := wA_mono l (nmP_ge l (nmP l p))
  have h3 := nmP_b l (nmP l p)
  simp only [colR, Col.wt, colQ]
  omega
theorem slW_snoc {α : Type} (f : α → Nat) (l : List α) (x : α) : slW f (l ++ [x]) = slW f l + (1 + f x) := by
  have e : sumW f (l ++ [x]) = sumW f l + f x := by simp [sumW]
  unfold slW
  rw [e, List.length_append, List.length_singleton]
  omega
theorem cols_wt (ty : List UInt8 → Int) (l : List Token) : ∀ (f : Nat) (p : Pst) (cs : List Col), slW Col.wt (colsP ty l f p cs).1 + wA l p.1 ≤ slW Col.wt cs + wA l (colsP ty l f p cs).2.1 + bN (colsP ty l f p cs).2
  | 0, p, cs => by unfold colsP; dsimp only; omega
  | f + 1, p, cs => by
    have h1 := col_wt ty l p
    unfold colsP
    split
    · rename_i c
      have h2 := cols_wt ty l f ((colQ l p).1 + 1, (colQ l p).2) (cs ++ [colR ty l p])
      rw [slW_snoc] at h2
      have h3 := wA_mono l (show (colQ l p).1 ≤ (colQ l p).1 + 1 by omega)
      have h4 : bN (colQ l p) = 0 := by unfold bN; rw [(isTk_lt c).2]; rfl
      dsimp only at h2
      omega
    · dsimp only
      rw [slW_snoc]
      omega
theorem tabP_wt (ty : List UInt8 → Int) (z : Bool) (l : List Token) (q : Pst) : slW Col.wt (tabP ty z l q).1 + wA l (sgP l [40] (nmP l q)).1 ≤ wA l (tabP ty z l q).2.1 + bN (tabP ty z l q).2 := by
  unfold tabP
  split
  · simp [slW, sumW]
  · have := cols_wt ty l (l.length + 1) (sgP l [40] (nmP l q)) []
    have e : slW Col.wt [] = 0 := rfl
    omega
theorem tab_wt (ty : List UInt8 → Int) (z : Bool) (l : List Token) (q : Pst) : 1 + (tabX ty z l q).wt + wA l q.1 ≤ wA l (tabQ ty z l q).1 + 2 * bN (tabQ ty z l q) := by
  have h1 := nm_wt l q
  have h2 := wA_mono l (sgP_ge l [40] (nmP l q))
  have h3 := tabP_wt ty z l q
  have h4 := wA_mono l (sgP_ge l [41] (tabP ty z l q).2)
  have h5 := sgP_b l [41] (tabP ty z l q).2
  have h6 := sgP_b l [40] (nmP l q)
  have h7 : bN (sgP l [40] (nmP l q)) ≤ bN (tabP ty z l q).2 := by
    have hc : ∀ (f : Nat) (p : Pst) (cs : List Col), bN p ≤ bN (colsP ty l f p cs).2 := fun f => by
      induction f with
      | zero => intro p cs; exact Nat.le_refl _
      | succ f ih =>
        intro p cs
        have a1 := nmP_b l p
        have a2 := nmP_b l (nmP l p)
        unfold colsP
        split
        · exact Nat.le_trans (Nat.le_trans a1 a2) (ih ((colQ l p).1 + 1, (colQ l p).2) _)
        · exact Nat.le_trans a1 a2
    unfold tabP
    split
    · exact Nat.le_refl _
    · exact hc _ _ _
  simp only [tabX, Tab.wt, tabQ] at *
  omega
theorem com_wt (l : List Token) (k : Nat) (p : Pst) : wA l p.1 ≤ wA l (comQ l k p).1 := by
  unfold comQ
  split
  · exact Nat.le_refl _
  · exact wA_mono l (sgP_ge l [44] p)
theorem catP_bad {ty : List UInt8 → Int} {z : Bool} {l : List Token} (f : Nat) {p : Pst} (h : p.2 = true) (ts : List Tab) : catP ty z l f p ts = (ts, p) := by
  cases f with
  | zero => rfl
  | succ f => unfold catP; rw [if_pos (by rw [h]; rfl)]
theorem cat_wt (ty : List UInt8 → Int) (z : Bool) (l : List Token) : ∀ (f : Nat) (p : Pst) (ts : List Tab), slW Tab.wt (catP ty z l f p ts).1 + wA l p.1 ≤ slW Tab.wt ts + wA l (catP ty z l f p ts).2.1 + 2 * bN (catP ty z l f p ts).2
  | 0, p, ts => by unfold catP; dsimp only; omega
  | f + 1, p, ts => by
    have h1 := tab_wt ty z l (comQ l ts.length p)
    have h2 := com_wt l ts.length p
    unfold catP
    split
    · dsimp only; omega
    · generalize hp' : tabQ ty z l (comQ l ts.length p) = p' at h1 ⊢
      generalize tabX ty z l (comQ l ts.length p) = t at h1 ⊢
      cases hb : p'.2
      · have h3 := cat_wt ty z l f p' (ts ++ [t])
        rw [slW_snoc] at h3
        have h4 : bN p' = 0 := by unfold bN; rw [hb]; rfl
        omega
      · rw [catP_bad f hb, slW_snoc]
        dsimp only
        omega
theorem readC_wt (ty : List UInt8 → Int) (z : Bool) (l : List Token) : slW Tab.wt (readC ty z l).1 ≤ tkW l + 2 := by
  have h1 := cat_wt ty z l (l.length + 2) (0, false) []
  have h2 := wA_all l (catP ty z l (l.length + 2) (0, false) []).2.1
  have h3 := bN_le (catP ty z l (l.length + 2) (0, false) []).2
  have e : slW Tab.wt [] = 0 := rfl
  unfold readC
  omega
/-! ### It gets on -/
theorem colsP_le {ty : List UInt8 → Int} {l : List Token} : ∀ (f : Nat) (p : Pst) (cs : List Col), p.1 ≤ l.length → p.1 ≤ (colsP ty l f p cs).2.1 ∧ (colsP ty l f p cs).2.1 ≤ l.length
  | 0, p, cs, h => ⟨Nat.le_refl _, h⟩
  | f + 1, p, cs, h => by
    have h1 := colQ_ge l p
    have h2 := colQ_le h
    unfold colsP
    split
    · rename_i c
      have := colsP_le (ty := ty) f ((colQ l p).1 + 1, (colQ l p).2) (cs ++ [colR ty l p]) (isTk_lt c).1
      dsimp only at this
      omega
    · exact ⟨h1, h2⟩
theorem tabP_le {ty : List UInt8 → Int} {z : Bool} {l : List Token} {q : Pst} (h : q.1 ≤ l.length) : q.1 ≤ (tabP ty z l q).2.1 ∧ (tabP ty z l q).2.1 ≤ l.length := by
  have h1 := nmP_ge l q
  have h2 := sgP_ge l [40] (nmP l q)
  have h3 := sgP_le (b := [40]) (nmP_le h)
  unfold tabP
  split
  · dsimp only; omega
  · have := colsP_le (ty := ty) (l.length + 1) (sgP l [40] (nmP l q)) [] h3
    omega
theorem tabQ_le {ty : List UInt8 → Int} {z : Bool} {l : List Token} {q : Pst} (h : q.1 ≤ l.length) : (tabQ ty z l q).1 ≤ l.length := sgP_le (tabP_le h).2
theorem tabQ_lt {ty : List UInt8 → Int} {z : Bool} {l : List Token} {q : Pst} (h : q.1 ≤ l.length) (hb : (tabQ ty z l q).2 = false) : q.1 < (tabQ ty z l q).1 := by
  have h1 := (tabP_le (ty := ty) (z := z) h).1
  unfold tabQ sgP at hb ⊢
  split
  · dsimp only; omega
  · rename_i c
    rw [if_neg c] at hb
    cases hb
end Go.Proofs.YtbnbmcplmipgdaaGreatDoor
