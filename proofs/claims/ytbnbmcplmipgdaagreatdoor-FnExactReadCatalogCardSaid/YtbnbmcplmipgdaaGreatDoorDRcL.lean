/-
  Tokens of a source, plainly: one token, all tokens. Own work; no condition.
-/
import Derived.Test.YtbnbmcplmipgdaaGreatDoorDRcP
namespace Go.Proofs.YtbnbmcplmipgdaaGreatDoor
set_option linter.unusedSimpArgs false
set_option linter.unusedVariables false

def tokOk (num : List UInt8 → Bool) (t : Token) : Bool :=
  if t.kind = 1 then decide (keyI (fold t.text) ≠ 0) && decide (fold t.text = t.text)
  else if t.kind = 2 then nameOk t.text
  else if t.kind = 3 then num t.text
  else if t.kind = 4 then decide ((t.text.length : Int) ≤ 40)
  else if t.kind = 5 then signOk t.text else false
theorem tokOk_num {n1 n2 : List UInt8 → Bool} {t : Token} (h : t.kind ≠ 3) : tokOk n1 t = tokOk n2 t := by
  unfold tokOk
  simp only [if_neg h]
def wordT (l : List UInt8) (i : Nat) : List UInt8 := (l.take (runE l i)).drop i
def sgnT (l : List UInt8) (i : Nat) : List UInt8 := if signOk (two l i) = true ∧ i + 2 ≤ l.length then two l i else (l.take (i + 1)).drop i
/-- A token that is right, and the place behind it. -/
def chkT (num : List UInt8 → Bool) (t : Token) (e : Nat) : Option (Token × Nat) := if tokOk num t = true then some (t, e) else none
def quoT (num : List UInt8 → Bool) (k : Int) (i : Nat) : Option (List UInt8 × Nat) → Option (Token × Nat)
  | some x => chkT num ⟨k, x.1, i⟩ (i + 1 + x.2)
  | none => none
def oneB (num : List UInt8 → Bool) (l : List UInt8) (i : Nat) (b : UInt8) : Option (Token × Nat) :=
  if ltrI (b.toNat : Int) = true then (if keyI (fold (wordT l i)) ≠ 0 then chkT num ⟨1, fold (wordT l i), i⟩ (runE l i) else chkT num ⟨2, wordT l i, i⟩ (runE l i))
  else if figI (b.toNat : Int) = true then chkT num ⟨3, wordT l i, i⟩ (runE l i)
  else if b = 34 then quoT num 2 i (quotS 34 (l.drop (i + 1)))
  else if b = 39 then quoT num 4 i (quotS 39 (l.drop (i + 1)))
  else chkT num ⟨5, sgnT l i, i⟩ (i + (sgnT l i).length)
def oneP (num : List UInt8 → Bool) (l : List UInt8) (i : Nat) : Option (Token × Nat) := match l[i]? with
  | some b => oneB num l i b
  | none => none
def lexP (num : List UInt8 → Bool) (l : List UInt8) : Nat → Nat → List Token → List Token × Int
  | 0, _, ts => (ts, -1)
  | f + 1, i, ts => if pass l i < 0 then ([], -pass l i - 1) else if (l.length : Int) ≤ pass l i then (ts, -1) else match oneP num l (pass l i).toNat with
    | some x => lexP num l f x.2 (ts ++ [x.1])
    | none => ([], pass l i)
def lexT (num : List UInt8 → Bool) (l : List UInt8) : List Token × Int := if 2000 < l.length then ([], 2000) else lexP num l (l.length + 1) 0 []

theorem chkT_some {num : List UInt8 → Bool} {t : Token} {e : Nat} {x : Token × Nat} (h : chkT num t e = some x) : x = (t, e) ∧ tokOk num t = true := by
  unfold chkT at h
  split at h
  · rename_i hc
    exact ⟨(Option.some.inj h).symm, hc⟩
  · cases h
theorem chkT_num {n1 n2 : List UInt8 → Bool} {t : Token} {e : Nat} {x : Token × Nat} (h : chkT n1 t e = some x) (hk : x.1.kind ≠ 3) : chkT n2 t e = some x := by
  obtain ⟨rfl, h2⟩ := chkT_some h
  unfold chkT
  rw [if_pos (by rw [tokOk_num (n1 := n2) (n2 := n1) hk]; exact h2)]
theorem quoT_num {n1 n2 : List UInt8 → Bool} {k : Int} {i : Nat} {o : Option (List UInt8 × Nat)} {x : Token × Nat} (h : quoT n1 k i o = some x) (hk : x.1.kind ≠ 3) : quoT n2 k i o = some x := by
  cases o with
  | none => cases h
  | some y => exact chkT_num h hk
theorem oneP_num {n1 n2 : List UInt8 → Bool} {l : List UInt8} {i : Nat} {x : Token × Nat} (h : oneP n1 l i = some x) (hk : x.1.kind ≠ 3) : oneP n2 l i = some x := by
  unfold oneP at h ⊢
  split at h
  · rename_i b hb
    unfold oneB at h ⊢
    split at h
    · rename_i c1
      rw [if_pos c1]
      split at h
      · rename_i c2; rw [if_pos c2]; exact chkT_num h hk
      · rename_i c2; rw [if_neg c2]; exact chkT_num h hk
    · rename_i c1
      rw [if_neg c1]
      split at h
      · rename_i c2; rw [if_pos c2]; exact chkT_num h hk
      · rename_i c2
        rw [if_neg c2]
        split at h
        · rename_i c3; rw [if_pos c3]; exact quoT_num h hk
        · rename_i c3
          rw [if_neg c3]
          split at h
          · rename_i c4; rw [if_pos c4]; exact quoT_num h hk
          · rename_i c4; rw [if_neg c4]; exact chkT_num h hk
  · cases h
theorem lexP_pre {num : List UInt8 → Bool} {l : List UInt8} : ∀ (f i : Nat) (ts us : List Token), lexP num l f i ts = (us, -1) → ∃ r, us = ts ++ r
  | 0, i, ts, us, h => ⟨[], by unfold lexP at h; cases h; simp⟩
  | f + 1, i, ts, us, h => by
    unfold lexP at h
    split at h
    · rename_i hp
      exfalso
      simp only [Prod.mk.injEq] at h
      omega
    · split at h
      · exact ⟨[], by cases h; simp⟩
      · split at h
        · rename_i x hx
          obtain ⟨r, hr⟩ := lexP_pre f _ _ _ h
          exact ⟨x.1 :: r, by rw [hr]; simp⟩
        · exfalso
          simp only [Prod.mk.injEq] at h
          omega
theorem lexP_num {n1 n2 : List UInt8 → Bool} {l : List UInt8} : ∀ (f i : Nat) (ts us : List Token), lexP n1 l f i ts = (us, -1) → (∀ x ∈ us, x.kind ≠ 3) → lexP n2 l f i ts = (us, -1)
  | 0, i, ts, us, h, _ => by unfold lexP at h ⊢; exact h
  | f + 1, i, ts, us, h, hk => by
    unfold lexP at h ⊢
    split at h
    · rename_i hp
      exfalso
      simp only [Prod.mk.injEq] at h
      omega
    · rename_i c1
      rw [if_neg c1]
      split at h
      · rename_i c2; rw [if_pos c2]; exact h
      · rename_i c2
        rw [if_neg c2]
        split at h
        · rename_i x hx
          obtain ⟨r, hr⟩ := lexP_pre f _ _ _ h
          rw [oneP_num (n2 := n2) hx (hk _ (by rw [hr]; simp))]
          exact lexP_num f _ _ _ h hk
        · exfalso
          simp only [Prod.mk.injEq] at h
          omega
theorem lexT_num {n1 n2 : List UInt8 → Bool} {l : List UInt8} {us : List Token} (h : lexT n1 l = (us, -1)) (hk : ∀ x ∈ us, x.kind ≠ 3) : lexT n2 l = (us, -1) := by
  unfold lexT at h ⊢
  split at h
  · exfalso
    simp only [Prod.mk.injEq] at h
    omega
  · rename_i c1
    rw [if_neg c1]
    exact lexP_num _ _ _ _ h hk
/-- What a reader of catalogs answers. -/
def readV (num : List UInt8 → Bool) (ty : List UInt8 → Int) (z : Bool) (l : List UInt8) : Option Cat := if 0 ≤ (lexT num l).2 then none else rcP ty z (lexT num l).1
theorem lexP_neg {num : List UInt8 → Bool} {l : List UInt8} : ∀ (f i : Nat) (ts : List Token), (lexP num l f i ts).2 < 0 → (lexP num l f i ts).2 = -1
  | 0, i, ts, h => rfl
  | f + 1, i, ts, h => by
    unfold lexP at h ⊢
    split
    · rename_i c; rw [if_pos c] at h; dsimp only at h ⊢; omega
    · rename_i c
      rw [if_neg c] at h
      split
      · rfl
      · rename_i c2
        rw [if_neg c2] at h
        split
        · rename_i x hx
          rw [hx] at h
          exact lexP_neg f _ _ h
        · rename_i hx
          rw [hx] at h
          dsimp only at h
          omega
theorem lexT_neg {num : List UInt8 → Bool} {l : List UInt8} (h : (lexT num l).2 < 0) : (lexT num l).2 = -1 := by
  unfold lexT at h ⊢
  split
  · rename_i c; rw [if_pos c] at h; dsimp only at h; omega
  · rename_i c; rw [if_neg c] at h; exact lexP_neg _ _ _ h
theorem readV_sub {n1 n2 : List UInt8 → Bool} {t1 t2 : List UInt8 → Int} (h1 : TyR t1) (h2 : TyR t2) {z1 z2 : Bool} {l : List UInt8} {c : Cat} (h : readV n1 t1 z1 l = some c) : readV n2 t2 z2 l = some c := by
  unfold readV at h ⊢
  split at h
  · cases h
  · rename_i hn
    have e := lexT_neg (num := n1) (l := l) (by omega)
    generalize hl : lexT n1 l = r at h e
    obtain ⟨us, k⟩ := r
    dsimp only at e h
    subst e
    have e2 := lexT_num (n2 := n2) hl (rcP_kind h1 h)
    rw [e2, if_neg (by simp), rcP_same h2 h1 z2 z1]
    exact h
theorem readV_same {n1 n2 : List UInt8 → Bool} {t1 t2 : List UInt8 → Int} (h1 : TyR t1) (h2 : TyR t2) (z1 z2 : Bool) (l : List UInt8) : readV n1 t1 z1 l = readV n2 t2 z2 l := by
  apply Option.ext
  intro c
  exact ⟨readV_sub h1 h2, readV_sub h2 h1⟩

/-! ### Where a token ends -/
theorem runE_le (l : List UInt8) (i : Nat) (h : i ≤ l.length) : runE l i ≤ l.length := by
  have := seek_le (fun b => !partI (b.toNat : Int)) (l.drop i)
  rw [List.length_drop] at this
  unfold runE
  omega
theorem runE_lt {l : List UInt8} {i : Nat} (h : i < l.length) (hp : partI (l[i].toNat : Int) = true) : i < runE l i := by
  unfold runE
  rw [seek_step h (by simp [hp])]
  omega
theorem quotS_end_le {q : UInt8} : ∀ {n : Nat} {l : List UInt8} {x : List UInt8 × Nat}, l.length ≤ n → quotS q l = some x → 1 ≤ x.2 ∧ x.2 ≤ l.length
  | _, [], x, _, h => by cases h
  | 0, b :: l, x, hn, h => by simp at hn
  | n + 1, b :: l, x, hn, h => by
    by_cases hb : b = q
    · subst hb
      cases l with
      | nil => rw [quotS_end] at h; cases h; simp
      | cons c l =>
        by_cases hc : c = b
        · subst hc
          rw [quotS_two] at h
          obtain ⟨y, hy, rfl⟩ := Option.map_eq_some_iff.1 h
          have := quotS_end_le (n := n) (by simp at hn; omega) hy
          simp only [List.length_cons]
          omega
        · rw [quotS_stop hc] at h; cases h; simp
    · rw [quotS_ne hb] at h
      obtain ⟨y, hy, rfl⟩ := Option.map_eq_some_iff.1 h
      have := quotS_end_le (n := n) (by simpa using hn) hy
      simp only [List.length_cons]
      omega
theorem sgnT_len {l : List UInt8} {i : Nat} (h : i < l.length) : 1 ≤ (sgnT l i).length ∧ i + (sgnT l i).length ≤ l.length := by
  unfold sgnT
  split
  · rename_i hc
    unfold two
    rw [List.length_take, List.length_drop]
    omega
  · rw [List.length_drop, List.length_take]
    omega
theorem chkT_end {num : List UInt8 → Bool} {t : Token} {e : Nat} {x : Token × Nat} (h : chkT num t e = some x) : x.2 = e := by
  obtain ⟨rfl, _⟩ := chkT_some h
  rfl
theorem oneP_end {num : List UInt8 → Bool} {l : List UInt8} {i : Nat} {x : Token × Nat} (h : oneP num l i = some x) : i < x.2 ∧ x.2 ≤ l.length := by
  unfold oneP at h
  split at h
  case h_2 => cases h
  rename_i b hb
  obtain ⟨hi, he⟩ := List.getElem?_eq_some_iff.1 hb
  subst he
  have hr := runE_le l i (by omega)
  have hq : ∀ {k : Int} {q : UInt8}, quoT num k i (quotS q (l.drop (i + 1))) = some x → i < x.2 ∧ x.2 ≤ l.length := fun {k q} h => by
    cases hs : quotS q (l.drop (i + 1)) with
    | none => rw [hs] at h; cases h
    | some y =>
      rw [hs] at h
      have h1 := chkT_end h
      have h2 := quotS_end_le (Nat.le_refl _) hs
      rw [List.length_drop] at h2
      omega
  have hw : partI (l[i].toNat : Int) = true → i < runE l i := runE_lt hi
  unfold oneB at h
  split at h
  · rename_i c1
    have := hw (by simp [partI, c1])
    split at h
    all_goals
      have h1 := chkT_end h
      omega
  · split at h
    · rename_i c1
      have := hw (by simp [partI, c1])
      have h1 := chkT_end h
      omega
    · split at h
      · exact hq h
      · split at h
        · exact hq h
        · have h1 := chkT_end h
          have h2 := sgnT_len hi
          omega
theorem pass_bnd (l : List UInt8) : ∀ (n i : Nat), l.length - i ≤ n → i ≤ l.length → -(l.length : Int) - 1 ≤ pass l i ∧ pass l i ≤ l.length ∧ (0 ≤ pass l i → (i : Int) ≤ pass l i)
  | n, i, hn, hi => by
    rcases Nat.lt_or_ge i l.length with h | h
    · cases w : isWs l[i]
      · cases c : at2 l i 45 45
        · cases d : at2 l i 47 42
          · rw [pass_tok h w c d]; omega
          · have hk2 : i + 2 ≤ l.length := by
              simp only [at2, Bool.and_eq_true, decide_eq_true_eq] at d
              have := (List.getElem?_eq_some_iff.1 d.2).1
              omega
            cases e : seekC (l.drop (i + 2)) with
            | none => rw [pass_open h w c d e]; omega
            | some k =>
              have := seekC_lt e
              rw [List.length_drop] at this
              rw [pass_com h w c d e]
              cases n with
              | zero => omega
              | succ n =>
                have := pass_bnd l n (i + 2 + k + 2) (by omega) (by omega)
                omega
        · have hb : l[i] = 45 := by
            simp only [at2, Bool.and_eq_true, decide_eq_true_eq, List.getElem?_eq_getElem h, Option.some.injEq] at c
            exact c.1
          have hs := seek_step (p := fun b => decide (b = 10)) h (by rw [hb]; rfl)
          have hl := seek_le (fun b => decide (b = 10)) (l.drop i)
          rw [List.length_drop] at hl
          rw [pass_line h w c]
          cases n with
          | zero => omega
          | succ n =>
            have := pass_bnd l n (i + seek (fun b => decide (b = 10)) (l.drop i)) (by omega) (by omega)
            omega
      · rw [pass_ws h w]
        cases n with
        | zero => omega
        | succ n =>
          have := pass_bnd l n (i + 1) (by omega) (by omega)
          omega
    · rw [pass_end h]; omega

end Go.Proofs.YtbnbmcplmipgdaaGreatDoor
