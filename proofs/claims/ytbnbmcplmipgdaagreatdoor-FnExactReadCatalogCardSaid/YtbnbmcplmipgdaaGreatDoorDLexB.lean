/-
  One token of a source, of the program. Own work; no condition.
-/
import Derived.Test.YtbnbmcplmipgdaaGreatDoorDLexA
namespace Go.Proofs.YtbnbmcplmipgdaaGreatDoor
open Go
set_option linter.unusedSimpArgs false
set_option linter.unusedVariables false

/-! ### The longest sign -/
def sgnG (x t w : List UInt8) : List UInt8 := if w.isPrefixOf x = true ∧ t.length < w.length then w else t
def sgnF (x : List UInt8) : List UInt8 := signL.foldl (sgnG x) []
theorem sgnF_main (x : List UInt8) (hx : x ≠ []) : if signOk (x.take 2) = true ∧ 2 ≤ x.length then sgnF x = x.take 2 else if signOk (x.take 1) = true then sgnF x = x.take 1 else sgnF x = [] := by
  cases x with
  | nil => exact absurd rfl hx
  | cons b r =>
    have hb : ∀ x y : UInt8, (x == y) = decide (y = x) := fun x y => by
      rw [Bool.eq_iff_iff]
      simp only [beq_iff_eq, decide_eq_true_eq]
      exact ⟨fun h => h.symm, fun h => h.symm⟩
    have hp1 : ∀ p : UInt8, [p].isPrefixOf (b :: r) = decide (b = p) := fun p => by simp [List.isPrefixOf, hb]
    cases r with
    | nil =>
      have hp2 : ∀ p q : UInt8, [p, q].isPrefixOf [b] = false := fun p q => by simp [List.isPrefixOf]
      rw [if_neg (by simp)]
      have t1 : [b].take 1 = [b] := rfl
      rw [t1]
      by_cases h1 : b = 40
      · subst h1; decide
      by_cases h2 : b = 41
      · subst h2; decide
      by_cases h3 : b = 44
      · subst h3; decide
      by_cases h4 : b = 46
      · subst h4; decide
      by_cases h5 : b = 42
      · subst h5; decide
      by_cases h6 : b = 43
      · subst h6; decide
      by_cases h7 : b = 45
      · subst h7; decide
      by_cases h8 : b = 47
      · subst h8; decide
      by_cases h9 : b = 37
      · subst h9; decide
      by_cases h10 : b = 61
      · subst h10; decide
      by_cases h11 : b = 60
      · subst h11; decide
      by_cases h12 : b = 62
      · subst h12; decide
      by_cases h13 : b = 124
      · subst h13; decide
      · have e : signOk [b] = false := by simp [signOk, signL, h1, h2, h3, h4, h5, h6, h7, h8, h9, h10, h11, h12, h13]
        rw [if_neg (by rw [e]; decide)]
        simp [sgnF, signL, sgnG, hp1, hp2, h1, h2, h3, h4, h5, h6, h7, h8, h9, h10, h11, h12, h13]
    | cons c r =>
      have hp2 : ∀ p q : UInt8, [p, q].isPrefixOf (b :: c :: r) = (decide (b = p) && decide (c = q)) := fun p q => by
        simp [List.isPrefixOf, hb]
      have hl : 2 ≤ (b :: c :: r).length := by simp
      have t2 : (b :: c :: r).take 2 = [b, c] := rfl
      have t1 : (b :: c :: r).take 1 = [b] := rfl
      rw [t1, t2]
      simp only [hl, and_true]
      have hF : sgnF (b :: c :: r) = signL.foldl (sgnG (b :: c :: r)) [] := rfl
      by_cases h1 : b = 60
      · subst h1
        by_cases k1 : c = 62
        · subst k1; simp [hF, signL, sgnG, hp1, hp2, signOk]
        by_cases k2 : c = 61
        · subst k2; simp [hF, signL, sgnG, hp1, hp2, signOk]
        · simp [hF, signL, sgnG, hp1, hp2, signOk, k1, k2]
      by_cases h2 : b = 62
      · subst h2
        by_cases k2 : c = 61
        · subst k2; simp [hF, signL, sgnG, hp1, hp2, signOk]
        · simp [hF, signL, sgnG, hp1, hp2, signOk, k2]
      by_cases h3 : b = 124
      · subst h3
        by_cases k2 : c = 124
        · subst k2; simp [hF, signL, sgnG, hp1, hp2, signOk]
        · simp [hF, signL, sgnG, hp1, hp2, signOk, k2]
      have e : signOk [b, c] = false := by simp [signOk, signL, h1, h2, h3]
      rw [if_neg (by rw [e]; decide)]
      by_cases g1 : b = 40
      · subst g1; simp [hF, signL, sgnG, hp1, hp2, signOk]
      by_cases g2 : b = 41
      · subst g2; simp [hF, signL, sgnG, hp1, hp2, signOk]
      by_cases g3 : b = 44
      · subst g3; simp [hF, signL, sgnG, hp1, hp2, signOk]
      by_cases g4 : b = 46
      · subst g4; simp [hF, signL, sgnG, hp1, hp2, signOk]
      by_cases g5 : b = 42
      · subst g5; simp [hF, signL, sgnG, hp1, hp2, signOk]
      by_cases g6 : b = 43
      · subst g6; simp [hF, signL, sgnG, hp1, hp2, signOk]
      by_cases g7 : b = 45
      · subst g7; simp [hF, signL, sgnG, hp1, hp2, signOk]
      by_cases g8 : b = 47
      · subst g8; simp [hF, signL, sgnG, hp1, hp2, signOk]
      by_cases g9 : b = 37
      · subst g9; simp [hF, signL, sgnG, hp1, hp2, signOk]
      by_cases g10 : b = 61
      · subst g10; simp [hF, signL, sgnG, hp1, hp2, signOk]
      · simp [hF, signL, sgnG, hp1, hp2, signOk, h1, h2, h3, g1, g2, g3, g4, g5, g6, g7, g8, g9, g10]
/-- What the program takes for a token, and the place behind it. -/
def oneD (l : List UInt8) (i : Nat) (b : UInt8) : Token × Option Nat :=
  if ltrI (b.toNat : Int) = true then (if keyI (fold (wordT l i)) ≠ 0 then (⟨1, fold (wordT l i), i⟩, some (runE l i)) else (⟨2, wordT l i, i⟩, some (runE l i)))
  else if figI (b.toNat : Int) = true then (⟨3, wordT l i, i⟩, some (runE l i))
  else if b = 34 then match quotS 34 (l.drop (i + 1)) with
    | some x => (⟨2, x.1, i⟩, some (i + 1 + x.2))
    | none => (⟨2, [], i⟩, none)
  else if b = 39 then match quotS 39 (l.drop (i + 1)) with
    | some x => (⟨4, x.1, i⟩, some (i + 1 + x.2))
    | none => (⟨4, [], i⟩, none)
  else (⟨5, sgnF (l.drop i), i⟩, some (i + (sgnF (l.drop i)).length))
theorem oneB_D (num : List UInt8 → Bool) (l : List UInt8) (i : Nat) (hi : i < l.length) : oneB num l i l[i] = oneK num (oneD l i l[i]) := by
  rw [oneB_C]
  unfold oneC oneD
  split
  · rfl
  · split
    · rfl
    · split
      · rfl
      · split
        · rfl
        · have hm := sgnF_main (l.drop i) (by intro e; have := congrArg List.length e; simp at this; omega)
          have e1 : (l.take (i + 1)).drop i = (l.drop i).take 1 := by rw [List.drop_take, Nat.add_sub_cancel_left]
          have hlen : 2 ≤ (l.drop i).length ↔ i + 2 ≤ l.length := by rw [List.length_drop]; omega
          have et : two l i = (l.drop i).take 2 := rfl
          have hT : sgnT l i = if signOk ((l.drop i).take 2) = true ∧ 2 ≤ (l.drop i).length then (l.drop i).take 2 else (l.drop i).take 1 := by
            unfold sgnT
            rw [et, e1]
            simp only [hlen]
          dsimp only [oneK]
          split at hm
          · rename_i c
            rw [hT, if_pos c, hm]
          · rename_i c
            rw [hT, if_neg c]
            split at hm
            · rw [hm]
            · rename_i c2
              have a1 : tokOk num ⟨5, (l.drop i).take 1, i⟩ = signOk ((l.drop i).take 1) := rfl
              have a2 : tokOk num ⟨5, sgnF (l.drop i), i⟩ = signOk (sgnF (l.drop i)) := rfl
              unfold chkT
              rw [a1, a2, if_neg c2, hm, if_neg (by decide)]
theorem fig_ltr {n : Int} (h1 : figI n = true) (h2 : ltrI n = true) : False := by
  simp only [figI, ltrI, Bool.and_eq_true, Bool.or_eq_true, decide_eq_true_eq] at h1 h2
  omega
@[simp] theorem underL_strs (n : Nat) : ∀ ws : List (List UInt8), V.underL n (ws.map V.str) = true
  | [] => rfl
  | w :: ws => by simp only [List.map_cons, V.underL, V.under, underL_strs n ws, Bool.and_self]
def rtV : Token × Option Nat → V
  | (t, some e) => .tup [t.toV, .int .i64 (e : Int), .bool (tokOk numI t)]
  | (_, none) => .tup [Token.toV ⟨0, [], 0⟩, .int .i64 0, .bool false]
@[simp] theorem rtV_dat (c : Token × Option Nat) : (rtV c).dat = true := by
  obtain ⟨t, o⟩ := c
  cases o <;> simp [rtV, V.dat, V.datL]
theorem sgnF_len (x : List UInt8) : (sgnF x).length ≤ 2 := by
  cases x with
  | nil => decide
  | cons b r =>
    have := sgnF_main (b :: r) (by simp)
    split at this
    · rw [this, List.length_take]; omega
    · split at this
      · rw [this, List.length_take]; omega
      · rw [this]; simp
set_option maxHeartbeats 8000000 in
theorem implreadToken_v (l : List UInt8) (hl : l.length ≤ 1048576) (i : Nat) (hi : i < l.length) (s : S) : VCalls Tryz.prog 40 [.str l, .int .i64 (i : Int)] s (fun v s' => v = rtV (oneD l i l[i]) ∧ s' = s) := by
  have hg : l[i]? = some l[i] := by simp [hi]
  have hQ := fun u => implreadQuoted_v l hl i hi u
  have hP := fun u => implisPart_v (l[i].toNat : Int) u
  have hF := fun u => implisDigit_v (l[i].toNat : Int) u
  obtain ⟨r1, r2⟩ := word_slc hi
  have hw : (l.take (runE l i)).drop i = wordT l i := rfl
  have hwl := word_len (i := i) hl
  generalize l[i] = b at hg hQ hP hF ⊢
  have hbl := b.toNat_lt
  cases c1 : partI (b.toNat : Int)
  · rw [c1] at hP
    have c1a : ltrI (b.toNat : Int) = false := by simp only [partI, Bool.or_eq_false_iff] at c1; exact c1.1
    have c1b : figI (b.toNat : Int) = false := by simp only [partI, Bool.or_eq_false_iff] at c1; exact c1.2
    refine LCalls.pure Tryz.func40 rfl (by kernel_rfl) (by simp) ?_
    by_cases c3 : b = 34
    · skip
      subst c3
      unfold oneD
      rw [if_neg (by rw [c1a]; decide), if_neg (by rw [c1b]; decide), if_pos rfl]
      cases hq : quotS 34 (l.drop (i + 1)) with
      | none =>
        rw [hq] at hQ
        dsimp only [rtV]
        repeat' first
          | (refine kOps ?_; first | (refine LOps.nil ?_) | (refine kG ?_; first | (refine LOps.gF rfl rfl rfl ?_)) | (refine kStore ?_; refine LOps.storeP tT_ok rfl rfl rfl rfl rfl rfl rfl rfl rfl ?_) | (refine LOps.ev tT_ok rfl ?_) | (refine kAlloc ?_; refine LOps.alloc tT_ok rfl rfl rfl rfl ?_) | (refine kSidx ?_; first | (refine LOps.ans (AnsL.sidx tT_ok rfl rfl rfl rfl hg) ?_)) | (refine kCallN 68 ?_; first | (refine LOps.ans (AnsL.callP rfl rfl rfl (ok68) (hP _)) ?_)) | (refine kCallN 72 ?_; first | (refine LOps.ans (AnsL.callP rfl rfl rfl (ok72) (hQ _)) ?_)))
          | (refine kWL ?_; first | (refine WL.seq ?_) | (refine WL.region (by kernel_rfl) ?_) | (refine WL.block ?_) | (refine WL.ret ?_) | (refine kCond ?_; first | (refine WL.condT rfl ?_) | (refine WL.condF rfl ?_)))
          | (refine lthen_n ?_)
          | (refine lthen_r ?_)
          | (refine lblock_r ?_)
          | (refine LPost.r3 (r := .cell 4 58) (r' := .tmp 5) (r'' := .tmp 6) (.inl rfl) (Res1.cell tT_ok rfl rfl rfl rfl) (Res1.tmp rfl) (Res1.tmp rfl) ?_)
          | (refine PureR.mk ?_)
        rfl
      | some x =>
        obtain ⟨x1, x2⟩ := x
        have hxl : x1.length ≤ 1048576 := quot_len' hl hq
        rw [hq] at hQ
        dsimp only [rtV, quotW] at hQ ⊢
        have hT := fun u => implTokenOk_v ⟨2, x1, i⟩ hxl u
        generalize tokOk numI ⟨2, x1, i⟩ = ok at hT ⊢
        generalize i + 1 + x2 = e at hQ ⊢
        cases ok
        · skip
          repeat' first
            | (refine kOps ?_; first | (refine LOps.nil ?_) | (refine kG ?_; first | (refine LOps.gF rfl rfl rfl ?_)) | (refine kStore ?_; refine LOps.storeP tT_ok rfl rfl rfl rfl rfl rfl rfl rfl rfl ?_) | (refine LOps.ev tT_ok rfl ?_) | (refine kAlloc ?_; refine LOps.alloc tT_ok rfl rfl rfl rfl ?_) | (refine kSidx ?_; first | (refine LOps.ans (AnsL.sidx tT_ok rfl rfl rfl rfl hg) ?_)) | (refine kCallN 68 ?_; first | (refine LOps.ans (AnsL.callP rfl rfl rfl (ok68) (hP _)) ?_)) | (refine kCallN 72 ?_; first | (refine LOps.ans (AnsL.callP rfl rfl rfl (ok72) (hQ _)) ?_)))
            | (refine kWL ?_; first | (refine WL.seq ?_) | (refine WL.region (by kernel_rfl) ?_) | (refine WL.drawn (id := 28) [0, 1, 2, 3, 4, 5, 6] [4] [[], [], [], [2], [0, 2, 3], [0, 1, 2, 3, 4], [0, 1, 2, 3, 4, 5]] (by kernel_rfl) (by kernel_rfl) ?_) | (refine WL.block ?_) | (refine WL.skip ?_) | (refine WL.ret ?_) | (refine kCond ?_; first | (refine WL.condT rfl ?_) | (refine WL.condF rfl ?_)))
            | (refine kDr ?_; first | (refine LDr.nil ?_) | (refine LDr.fl rfl rfl (.ev tT_ok rfl) ?_) | (refine kDLoad rfl ?_; first | (refine LDr.fl rfl rfl (AnsL.loadP tT_ok rfl rfl rfl rfl) ?_)) | (refine kDCallN 74 rfl ?_; first | (refine LDr.fl rfl rfl (AnsL.callP rfl rfl rfl (ok74) (hT _)) ?_)) | (refine LDr.eff rfl rfl rfl ?_))
            | (refine lthen_n ?_)
            | (refine lblock_n ?_)
            | (refine LPost.r3 (r := .cell 4 58) (r' := .tmp 5) (r'' := .tmp 6) (.inl rfl) (Res1.cell tT_ok rfl rfl rfl rfl) (Res1.tmp rfl) (Res1.tmp rfl) ?_)
            | (refine PureR.mk ?_)
            | (refine And.intro ?_ ?_)
            | (exact StsL.nil)
            | (refine StsL.cons ?_ ?_)
            | (refine StL.fl rfl rfl (.ev tT_ok rfl))
          rfl
        · skip
          repeat' first
            | (refine kOps ?_; first | (refine LOps.nil ?_) | (refine kG ?_; first | (refine LOps.gF rfl rfl rfl ?_)) | (refine kStore ?_; refine LOps.storeP tT_ok rfl rfl rfl rfl rfl rfl rfl rfl rfl ?_) | (refine LOps.ev tT_ok rfl ?_) | (refine kAlloc ?_; refine LOps.alloc tT_ok rfl rfl rfl rfl ?_) | (refine kSidx ?_; first | (refine LOps.ans (AnsL.sidx tT_ok rfl rfl rfl rfl hg) ?_)) | (refine kCallN 68 ?_; first | (refine LOps.ans (AnsL.callP rfl rfl rfl (ok68) (hP _)) ?_)) | (refine kCallN 72 ?_; first | (refine LOps.ans (AnsL.callP rfl rfl rfl (ok72) (hQ _)) ?_)))
            | (refine kWL ?_; first | (refine WL.seq ?_) | (refine WL.region (by kernel_rfl) ?_) | (refine WL.drawn (id := 28) [0, 1, 2, 3, 4, 5, 6] [4] [[], [], [], [2], [0, 2, 3], [0, 1, 2, 3, 4], [0, 1, 2, 3, 4, 5]] (by kernel_rfl) (by kernel_rfl) ?_) | (refine WL.block ?_) | (refine WL.skip ?_) | (refine WL.ret ?_) | (refine kCond ?_; first | (refine WL.condT rfl ?_) | (refine WL.condF rfl ?_)))
            | (refine kDr ?_; first | (refine LDr.nil ?_) | (refine LDr.fl rfl rfl (.ev tT_ok rfl) ?_) | (refine kDLoad rfl ?_; first | (refine LDr.fl rfl rfl (AnsL.loadP tT_ok rfl rfl rfl rfl) ?_)) | (refine kDCallN 74 rfl ?_; first | (refine LDr.fl rfl rfl (AnsL.callP rfl rfl rfl (ok74) (hT _)) ?_)) | (refine LDr.eff rfl rfl rfl ?_))
            | (refine lthen_n ?_)
            | (refine lblock_n ?_)
            | (refine LPost.r3 (r := .cell 4 58) (r' := .tmp 5) (r'' := .tmp 6) (.inl rfl) (Res1.cell tT_ok rfl rfl rfl rfl) (Res1.tmp rfl) (Res1.tmp rfl) ?_)
            | (refine PureR.mk ?_)
            | (refine And.intro ?_ ?_)
            | (exact StsL.nil)
            | (refine StsL.cons ?_ ?_)
            | (refine StL.fl rfl rfl (.ev tT_ok rfl))
          rfl
    have c3' : ¬ (b.toNat : Int) = 34 := fun h => c3 (UInt8.toNat_inj.1 (by have : (34 : UInt8).toNat = 34 := rfl; omega))
    by_cases c4 : b = 39
    · skip
      subst c4
      unfold oneD
      rw [if_neg (by rw [c1a]; decide), if_neg (by rw [c1b]; decide), if_neg (by decide), if_pos rfl]
      cases hq : quotS 39 (l.drop (i + 1)) with
      | none =>
        rw [hq] at hQ
        dsimp only [rtV]
        repeat' first
          | (refine kOps ?_; first | (refine LOps.nil ?_) | (refine kG ?_; first | (refine LOps.gT rfl rfl rfl ?_)) | (refine kStore ?_; refine LOps.storeP tT_ok rfl rfl rfl rfl rfl rfl rfl rfl rfl ?_) | (refine LOps.ev tT_ok rfl ?_) | (refine kAlloc ?_; refine LOps.alloc tT_ok rfl rfl rfl rfl ?_) | (refine kSidx ?_; first | (refine LOps.ans (AnsL.sidx tT_ok rfl rfl rfl rfl hg) ?_)) | (refine kCallN 68 ?_; first | (refine LOps.ans (AnsL.callP rfl rfl rfl (ok68) (hP _)) ?_)) | (refine kCallN 72 ?_; first | (refine LOps.ans (AnsL.callP rfl rfl rfl (ok72) (hQ _)) ?_)))
          | (refine kWL ?_; first | (refine WL.seq ?_) | (refine WL.region (by kernel_rfl) ?_) | (refine WL.block ?_) | (refine WL.ret ?_) | (refine kCond ?_; first | (refine WL.condT rfl ?_) | (refine WL.condF rfl ?_)))
          | (refine lthen_n ?_)
          | (refine lthen_r ?_)
          | (refine lblock_r ?_)
          | (refine LPost.r3 (r := .cell 4 58) (r' := .tmp 5) (r'' := .tmp 6) (.inl rfl) (Res1.cell tT_ok rfl rfl rfl rfl) (Res1.tmp rfl) (Res1.tmp rfl) ?_)
          | (refine PureR.mk ?_)
        rfl
      | some x =>
        obtain ⟨x1, x2⟩ := x
        have hxl : x1.length ≤ 1048576 := quot_len' hl hq
        rw [hq] at hQ
        dsimp only [rtV, quotW] at hQ ⊢
        have hT := fun u => implTokenOk_v ⟨4, x1, i⟩ hxl u
        generalize tokOk numI ⟨4, x1, i⟩ = ok at hT ⊢
        generalize i + 1 + x2 = e at hQ ⊢
        cases ok
        · skip
          repeat' first
            | (refine kOps ?_; first | (refine LOps.nil ?_) | (refine kG ?_; first | (refine LOps.gT rfl rfl rfl ?_)) | (refine kStore ?_; refine LOps.storeP tT_ok rfl rfl rfl rfl rfl rfl rfl rfl rfl ?_) | (refine LOps.ev tT_ok rfl ?_) | (refine kAlloc ?_; refine LOps.alloc tT_ok rfl rfl rfl rfl ?_) | (refine kSidx ?_; first | (refine LOps.ans (AnsL.sidx tT_ok rfl rfl rfl rfl hg) ?_)) | (refine kCallN 68 ?_; first | (refine LOps.ans (AnsL.callP rfl rfl rfl (ok68) (hP _)) ?_)) | (refine kCallN 72 ?_; first | (refine LOps.ans (AnsL.callP rfl rfl rfl (ok72) (hQ _)) ?_)))
            | (refine kWL ?_; first | (refine WL.seq ?_) | (refine WL.region (by kernel_rfl) ?_) | (refine WL.drawn (id := 28) [0, 1, 2, 3, 4, 5, 6] [4] [[], [], [], [2], [0, 2, 3], [0, 1, 2, 3, 4], [0, 1, 2, 3, 4, 5]] (by kernel_rfl) (by kernel_rfl) ?_) | (refine WL.block ?_) | (refine WL.skip ?_) | (refine WL.ret ?_) | (refine kCond ?_; first | (refine WL.condT rfl ?_) | (refine WL.condF rfl ?_)))
            | (refine kDr ?_; first | (refine LDr.nil ?_) | (refine LDr.fl rfl rfl (.ev tT_ok rfl) ?_) | (refine kDLoad rfl ?_; first | (refine LDr.fl rfl rfl (AnsL.loadP tT_ok rfl rfl rfl rfl) ?_)) | (refine kDCallN 74 rfl ?_; first | (refine LDr.fl rfl rfl (AnsL.callP rfl rfl rfl (ok74) (hT _)) ?_)) | (refine LDr.eff rfl rfl rfl ?_))
            | (refine lthen_n ?_)
            | (refine lblock_n ?_)
            | (refine LPost.r3 (r := .cell 4 58) (r' := .tmp 5) (r'' := .tmp 6) (.inl rfl) (Res1.cell tT_ok rfl rfl rfl rfl) (Res1.tmp rfl) (Res1.tmp rfl) ?_)
            | (refine PureR.mk ?_)
            | (refine And.intro ?_ ?_)
            | (exact StsL.nil)
            | (refine StsL.cons ?_ ?_)
            | (refine StL.fl rfl rfl (.ev tT_ok rfl))
          rfl
        · skip
          repeat' first
            | (refine kOps ?_; first | (refine LOps.nil ?_) | (refine kG ?_; first | (refine LOps.gT rfl rfl rfl ?_)) | (refine kStore ?_; refine LOps.storeP tT_ok rfl rfl rfl rfl rfl rfl rfl rfl rfl ?_) | (refine LOps.ev tT_ok rfl ?_) | (refine kAlloc ?_; refine LOps.alloc tT_ok rfl rfl rfl rfl ?_) | (refine kSidx ?_; first | (refine LOps.ans (AnsL.sidx tT_ok rfl rfl rfl rfl hg) ?_)) | (refine kCallN 68 ?_; first | (refine LOps.ans (AnsL.callP rfl rfl rfl (ok68) (hP _)) ?_)) | (refine kCallN 72 ?_; first | (refine LOps.ans (AnsL.callP rfl rfl rfl (ok72) (hQ _)) ?_)))
            | (refine kWL ?_; first | (refine WL.seq ?_) | (refine WL.region (by kernel_rfl) ?_) | (refine WL.drawn (id := 28) [0, 1, 2, 3, 4, 5, 6] [4] [[], [], [], [2], [0, 2, 3], [0, 1, 2, 3, 4], [0, 1, 2, 3, 4, 5]] (by kernel_rfl) (by kernel_rfl) ?_) | (refine WL.block ?_) | (refine WL.skip ?_) | (refine WL.ret ?_) | (refine kCond ?_; first | (refine WL.condT rfl ?_) | (refine WL.condF rfl ?_)))
            | (refine kDr ?_; first | (refine LDr.nil ?_) | (refine LDr.fl rfl rfl (.ev tT_ok rfl) ?_) | (refine kDLoad rfl ?_; first | (refine LDr.fl rfl rfl (AnsL.loadP tT_ok rfl rfl rfl rfl) ?_)) | (refine kDCallN 74 rfl ?_; first | (refine LDr.fl rfl rfl (AnsL.callP rfl rfl rfl (ok74) (hT _)) ?_)) | (refine LDr.eff rfl rfl rfl ?_))
            | (refine lthen_n ?_)
            | (refine lblock_n ?_)
            | (refine LPost.r3 (r := .cell 4 58) (r' := .tmp 5) (r'' := .tmp 6) (.inl rfl) (Res1.cell tT_ok rfl rfl rfl rfl) (Res1.tmp rfl) (Res1.tmp rfl) ?_)
            | (refine PureR.mk ?_)
            | (refine And.intro ?_ ?_)
            | (exact StsL.nil)
            | (refine StsL.cons ?_ ?_)
            | (refine StL.fl rfl rfl (.ev tT_ok rfl))
          rfl
    have c4' : ¬ (b.toNat : Int) = 39 := fun h => c4 (UInt8.toNat_inj.1 (by have : (39 : UInt8).toNat = 39 := rfl; omega))
    unfold oneD
    rw [if_neg (by rw [c1a]; decide), if_neg (by rw [c1b]; decide), if_neg c3, if_neg c4]
    dsimp only [rtV]
    have hS := fun u => implsigns_v u
    have hsl := sgnF_len (l.drop i)
    have hT := fun u => implTokenOk_v ⟨5, sgnF (l.drop i), i⟩ (by show (sgnF (l.drop i)).length ≤ _; omega) u
    generalize tokOk numI ⟨5, sgnF (l.drop i), i⟩ = ok at hT ⊢
    have hil : i ≤ l.length := by omega
    have hn : signL.length = 16 := rfl
    have h0 : sgnF (l.drop i) = (signL.drop 0).foldl (sgnG (l.drop i)) [] := rfl
    generalize sgnF (l.drop i) = R at hT h0 hsl ⊢
    generalize hws : signL = ws at hS hn h0
    repeat' first
      | (refine kOps ?_; first | (refine LOps.nil ?_) | (refine kG ?_; first | (refine LOps.gT rfl rfl rfl ?_) | (refine LOps.gD false rfl rfl rfl ?_ ?_; (focus (first | (exact decide_eq_false (by assumption)))))) | (refine kStore ?_; refine LOps.storeP tT_ok rfl rfl rfl rfl rfl rfl rfl rfl rfl ?_) | (refine LOps.ev tT_ok rfl ?_) | (refine kAlloc ?_; refine LOps.alloc tT_ok rfl rfl rfl rfl ?_) | (refine kLen ?_; first | (refine LOps.ans (AnsL.lenM tT_ok rfl rfl rfl) ?_)) | (refine kSidx ?_; first | (refine LOps.ans (AnsL.sidx tT_ok rfl rfl rfl rfl hg) ?_)) | (refine kCallN 68 ?_; first | (refine LOps.ans (AnsL.callP rfl rfl rfl (ok68) (hP _)) ?_)) | (refine kCallN 73 ?_; first | (refine LOps.ans (AnsL.callP rfl rfl rfl (ok73) (hS _)) ?_)))
      | (refine kWL ?_; first | (refine WL.seq ?_) | (refine WL.region (by kernel_rfl) ?_) | (refine WL.block ?_) | (refine kCond ?_; first | (refine WL.condF rfl ?_) | (refine WL.condF' rfl ?_ ?_; (focus (first | (exact decide_eq_false (by assumption)))))))
      | (refine lthen_n ?_)
    refine WL.loopD (fun y : Nat × List UInt8 => ws.length - y.1) (fun y => [(0, .str l), (1, .int .i64 (i : Int)), (4, .ptr (s.next + 0) 0), (7, .ptr (s.next + 1) 0), (8, .int .i64 (i : Int)), (22, .sl 0 (ws.map V.str)), (23, .int .i64 (ws.length : Int)), (24, .int .i64 (y.1 : Int))])
      (fun y => [.var [.int .i64 0, .str [], .int .i64 0], .var [.int .i64 5, .str y.2, .int .i64 (i : Int)]]) (fun y => y.1 ≤ ws.length ∧ y.2.length ≤ 1048576 ∧ R = (ws.drop y.1).foldl (sgnG (l.drop i)) y.2) 2 (0, []) ⟨Nat.zero_le _, by simp, h0⟩ (fun _ => rfl) ⟨rfl, rfl, rfl, rfl, rfl, rfl, rfl, rfl, trivial⟩ rfl (fun y hy => ?_) (fun y hy => ?_)
    · simp [UnderK, UnderX, Own.under, V.under, V.underL]
    obtain ⟨k, t⟩ := y
    obtain ⟨hk, ht, hc⟩ := hy
    dsimp only at hk ht hc ⊢
    rcases Nat.lt_or_ge k ws.length with hlt | hge
    · have hgk : (ws.map V.str)[k]? = some (.str ws[k]) := by simp [hlt]
      have hX := fun u => stringsHasPrefix_v (l.drop i) ws[k] u
      rw [List.drop_eq_getElem_cons hlt, List.foldl_cons] at hc
      have hwk : ws[k].length ≤ 2 := by
        have : ∀ w ∈ signL, w.length ≤ 2 := by decide
        rw [hws] at this
        exact this _ (List.getElem_mem hlt)
      generalize ws[k] = w at hgk hX hc hwk
      cases p1 : w.isPrefixOf (l.drop i)
      · rw [p1] at hX
        have e : sgnG (l.drop i) t w = t := by unfold sgnG; rw [p1]; simp
        rw [e] at hc
        repeat' first
          | (refine kOps ?_; first | (refine LOps.nil ?_) | (refine kG ?_; first | (refine LOps.gF rfl rfl rfl ?_)) | (refine LOps.ev tT_ok rfl ?_) | (refine kBin ?_; first | (refine LOps.ans (AnsL.add rfl rfl ?_) ?_; (focus (constructor <;> omega)))) | (refine kIdx ?_; first | (refine LOps.ans (AnsL.idx tT_ok rfl rfl rfl rfl rfl hgk rfl rfl) ?_)) | (refine kSlc ?_; first | (refine LOps.ans (AnsL.slcFrom tT_ok rfl rfl rfl rfl hil rfl) ?_)) | (refine kCallN 66 ?_; first | (refine LOps.ans (AnsL.callP rfl rfl rfl (ok66) (hX _)) ?_)))
          | (refine kWL ?_; first | (refine WL.seq ?_) | (refine WL.region (by kernel_rfl) ?_) | (refine WL.block ?_) | (refine WL.skip ?_) | (refine kCond ?_; first | (refine WL.condF rfl ?_) | (refine WL.condT' rfl ?_ ?_; (focus (first | (simp only [decide_eq_true_eq, decide_eq_false_iff_not, Bool.not_eq_true', Bool.not_eq_false', Int.ofNat_lt, Int.ofNat_le, Int.ofNat_inj, not_true_eq_false, not_false_eq_true]; omega))))))
          | (refine lthen_n ?_)
          | (refine lblock_n ?_)
        all_goals
          refine lbackD.of ((k + 1, t)) ?_ ?_ ?_ ?_
          · first | omega | (refine ⟨?_, ?_⟩; (focus (first | omega | (simp; omega))); (first | omega | (simp_all [hc] <;> fail) | (simp_all [hc]; omega))) | (simp_all [hc] <;> fail) | (simp_all [hc]; omega)
          · first | omega | (simp; omega) | simp_all
          · repeat' first
              | exact SubL.nil
              | (refine SubL.mk rfl ?_ ?_)
              | rfl
              | (simp [hc] <;> fail)
              | (simp [hc]; omega)
          · first | rfl | (simp [hc] <;> fail) | (simp [hc]; omega)
      · rw [p1] at hX
        by_cases p2 : (w.length : Int) > (t.length : Int)
        · have e : sgnG (l.drop i) t w = w := by unfold sgnG; rw [if_pos ⟨p1, by omega⟩]
          rw [e] at hc
          repeat' first
            | (refine kOps ?_; first | (refine LOps.nil ?_) | (refine kG ?_; first | (refine LOps.gT rfl rfl rfl ?_)) | (refine kStore ?_; refine LOps.storeP tT_ok rfl rfl rfl rfl rfl rfl rfl rfl rfl ?_) | (refine LOps.ev tT_ok rfl ?_) | (refine kLoad ?_; first | (refine LOps.ans (AnsL.loadP tT_ok rfl rfl rfl rfl) ?_)) | (refine kBin ?_; first | (refine LOps.ans (AnsL.add rfl rfl ?_) ?_; (focus (constructor <;> omega)))) | (refine kIdx ?_; first | (refine LOps.ans (AnsL.idx tT_ok rfl rfl rfl rfl rfl hgk rfl rfl) ?_)) | (refine kSlc ?_; first | (refine LOps.ans (AnsL.slcFrom tT_ok rfl rfl rfl rfl hil rfl) ?_)) | (refine kCallN 66 ?_; first | (refine LOps.ans (AnsL.callP rfl rfl rfl (ok66) (hX _)) ?_)))
            | (refine kWL ?_; first | (refine WL.seq ?_) | (refine WL.region (by kernel_rfl) ?_) | (refine WL.block ?_) | (refine WL.skip ?_) | (refine kCond ?_; first | (refine WL.condT' rfl ?_ ?_; (focus (first | (exact decide_eq_true (by assumption)) | (simp only [decide_eq_true_eq, decide_eq_false_iff_not, Bool.not_eq_true', Bool.not_eq_false', Int.ofNat_lt, Int.ofNat_le, Int.ofNat_inj, not_true_eq_false, not_false_eq_true]; omega))))))
            | (refine lthen_n ?_)
            | (refine lblock_n ?_)
          all_goals
            refine lbackD.of ((k + 1, w)) ?_ ?_ ?_ ?_
            · first | omega | (refine ⟨?_, ?_⟩; (focus (first | omega | (simp; omega))); (first | omega | (simp_all [hc] <;> fail) | (simp_all [hc]; omega))) | (simp_all [hc] <;> fail) | (simp_all [hc]; omega)
            · first | omega | (simp; omega) | simp_all
            · repeat' first
                | exact SubL.nil
                | (refine SubL.mk rfl ?_ ?_)
                | rfl
                | (simp [hc] <;> fail)
                | (simp [hc]; omega)
            · first | rfl | (simp [hc] <;> fail) | (simp [hc]; omega)
        · have e : sgnG (l.drop i) t w = t := by unfold sgnG; rw [if_neg (by omega)]
          rw [e] at hc
          repeat' first
            | (refine kOps ?_; first | (refine LOps.nil ?_) | (refine kG ?_; first | (refine LOps.gT rfl rfl rfl ?_)) | (refine LOps.ev tT_ok rfl ?_) | (refine kLoad ?_; first | (refine LOps.ans (AnsL.loadP tT_ok rfl rfl rfl rfl) ?_)) | (refine kBin ?_; first | (refine LOps.ans (AnsL.add rfl rfl ?_) ?_; (focus (constructor <;> omega)))) | (refine kIdx ?_; first | (refine LOps.ans (AnsL.idx tT_ok rfl rfl rfl rfl rfl hgk rfl rfl) ?_)) | (refine kSlc ?_; first | (refine LOps.ans (AnsL.slcFrom tT_ok rfl rfl rfl rfl hil rfl) ?_)) | (refine kCallN 66 ?_; first | (refine LOps.ans (AnsL.callP rfl rfl rfl (ok66) (hX _)) ?_)))
            | (refine kWL ?_; first | (refine WL.seq ?_) | (refine WL.region (by kernel_rfl) ?_) | (refine WL.block ?_) | (refine WL.skip ?_) | (refine kCond ?_; first | (refine WL.condT' rfl ?_ ?_; (focus (first | (simp only [decide_eq_true_eq, decide_eq_false_iff_not, Bool.not_eq_true', Bool.not_eq_false', Int.ofNat_lt, Int.ofNat_le, Int.ofNat_inj, not_true_eq_false, not_false_eq_true]; omega)))) | (refine WL.condF' rfl ?_ ?_; (focus (first | (exact decide_eq_false (by assumption)))))))
            | (refine lthen_n ?_)
            | (refine lblock_n ?_)
          all_goals
            refine lbackD.of ((k + 1, t)) ?_ ?_ ?_ ?_
            · first | omega | (refine ⟨?_, ?_⟩; (focus (first | omega | (simp; omega))); (first | omega | (simp_all [hc] <;> fail) | (simp_all [hc]; omega))) | (simp_all [hc] <;> fail) | (simp_all [hc]; omega)
            · first | omega | (simp; omega) | simp_all
            · repeat' first
                | exact SubL.nil
                | (refine SubL.mk rfl ?_ ?_)
                | rfl
                | (simp [hc] <;> fail)
                | (simp [hc]; omega)
            · first | rfl | (simp [hc] <;> fail) | (simp [hc]; omega)
    · rw [List.drop_of_length_le hge, List.foldl_nil] at hc
      subst hc
      have hge' : ¬ (k : Int) < (ws.length : Int) := by omega
      cases ok
      · skip
        repeat' first
          | (refine kOps ?_; first | (refine LOps.nil ?_) | (refine kStore ?_; refine LOps.storeP tT_ok rfl rfl rfl rfl rfl rfl rfl rfl rfl ?_) | (refine LOps.ev tT_ok rfl ?_) | (refine kLoad ?_; first | (refine LOps.ans (AnsL.loadP tT_ok rfl rfl rfl rfl) ?_)) | (refine kBin ?_; first | (refine LOps.ans (AnsL.add rfl rfl ?_) ?_; (focus (constructor <;> omega)))))
          | (refine kWL ?_; first | (refine WL.seq ?_) | (refine WL.region (by kernel_rfl) ?_) | (refine WL.drawn (id := 28) [0, 1, 2, 3, 4, 5, 6] [4] [[], [], [], [2], [0, 2, 3], [0, 1, 2, 3, 4], [0, 1, 2, 3, 4, 5]] (by kernel_rfl) (by kernel_rfl) ?_) | (refine WL.exit ?_) | (refine WL.ret ?_) | (refine kCond ?_; first | (refine WL.condF' rfl ?_ ?_; (focus (first | (exact decide_eq_false (by assumption)))))))
          | (refine kDr ?_; first | (refine LDr.nil ?_) | (refine LDr.fl rfl rfl (.ev tT_ok rfl) ?_) | (refine kDLoad rfl ?_; first | (refine LDr.fl rfl rfl (AnsL.loadP tT_ok rfl rfl rfl rfl) ?_)) | (refine kDCallN 74 rfl ?_; first | (refine LDr.fl rfl rfl (AnsL.callP rfl rfl rfl (ok74) (hT _)) ?_)) | (refine LDr.eff rfl rfl rfl ?_))
          | (refine lthen_n ?_)
          | (refine lthen_e ?_)
          | (refine lblock_n ?_)
          | (refine lblock_e ?_)
          | (refine lbackD_e ?_)
          | (refine LPost.r3 (r := .cell 4 58) (r' := .tmp 5) (r'' := .tmp 6) (.inl rfl) (Res1.cell tT_ok rfl rfl rfl rfl) (Res1.tmp rfl) (Res1.tmp rfl) ?_)
          | (refine PureR.mk ?_)
          | (refine And.intro ?_ ?_)
          | (exact StsL.nil)
          | (refine StsL.cons ?_ ?_)
          | (refine StL.fl rfl rfl (.ev tT_ok rfl))
        rfl
      · skip
        repeat' first
          | (refine kOps ?_; first | (refine LOps.nil ?_) | (refine kStore ?_; refine LOps.storeP tT_ok rfl rfl rfl rfl rfl rfl rfl rfl rfl ?_) | (refine LOps.ev tT_ok rfl ?_) | (refine kLoad ?_; first | (refine LOps.ans (AnsL.loadP tT_ok rfl rfl rfl rfl) ?_)) | (refine kBin ?_; first | (refine LOps.ans (AnsL.add rfl rfl ?_) ?_; (focus (constructor <;> omega)))))
          | (refine kWL ?_; first | (refine WL.seq ?_) | (refine WL.region (by kernel_rfl) ?_) | (refine WL.drawn (id := 28) [0, 1, 2, 3, 4, 5, 6] [4] [[], [], [], [2], [0, 2, 3], [0, 1, 2, 3, 4], [0, 1, 2, 3, 4, 5]] (by kernel_rfl) (by kernel_rfl) ?_) | (refine WL.exit ?_) | (refine WL.ret ?_) | (refine kCond ?_; first | (refine WL.condF' rfl ?_ ?_; (focus (first | (exact decide_eq_false (by assumption)))))))
          | (refine kDr ?_; first | (refine LDr.nil ?_) | (refine LDr.fl rfl rfl (.ev tT_ok rfl) ?_) | (refine kDLoad rfl ?_; first | (refine LDr.fl rfl rfl (AnsL.loadP tT_ok rfl rfl rfl rfl) ?_)) | (refine kDCallN 74 rfl ?_; first | (refine LDr.fl rfl rfl (AnsL.callP rfl rfl rfl (ok74) (hT _)) ?_)) | (refine LDr.eff rfl rfl rfl ?_))
          | (refine lthen_n ?_)
          | (refine lthen_e ?_)
          | (refine lblock_n ?_)
          | (refine lblock_e ?_)
          | (refine lbackD_e ?_)
          | (refine LPost.r3 (r := .cell 4 58) (r' := .tmp 5) (r'' := .tmp 6) (.inl rfl) (Res1.cell tT_ok rfl rfl rfl rfl) (Res1.tmp rfl) (Res1.tmp rfl) ?_)
          | (refine PureR.mk ?_)
          | (refine And.intro ?_ ?_)
          | (exact StsL.nil)
          | (refine StsL.cons ?_ ?_)
          | (refine StL.fl rfl rfl (.ev tT_ok rfl))
        rfl
  · rw [c1] at hP
    refine LCalls.pure Tryz.func40 rfl (by kernel_rfl) (by simp) ?_
    repeat' first
      | (refine kOps ?_; first | (refine LOps.nil ?_) | (refine kStore ?_; refine LOps.storeP tT_ok rfl rfl rfl rfl rfl rfl rfl rfl rfl ?_) | (refine LOps.ev tT_ok rfl ?_) | (refine kAlloc ?_; refine LOps.alloc tT_ok rfl rfl rfl rfl ?_) | (refine kSidx ?_; first | (refine LOps.ans (AnsL.sidx tT_ok rfl rfl rfl rfl hg) ?_)) | (refine kCallN 68 ?_; first | (refine LOps.ans (AnsL.callP rfl rfl rfl (ok68) (hP _)) ?_)))
      | (refine kWL ?_; first | (refine WL.seq ?_) | (refine WL.region (by kernel_rfl) ?_) | (refine WL.block ?_) | (refine kCond ?_; first | (refine WL.condT rfl ?_)))
      | (refine lthen_n ?_)
    refine WL.loopD (fun k : Nat => l.length - k) (fun k => [(0, .str l), (1, .int .i64 (i : Int)), (4, .ptr (s.next + 0) 0), (7, .ptr (s.next + 1) 0), (8, .int .i64 (k : Int)), (9, .int .u8 (b.toNat : Int))])
      (fun k => [.var [.int .i64 0, .str [], .int .i64 0], .var [.int .i64 0, .str [], .int .i64 (i : Int)]]) (fun k => i ≤ k ∧ k ≤ l.length ∧ runE l i = runE l k) 2 i ⟨Nat.le_refl _, by omega, rfl⟩ (fun _ => rfl) ⟨rfl, rfl, rfl, rfl, rfl, rfl, trivial⟩ rfl (fun k hk => ?_) (fun k hk => ?_)
    · simp [UnderK, UnderX, Own.under, V.under, V.underL]
    obtain ⟨hk0, hk, hc⟩ := hk
    rcases Nat.lt_or_ge k l.length with hlt | hge
    · have hlt' : (k : Int) < (l.length : Int) := by omega
      have hgk : l[k]? = some l[k] := by simp [hlt]
      have hPk := fun u => implisPart_v (l[k].toNat : Int) u
      cases c0 : partI (l[k].toNat : Int)
      · rw [c0] at hPk
        have e : runE l k = k := seek_stop hlt (by simp [c0])
        have hke : runE l i = k := hc.trans e
        clear hc
        generalize l[k] = b2 at hgk hPk c0
        cases c2 : figI (b.toNat : Int)
        · rw [c2] at hF
          have c3 : ltrI (b.toNat : Int) = true := by simpa [partI, c2] using c1
          unfold oneD
          rw [if_pos c3]
          have hK := fun u => implKeyOf_v (wordT l i) hwl u
          have hFo := fun u => implFold_v (wordT l i) hwl u
          by_cases c4 : keyI (fold (wordT l i)) ≠ 0
          · rw [if_pos c4]
            dsimp only [rtV]
            have hT := fun u => implTokenOk_v ⟨1, fold (wordT l i), i⟩ (by show (fold (wordT l i)).length ≤ _; rw [fold_len]; exact hwl) u
            generalize keyI (fold (wordT l i)) = ky at hK c4
            generalize fold (wordT l i) = fw at hFo hT ⊢
            generalize wordT l i = w at hw hK hFo
            rw [hke] at r1 r2 hw ⊢
            generalize tokOk numI ⟨1, fw, i⟩ = ok at hT ⊢
            cases ok
            · skip
              repeat' first
                | (refine kOps ?_; first | (refine LOps.nil ?_) | (refine kG ?_; first | (refine LOps.gT rfl rfl rfl ?_) | (refine LOps.gD true rfl rfl rfl ?_ ?_; (focus (first | (exact decide_eq_true (by assumption)))))) | (refine kStore ?_; refine LOps.storeP tT_ok rfl rfl rfl rfl rfl rfl rfl rfl rfl ?_) | (refine LOps.ev tT_ok rfl ?_) | (refine kLoad ?_; first | (refine LOps.ans (AnsL.loadP tT_ok rfl rfl rfl rfl) ?_)) | (refine kSidx ?_; first | (refine LOps.ans (AnsL.sidx (j := k) tT_ok rfl rfl rfl rfl hgk) ?_)) | (refine kCallN 68 ?_; first | (refine LOps.ans (AnsL.callP rfl rfl rfl (ok68) (hPk _)) ?_)) | (refine kCallN 69 ?_; first | (refine LOps.ans (AnsL.callP rfl rfl rfl (ok69) (hF _)) ?_)) | (refine kCallN 70 ?_; first | (refine LOps.ans (AnsL.callP rfl rfl rfl (ok70) (hK _)) ?_)) | (refine kCallN 71 ?_; first | (refine LOps.ans (AnsL.callP rfl rfl rfl (ok71) (hFo _)) ?_)))
                | (refine kWL ?_; first | (refine WL.seq ?_) | (refine WL.region (by kernel_rfl) ?_) | (refine WL.drawn (id := 15) [0, 1, 2, 3, 4, 5, 6, 7] [5, 7] [[], [], [], [0, 1, 2], [], [4], [0, 1, 2, 3, 4, 5], [0, 1, 2, 3, 4, 5, 6]] (by kernel_rfl) (by kernel_rfl) ?_) | (refine WL.drawn (id := 28) [0, 1, 2, 3, 4, 5, 6] [4] [[], [], [], [2], [0, 2, 3], [0, 1, 2, 3, 4], [0, 1, 2, 3, 4, 5]] (by kernel_rfl) (by kernel_rfl) ?_) | (refine WL.exit ?_) | (refine WL.ret ?_) | (refine kCond ?_; first | (refine WL.condF rfl ?_) | (refine WL.condT' rfl ?_ ?_; (focus (first | (simp only [decide_eq_true_eq, decide_eq_false_iff_not, Bool.not_eq_true', Bool.not_eq_false', Int.ofNat_lt, Int.ofNat_le, Int.ofNat_inj, not_true_eq_false, not_false_eq_true]; omega))))))
                | (refine kDr ?_; first | (refine LDr.nil ?_) | (refine LDr.fl rfl rfl (.ev tT_ok rfl) ?_) | (refine kDLoad rfl ?_; first | (refine LDr.fl rfl rfl (AnsL.loadP tT_ok rfl rfl rfl rfl) ?_)) | (refine kDSlc rfl ?_; first | (refine LDr.fl rfl rfl (AnsL.slcStr (n := i) (n2 := k) tT_ok rfl rfl rfl rfl rfl r1 r2 hw) ?_)) | (refine kDCallN 74 rfl ?_; first | (refine LDr.fl rfl rfl (AnsL.callP rfl rfl rfl (ok74) (hT _)) ?_)) | (refine LDr.eff rfl rfl rfl ?_))
                | (refine lthen_n ?_)
                | (refine lthen_e ?_)
                | (refine lblock_n ?_)
                | (refine lblock_e ?_)
                | (refine lbackD_e ?_)
                | (refine LPost.r3 (r := .cell 4 58) (r' := .tmp 5) (r'' := .tmp 6) (.inl rfl) (Res1.cell tT_ok rfl rfl rfl rfl) (Res1.tmp rfl) (Res1.tmp rfl) ?_)
                | (refine PureR.mk ?_)
                | (refine And.intro ?_ ?_)
                | (exact StsL.nil)
                | (refine StsL.cons ?_ ?_)
                | (refine StL.fl rfl rfl (.ev tT_ok rfl))
                | (refine StL.fl rfl rfl (AnsL.slcStr (n := i) (n2 := k) tT_ok rfl rfl rfl rfl rfl r1 r2 hw))
              rfl
            · skip
              repeat' first
                | (refine kOps ?_; first | (refine LOps.nil ?_) | (refine kG ?_; first | (refine LOps.gT rfl rfl rfl ?_) | (refine LOps.gD true rfl rfl rfl ?_ ?_; (focus (first | (exact decide_eq_true (by assumption)))))) | (refine kStore ?_; refine LOps.storeP tT_ok rfl rfl rfl rfl rfl rfl rfl rfl rfl ?_) | (refine LOps.ev tT_ok rfl ?_) | (refine kLoad ?_; first | (refine LOps.ans (AnsL.loadP tT_ok rfl rfl rfl rfl) ?_)) | (refine kSidx ?_; first | (refine LOps.ans (AnsL.sidx (j := k) tT_ok rfl rfl rfl rfl hgk) ?_)) | (refine kCallN 68 ?_; first | (refine LOps.ans (AnsL.callP rfl rfl rfl (ok68) (hPk _)) ?_)) | (refine kCallN 69 ?_; first | (refine LOps.ans (AnsL.callP rfl rfl rfl (ok69) (hF _)) ?_)) | (refine kCallN 70 ?_; first | (refine LOps.ans (AnsL.callP rfl rfl rfl (ok70) (hK _)) ?_)) | (refine kCallN 71 ?_; first | (refine LOps.ans (AnsL.callP rfl rfl rfl (ok71) (hFo _)) ?_)))
                | (refine kWL ?_; first | (refine WL.seq ?_) | (refine WL.region (by kernel_rfl) ?_) | (refine WL.drawn (id := 15) [0, 1, 2, 3, 4, 5, 6, 7] [5, 7] [[], [], [], [0, 1, 2], [], [4], [0, 1, 2, 3, 4, 5], [0, 1, 2, 3, 4, 5, 6]] (by kernel_rfl) (by kernel_rfl) ?_) | (refine WL.drawn (id := 28) [0, 1, 2, 3, 4, 5, 6] [4] [[], [], [], [2], [0, 2, 3], [0, 1, 2, 3, 4], [0, 1, 2, 3, 4, 5]] (by kernel_rfl) (by kernel_rfl) ?_) | (refine WL.exit ?_) | (refine WL.ret ?_) | (refine kCond ?_; first | (refine WL.condF rfl ?_) | (refine WL.condT' rfl ?_ ?_; (focus (first | (simp only [decide_eq_true_eq, decide_eq_false_iff_not, Bool.not_eq_true', Bool.not_eq_false', Int.ofNat_lt, Int.ofNat_le, Int.ofNat_inj, not_true_eq_false, not_false_eq_true]; omega))))))
                | (refine kDr ?_; first | (refine LDr.nil ?_) | (refine LDr.fl rfl rfl (.ev tT_ok rfl) ?_) | (refine kDLoad rfl ?_; first | (refine LDr.fl rfl rfl (AnsL.loadP tT_ok rfl rfl rfl rfl) ?_)) | (refine kDSlc rfl ?_; first | (refine LDr.fl rfl rfl (AnsL.slcStr (n := i) (n2 := k) tT_ok rfl rfl rfl rfl rfl r1 r2 hw) ?_)) | (refine kDCallN 74 rfl ?_; first | (refine LDr.fl rfl rfl (AnsL.callP rfl rfl rfl (ok74) (hT _)) ?_)) | (refine LDr.eff rfl rfl rfl ?_))
                | (refine lthen_n ?_)
                | (refine lthen_e ?_)
                | (refine lblock_n ?_)
                | (refine lblock_e ?_)
                | (refine lbackD_e ?_)
                | (refine LPost.r3 (r := .cell 4 58) (r' := .tmp 5) (r'' := .tmp 6) (.inl rfl) (Res1.cell tT_ok rfl rfl rfl rfl) (Res1.tmp rfl) (Res1.tmp rfl) ?_)
                | (refine PureR.mk ?_)
                | (refine And.intro ?_ ?_)
                | (exact StsL.nil)
                | (refine StsL.cons ?_ ?_)
                | (refine StL.fl rfl rfl (.ev tT_ok rfl))
                | (refine StL.fl rfl rfl (AnsL.slcStr (n := i) (n2 := k) tT_ok rfl rfl rfl rfl rfl r1 r2 hw))
              rfl
          · rw [if_neg c4]
            dsimp only [rtV]
            have hT := fun u => implTokenOk_v ⟨2, wordT l i, i⟩ hwl u
            generalize keyI (fold (wordT l i)) = ky at hK c4
            generalize wordT l i = w at hw hK hT ⊢
            rw [hke] at r1 r2 hw ⊢
            generalize tokOk numI ⟨2, w, i⟩ = ok at hT ⊢
            cases ok
            · skip
              repeat' first
                | (refine kOps ?_; first | (refine LOps.nil ?_) | (refine kG ?_; first | (refine LOps.gT rfl rfl rfl ?_) | (refine LOps.gD true rfl rfl rfl ?_ ?_; (focus (first | (exact decide_eq_true (by assumption)))))) | (refine kStore ?_; refine LOps.storeP tT_ok rfl rfl rfl rfl rfl rfl rfl rfl rfl ?_) | (refine LOps.ev tT_ok rfl ?_) | (refine kLoad ?_; first | (refine LOps.ans (AnsL.loadP tT_ok rfl rfl rfl rfl) ?_)) | (refine kSidx ?_; first | (refine LOps.ans (AnsL.sidx (j := k) tT_ok rfl rfl rfl rfl hgk) ?_)) | (refine kCallN 68 ?_; first | (refine LOps.ans (AnsL.callP rfl rfl rfl (ok68) (hPk _)) ?_)) | (refine kCallN 69 ?_; first | (refine LOps.ans (AnsL.callP rfl rfl rfl (ok69) (hF _)) ?_)) | (refine kCallN 70 ?_; first | (refine LOps.ans (AnsL.callP rfl rfl rfl (ok70) (hK _)) ?_)))
                | (refine kWL ?_; first | (refine WL.seq ?_) | (refine WL.region (by kernel_rfl) ?_) | (refine WL.drawn (id := 15) [0, 1, 2, 3, 4, 5, 6, 7] [5, 7] [[], [], [], [0, 1, 2], [], [4], [0, 1, 2, 3, 4, 5], [0, 1, 2, 3, 4, 5, 6]] (by kernel_rfl) (by kernel_rfl) ?_) | (refine WL.drawn (id := 28) [0, 1, 2, 3, 4, 5, 6] [4] [[], [], [], [2], [0, 2, 3], [0, 1, 2, 3, 4], [0, 1, 2, 3, 4, 5]] (by kernel_rfl) (by kernel_rfl) ?_) | (refine WL.exit ?_) | (refine WL.skip ?_) | (refine WL.ret ?_) | (refine kCond ?_; first | (refine WL.condF rfl ?_) | (refine WL.condF' rfl ?_ ?_; (focus (first | (simp only [decide_eq_true_eq, decide_eq_false_iff_not, Bool.not_eq_true', Bool.not_eq_false', Int.ofNat_lt, Int.ofNat_le, Int.ofNat_inj, not_true_eq_false, not_false_eq_true]; omega))))))
                | (refine kDr ?_; first | (refine LDr.nil ?_) | (refine LDr.fl rfl rfl (.ev tT_ok rfl) ?_) | (refine kDLoad rfl ?_; first | (refine LDr.fl rfl rfl (AnsL.loadP tT_ok rfl rfl rfl rfl) ?_)) | (refine kDSlc rfl ?_; first | (refine LDr.fl rfl rfl (AnsL.slcStr (n := i) (n2 := k) tT_ok rfl rfl rfl rfl rfl r1 r2 hw) ?_)) | (refine kDCallN 74 rfl ?_; first | (refine LDr.fl rfl rfl (AnsL.callP rfl rfl rfl (ok74) (hT _)) ?_)) | (refine LDr.eff rfl rfl rfl ?_))
                | (refine lthen_n ?_)
                | (refine lthen_e ?_)
                | (refine lblock_n ?_)
                | (refine lblock_e ?_)
                | (refine lbackD_e ?_)
                | (refine LPost.r3 (r := .cell 4 58) (r' := .tmp 5) (r'' := .tmp 6) (.inl rfl) (Res1.cell tT_ok rfl rfl rfl rfl) (Res1.tmp rfl) (Res1.tmp rfl) ?_)
                | (refine PureR.mk ?_)
                | (refine And.intro ?_ ?_)
                | (exact StsL.nil)
                | (refine StsL.cons ?_ ?_)
                | (refine StL.fl rfl rfl (.ev tT_ok rfl))
                | (refine StL.fl rfl rfl (AnsL.slcStr (n := i) (n2 := k) tT_ok rfl rfl rfl rfl rfl r1 r2 hw))
              rfl
            · skip
              repeat' first
                | (refine kOps ?_; first | (refine LOps.nil ?_) | (refine kG ?_; first | (refine LOps.gT rfl rfl rfl ?_) | (refine LOps.gD true rfl rfl rfl ?_ ?_; (focus (first | (exact decide_eq_true (by assumption)))))) | (refine kStore ?_; refine LOps.storeP tT_ok rfl rfl rfl rfl rfl rfl rfl rfl rfl ?_) | (refine LOps.ev tT_ok rfl ?_) | (refine kLoad ?_; first | (refine LOps.ans (AnsL.loadP tT_ok rfl rfl rfl rfl) ?_)) | (refine kSidx ?_; first | (refine LOps.ans (AnsL.sidx (j := k) tT_ok rfl rfl rfl rfl hgk) ?_)) | (refine kCallN 68 ?_; first | (refine LOps.ans (AnsL.callP rfl rfl rfl (ok68) (hPk _)) ?_)) | (refine kCallN 69 ?_; first | (refine LOps.ans (AnsL.callP rfl rfl rfl (ok69) (hF _)) ?_)) | (refine kCallN 70 ?_; first | (refine LOps.ans (AnsL.callP rfl rfl rfl (ok70) (hK _)) ?_)))
                | (refine kWL ?_; first | (refine WL.seq ?_) | (refine WL.region (by kernel_rfl) ?_) | (refine WL.drawn (id := 15) [0, 1, 2, 3, 4, 5, 6, 7] [5, 7] [[], [], [], [0, 1, 2], [], [4], [0, 1, 2, 3, 4, 5], [0, 1, 2, 3, 4, 5, 6]] (by kernel_rfl) (by kernel_rfl) ?_) | (refine WL.drawn (id := 28) [0, 1, 2, 3, 4, 5, 6] [4] [[], [], [], [2], [0, 2, 3], [0, 1, 2, 3, 4], [0, 1, 2, 3, 4, 5]] (by kernel_rfl) (by kernel_rfl) ?_) | (refine WL.exit ?_) | (refine WL.skip ?_) | (refine WL.ret ?_) | (refine kCond ?_; first | (refine WL.condF rfl ?_) | (refine WL.condF' rfl ?_ ?_; (focus (first | (simp only [decide_eq_true_eq, decide_eq_false_iff_not, Bool.not_eq_true', Bool.not_eq_false', Int.ofNat_lt, Int.ofNat_le, Int.ofNat_inj, not_true_eq_false, not_false_eq_true]; omega))))))
                | (refine kDr ?_; first | (refine LDr.nil ?_) | (refine LDr.fl rfl rfl (.ev tT_ok rfl) ?_) | (refine kDLoad rfl ?_; first | (refine LDr.fl rfl rfl (AnsL.loadP tT_ok rfl rfl rfl rfl) ?_)) | (refine kDSlc rfl ?_; first | (refine LDr.fl rfl rfl (AnsL.slcStr (n := i) (n2 := k) tT_ok rfl rfl rfl rfl rfl r1 r2 hw) ?_)) | (refine kDCallN 74 rfl ?_; first | (refine LDr.fl rfl rfl (AnsL.callP rfl rfl rfl (ok74) (hT _)) ?_)) | (refine LDr.eff rfl rfl rfl ?_))
                | (refine lthen_n ?_)
                | (refine lthen_e ?_)
                | (refine lblock_n ?_)
                | (refine lblock_e ?_)
                | (refine lbackD_e ?_)
                | (refine LPost.r3 (r := .cell 4 58) (r' := .tmp 5) (r'' := .tmp 6) (.inl rfl) (Res1.cell tT_ok rfl rfl rfl rfl) (Res1.tmp rfl) (Res1.tmp rfl) ?_)
                | (refine PureR.mk ?_)
                | (refine And.intro ?_ ?_)
                | (exact StsL.nil)
                | (refine StsL.cons ?_ ?_)
                | (refine StL.fl rfl rfl (.ev tT_ok rfl))
                | (refine StL.fl rfl rfl (AnsL.slcStr (n := i) (n2 := k) tT_ok rfl rfl rfl rfl rfl r1 r2 hw))
              rfl
        · rw [c2] at hF
          have c3 : ¬ ltrI (b.toNat : Int) = true := fun h => fig_ltr c2 h
          unfold oneD
          rw [if_neg c3, if_pos c2]
          dsimp only [rtV]
          have hT := fun u => implTokenOk_v ⟨3, wordT l i, i⟩ hwl u
          generalize wordT l i = w at hw hT ⊢
          rw [hke] at r1 r2 hw ⊢
          generalize tokOk numI ⟨3, w, i⟩ = ok at hT ⊢
          cases ok
          · skip
            repeat' first
              | (refine kOps ?_; first | (refine LOps.nil ?_) | (refine kG ?_; first | (refine LOps.gT rfl rfl rfl ?_) | (refine LOps.gD true rfl rfl rfl ?_ ?_; (focus (first | (exact decide_eq_true (by assumption)))))) | (refine kStore ?_; refine LOps.storeP tT_ok rfl rfl rfl rfl rfl rfl rfl rfl rfl ?_) | (refine LOps.ev tT_ok rfl ?_) | (refine kSidx ?_; first | (refine LOps.ans (AnsL.sidx (j := k) tT_ok rfl rfl rfl rfl hgk) ?_)) | (refine kCallN 68 ?_; first | (refine LOps.ans (AnsL.callP rfl rfl rfl (ok68) (hPk _)) ?_)) | (refine kCallN 69 ?_; first | (refine LOps.ans (AnsL.callP rfl rfl rfl (ok69) (hF _)) ?_)))
              | (refine kWL ?_; first | (refine WL.seq ?_) | (refine WL.region (by kernel_rfl) ?_) | (refine WL.drawn (id := 15) [0, 1, 2, 3, 4, 5, 6, 7] [5, 7] [[], [], [], [0, 1, 2], [], [4], [0, 1, 2, 3, 4, 5], [0, 1, 2, 3, 4, 5, 6]] (by kernel_rfl) (by kernel_rfl) ?_) | (refine WL.drawn (id := 28) [0, 1, 2, 3, 4, 5, 6] [4] [[], [], [], [2], [0, 2, 3], [0, 1, 2, 3, 4], [0, 1, 2, 3, 4, 5]] (by kernel_rfl) (by kernel_rfl) ?_) | (refine WL.exit ?_) | (refine WL.ret ?_) | (refine kCond ?_; first | (refine WL.condT rfl ?_) | (refine WL.condF rfl ?_)))
              | (refine kDr ?_; first | (refine LDr.nil ?_) | (refine LDr.fl rfl rfl (.ev tT_ok rfl) ?_) | (refine kDLoad rfl ?_; first | (refine LDr.fl rfl rfl (AnsL.loadP tT_ok rfl rfl rfl rfl) ?_)) | (refine kDSlc rfl ?_; first | (refine LDr.fl rfl rfl (AnsL.slcStr (n := i) (n2 := k) tT_ok rfl rfl rfl rfl rfl r1 r2 hw) ?_)) | (refine kDCallN 74 rfl ?_; first | (refine LDr.fl rfl rfl (AnsL.callP rfl rfl rfl (ok74) (hT _)) ?_)) | (refine LDr.eff rfl rfl rfl ?_))
              | (refine lthen_n ?_)
              | (refine lthen_e ?_)
              | (refine lblock_n ?_)
              | (refine lblock_e ?_)
              | (refine lbackD_e ?_)
              | (refine LPost.r3 (r := .cell 4 58) (r' := .tmp 5) (r'' := .tmp 6) (.inl rfl) (Res1.cell tT_ok rfl rfl rfl rfl) (Res1.tmp rfl) (Res1.tmp rfl) ?_)
              | (refine PureR.mk ?_)
              | (refine And.intro ?_ ?_)
              | (exact StsL.nil)
              | (refine StsL.cons ?_ ?_)
              | (refine StL.fl rfl rfl (.ev tT_ok rfl))
              | (refine StL.fl rfl rfl (AnsL.slcStr (n := i) (n2 := k) tT_ok rfl rfl rfl rfl rfl r1 r2 hw))
            rfl
          · skip
            repeat' first
              | (refine kOps ?_; first | (refine LOps.nil ?_) | (refine kG ?_; first | (refine LOps.gT rfl rfl rfl ?_) | (refine LOps.gD true rfl rfl rfl ?_ ?_; (focus (first | (exact decide_eq_true (by assumption)))))) | (refine kStore ?_; refine LOps.storeP tT_ok rfl rfl rfl rfl rfl rfl rfl rfl rfl ?_) | (refine LOps.ev tT_ok rfl ?_) | (refine kSidx ?_; first | (refine LOps.ans (AnsL.sidx (j := k) tT_ok rfl rfl rfl rfl hgk) ?_)) | (refine kCallN 68 ?_; first | (refine LOps.ans (AnsL.callP rfl rfl rfl (ok68) (hPk _)) ?_)) | (refine kCallN 69 ?_; first | (refine LOps.ans (AnsL.callP rfl rfl rfl (ok69) (hF _)) ?_)))
              | (refine kWL ?_; first | (refine WL.seq ?_) | (refine WL.region (by kernel_rfl) ?_) | (refine WL.drawn (id := 15) [0, 1, 2, 3, 4, 5, 6, 7] [5, 7] [[], [], [], [0, 1, 2], [], [4], [0, 1, 2, 3, 4, 5], [0, 1, 2, 3, 4, 5, 6]] (by kernel_rfl) (by kernel_rfl) ?_) | (refine WL.drawn (id := 28) [0, 1, 2, 3, 4, 5, 6] [4] [[], [], [], [2], [0, 2, 3], [0, 1, 2, 3, 4], [0, 1, 2, 3, 4, 5]] (by kernel_rfl) (by kernel_rfl) ?_) | (refine WL.exit ?_) | (refine WL.ret ?_) | (refine kCond ?_; first | (refine WL.condT rfl ?_) | (refine WL.condF rfl ?_)))
              | (refine kDr ?_; first | (refine LDr.nil ?_) | (refine LDr.fl rfl rfl (.ev tT_ok rfl) ?_) | (refine kDLoad rfl ?_; first | (refine LDr.fl rfl rfl (AnsL.loadP tT_ok rfl rfl rfl rfl) ?_)) | (refine kDSlc rfl ?_; first | (refine LDr.fl rfl rfl (AnsL.slcStr (n := i) (n2 := k) tT_ok rfl rfl rfl rfl rfl r1 r2 hw) ?_)) | (refine kDCallN 74 rfl ?_; first | (refine LDr.fl rfl rfl (AnsL.callP rfl rfl rfl (ok74) (hT _)) ?_)) | (refine LDr.eff rfl rfl rfl ?_))
              | (refine lthen_n ?_)
              | (refine lthen_e ?_)
              | (refine lblock_n ?_)
              | (refine lblock_e ?_)
              | (refine lbackD_e ?_)
              | (refine LPost.r3 (r := .cell 4 58) (r' := .tmp 5) (r'' := .tmp 6) (.inl rfl) (Res1.cell tT_ok rfl rfl rfl rfl) (Res1.tmp rfl) (Res1.tmp rfl) ?_)
              | (refine PureR.mk ?_)
              | (refine And.intro ?_ ?_)
              | (exact StsL.nil)
              | (refine StsL.cons ?_ ?_)
              | (refine StL.fl rfl rfl (.ev tT_ok rfl))
              | (refine StL.fl rfl rfl (AnsL.slcStr (n := i) (n2 := k) tT_ok rfl rfl rfl rfl rfl r1 r2 hw))
            rfl
      · rw [c0] at hPk
        have e : runE l k = runE l (k + 1) := seek_step hlt (by simp [c0])
        rw [e] at hc
        generalize l[k] = b2 at hgk hPk
        repeat' first
          | (refine kOps ?_; first | (refine LOps.nil ?_) | (refine kG ?_; first | (refine LOps.gT rfl rfl rfl ?_) | (refine LOps.gD true rfl rfl rfl ?_ ?_; (focus (first | (exact decide_eq_true (by assumption)))))) | (refine LOps.ev tT_ok rfl ?_) | (refine kBin ?_; first | (refine LOps.ans (AnsL.add rfl rfl ?_) ?_; (focus (constructor <;> omega)))) | (refine kSidx ?_; first | (refine LOps.ans (AnsL.sidx (j := k) tT_ok rfl rfl rfl rfl hgk) ?_)) | (refine kCallN 68 ?_; first | (refine LOps.ans (AnsL.callP rfl rfl rfl (ok68) (hPk _)) ?_)))
          | (refine kWL ?_; first | (refine WL.seq ?_) | (refine WL.region (by kernel_rfl) ?_) | (refine WL.block ?_) | (refine WL.skip ?_) | (refine kCond ?_; first | (refine WL.condT rfl ?_)))
          | (refine lthen_n ?_)
          | (refine lblock_n ?_)
        all_goals
          refine lbackD.of (k + 1) ?_ ?_ ?_ ?_
          · first | omega | (refine ⟨?_, ?_⟩; (focus (first | omega | (simp; omega))); (first | omega | (simp_all [hc] <;> fail) | (simp_all [hc]; omega))) | (simp_all [hc] <;> fail) | (simp_all [hc]; omega)
          · first | omega | (simp; omega) | simp_all
          · repeat' first
              | exact SubL.nil
              | (refine SubL.mk rfl ?_ ?_)
              | rfl
              | (simp [hc] <;> fail)
              | (simp [hc]; omega)
          · first | rfl | (simp [hc] <;> fail) | (simp [hc]; omega)
    · have hlt' : ¬ (k : Int) < (l.length : Int) := by omega
      have e : runE l k = k := by unfold runE; rw [seek_end hge]; rfl
      have hke : runE l i = k := hc.trans e
      have hPk := hP
      have hgk := hg
      clear hc
      cases c2 : figI (b.toNat : Int)
      · rw [c2] at hF
        have c3 : ltrI (b.toNat : Int) = true := by simpa [partI, c2] using c1
        unfold oneD
        rw [if_pos c3]
        have hK := fun u => implKeyOf_v (wordT l i) hwl u
        have hFo := fun u => implFold_v (wordT l i) hwl u
        by_cases c4 : keyI (fold (wordT l i)) ≠ 0
        · rw [if_pos c4]
          dsimp only [rtV]
          have hT := fun u => implTokenOk_v ⟨1, fold (wordT l i), i⟩ (by show (fold (wordT l i)).length ≤ _; rw [fold_len]; exact hwl) u
          generalize keyI (fold (wordT l i)) = ky at hK c4
          generalize fold (wordT l i) = fw at hFo hT ⊢
          generalize wordT l i = w at hw hK hFo
          rw [hke] at r1 r2 hw ⊢
          generalize tokOk numI ⟨1, fw, i⟩ = ok at hT ⊢
          cases ok
          · skip
            repeat' first
              | (refine kOps ?_; first | (refine LOps.nil ?_) | (refine kG ?_; first | (refine LOps.gF rfl rfl rfl ?_) | (refine LOps.gD false rfl rfl rfl ?_ ?_; (focus (first | (exact decide_eq_false (by assumption)))))) | (refine kStore ?_; refine LOps.storeP tT_ok rfl rfl rfl rfl rfl rfl rfl rfl rfl ?_) | (refine LOps.ev tT_ok rfl ?_) | (refine kLoad ?_; first | (refine LOps.ans (AnsL.loadP tT_ok rfl rfl rfl rfl) ?_)) | (refine kCallN 69 ?_; first | (refine LOps.ans (AnsL.callP rfl rfl rfl (ok69) (hF _)) ?_)) | (refine kCallN 70 ?_; first | (refine LOps.ans (AnsL.callP rfl rfl rfl (ok70) (hK _)) ?_)) | (refine kCallN 71 ?_; first | (refine LOps.ans (AnsL.callP rfl rfl rfl (ok71) (hFo _)) ?_)))
              | (refine kWL ?_; first | (refine WL.seq ?_) | (refine WL.region (by kernel_rfl) ?_) | (refine WL.drawn (id := 15) [0, 1, 2, 3, 4, 5, 6, 7] [5, 7] [[], [], [], [0, 1, 2], [], [4], [0, 1, 2, 3, 4, 5], [0, 1, 2, 3, 4, 5, 6]] (by kernel_rfl) (by kernel_rfl) ?_) | (refine WL.drawn (id := 28) [0, 1, 2, 3, 4, 5, 6] [4] [[], [], [], [2], [0, 2, 3], [0, 1, 2, 3, 4], [0, 1, 2, 3, 4, 5]] (by kernel_rfl) (by kernel_rfl) ?_) | (refine WL.exit ?_) | (refine WL.ret ?_) | (refine kCond ?_; first | (refine WL.condF rfl ?_) | (refine WL.condT' rfl ?_ ?_; (focus (first | (simp only [decide_eq_true_eq, decide_eq_false_iff_not, Bool.not_eq_true', Bool.not_eq_false', Int.ofNat_lt, Int.ofNat_le, Int.ofNat_inj, not_true_eq_false, not_false_eq_true]; omega))))))
              | (refine kDr ?_; first | (refine LDr.nil ?_) | (refine LDr.fl rfl rfl (.ev tT_ok rfl) ?_) | (refine kDLoad rfl ?_; first | (refine LDr.fl rfl rfl (AnsL.loadP tT_ok rfl rfl rfl rfl) ?_)) | (refine kDSlc rfl ?_; first | (refine LDr.fl rfl rfl (AnsL.slcStr (n := i) (n2 := k) tT_ok rfl rfl rfl rfl rfl r1 r2 hw) ?_)) | (refine kDCallN 74 rfl ?_; first | (refine LDr.fl rfl rfl (AnsL.callP rfl rfl rfl (ok74) (hT _)) ?_)) | (refine LDr.eff rfl rfl rfl ?_))
              | (refine lthen_n ?_)
              | (refine lthen_e ?_)
              | (refine lblock_n ?_)
              | (refine lblock_e ?_)
              | (refine lbackD_e ?_)
              | (refine LPost.r3 (r := .cell 4 58) (r' := .tmp 5) (r'' := .tmp 6) (.inl rfl) (Res1.cell tT_ok rfl rfl rfl rfl) (Res1.tmp rfl) (Res1.tmp rfl) ?_)
              | (refine PureR.mk ?_)
              | (refine And.intro ?_ ?_)
              | (exact StsL.nil)
              | (refine StsL.cons ?_ ?_)
              | (refine StL.fl rfl rfl (.ev tT_ok rfl))
              | (refine StL.fl rfl rfl (AnsL.slcStr (n := i) (n2 := k) tT_ok rfl rfl rfl rfl rfl r1 r2 hw))
            rfl
          · skip
            repeat' first
              | (refine kOps ?_; first | (refine LOps.nil ?_) | (refine kG ?_; first | (refine LOps.gF rfl rfl rfl ?_) | (refine LOps.gD false rfl rfl rfl ?_ ?_; (focus (first | (exact decide_eq_false (by assumption)))))) | (refine kStore ?_; refine LOps.storeP tT_ok rfl rfl rfl rfl rfl rfl rfl rfl rfl ?_) | (refine LOps.ev tT_ok rfl ?_) | (refine kLoad ?_; first | (refine LOps.ans (AnsL.loadP tT_ok rfl rfl rfl rfl) ?_)) | (refine kCallN 69 ?_; first | (refine LOps.ans (AnsL.callP rfl rfl rfl (ok69) (hF _)) ?_)) | (refine kCallN 70 ?_; first | (refine LOps.ans (AnsL.callP rfl rfl rfl (ok70) (hK _)) ?_)) | (refine kCallN 71 ?_; first | (refine LOps.ans (AnsL.callP rfl rfl rfl (ok71) (hFo _)) ?_)))
              | (refine kWL ?_; first | (refine WL.seq ?_) | (refine WL.region (by kernel_rfl) ?_) | (refine WL.drawn (id := 15) [0, 1, 2, 3, 4, 5, 6, 7] [5, 7] [[], [], [], [0, 1, 2], [], [4], [0, 1, 2, 3, 4, 5], [0, 1, 2, 3, 4, 5, 6]] (by kernel_rfl) (by kernel_rfl) ?_) | (refine WL.drawn (id := 28) [0, 1, 2, 3, 4, 5, 6] [4] [[], [], [], [2], [0, 2, 3], [0, 1, 2, 3, 4], [0, 1, 2, 3, 4, 5]] (by kernel_rfl) (by kernel_rfl) ?_) | (refine WL.exit ?_) | (refine WL.ret ?_) | (refine kCond ?_; first | (refine WL.condF rfl ?_) | (refine WL.condT' rfl ?_ ?_; (focus (first | (simp only [decide_eq_true_eq, decide_eq_false_iff_not, Bool.not_eq_true', Bool.not_eq_false', Int.ofNat_lt, Int.ofNat_le, Int.ofNat_inj, not_true_eq_false, not_false_eq_true]; omega))))))
              | (refine kDr ?_; first | (refine LDr.nil ?_) | (refine LDr.fl rfl rfl (.ev tT_ok rfl) ?_) | (refine kDLoad rfl ?_; first | (refine LDr.fl rfl rfl (AnsL.loadP tT_ok rfl rfl rfl rfl) ?_)) | (refine kDSlc rfl ?_; first | (refine LDr.fl rfl rfl (AnsL.slcStr (n := i) (n2 := k) tT_ok rfl rfl rfl rfl rfl r1 r2 hw) ?_)) | (refine kDCallN 74 rfl ?_; first | (refine LDr.fl rfl rfl (AnsL.callP rfl rfl rfl (ok74) (hT _)) ?_)) | (refine LDr.eff rfl rfl rfl ?_))
              | (refine lthen_n ?_)
              | (refine lthen_e ?_)
              | (refine lblock_n ?_)
              | (refine lblock_e ?_)
              | (refine lbackD_e ?_)
              | (refine LPost.r3 (r := .cell 4 58) (r' := .tmp 5) (r'' := .tmp 6) (.inl rfl) (Res1.cell tT_ok rfl rfl rfl rfl) (Res1.tmp rfl) (Res1.tmp rfl) ?_)
              | (refine PureR.mk ?_)
              | (refine And.intro ?_ ?_)
              | (exact StsL.nil)
              | (refine StsL.cons ?_ ?_)
              | (refine StL.fl rfl rfl (.ev tT_ok rfl))
              | (refine StL.fl rfl rfl (AnsL.slcStr (n := i) (n2 := k) tT_ok rfl rfl rfl rfl rfl r1 r2 hw))
            rfl
        · rw [if_neg c4]
          dsimp only [rtV]
          have hT := fun u => implTokenOk_v ⟨2, wordT l i, i⟩ hwl u
          generalize keyI (fold (wordT l i)) = ky at hK c4
          generalize wordT l i = w at hw hK hT ⊢
          rw [hke] at r1 r2 hw ⊢
          generalize tokOk numI ⟨2, w, i⟩ = ok at hT ⊢
          cases ok
          · skip
            repeat' first
              | (refine kOps ?_; first | (refine LOps.nil ?_) | (refine kG ?_; first | (refine LOps.gF rfl rfl rfl ?_) | (refine LOps.gD false rfl rfl rfl ?_ ?_; (focus (first | (exact decide_eq_false (by assumption)))))) | (refine kStore ?_; refine LOps.storeP tT_ok rfl rfl rfl rfl rfl rfl rfl rfl rfl ?_) | (refine LOps.ev tT_ok rfl ?_) | (refine kLoad ?_; first | (refine LOps.ans (AnsL.loadP tT_ok rfl rfl rfl rfl) ?_)) | (refine kCallN 69 ?_; first | (refine LOps.ans (AnsL.callP rfl rfl rfl (ok69) (hF _)) ?_)) | (refine kCallN 70 ?_; first | (refine LOps.ans (AnsL.callP rfl rfl rfl (ok70) (hK _)) ?_)))
              | (refine kWL ?_; first | (refine WL.seq ?_) | (refine WL.region (by kernel_rfl) ?_) | (refine WL.drawn (id := 15) [0, 1, 2, 3, 4, 5, 6, 7] [5, 7] [[], [], [], [0, 1, 2], [], [4], [0, 1, 2, 3, 4, 5], [0, 1, 2, 3, 4, 5, 6]] (by kernel_rfl) (by kernel_rfl) ?_) | (refine WL.drawn (id := 28) [0, 1, 2, 3, 4, 5, 6] [4] [[], [], [], [2], [0, 2, 3], [0, 1, 2, 3, 4], [0, 1, 2, 3, 4, 5]] (by kernel_rfl) (by kernel_rfl) ?_) | (refine WL.exit ?_) | (refine WL.skip ?_) | (refine WL.ret ?_) | (refine kCond ?_; first | (refine WL.condF rfl ?_) | (refine WL.condF' rfl ?_ ?_; (focus (first | (simp only [decide_eq_true_eq, decide_eq_false_iff_not, Bool.not_eq_true', Bool.not_eq_false', Int.ofNat_lt, Int.ofNat_le, Int.ofNat_inj, not_true_eq_false, not_false_eq_true]; omega))))))
              | (refine kDr ?_; first | (refine LDr.nil ?_) | (refine LDr.fl rfl rfl (.ev tT_ok rfl) ?_) | (refine kDLoad rfl ?_; first | (refine LDr.fl rfl rfl (AnsL.loadP tT_ok rfl rfl rfl rfl) ?_)) | (refine kDSlc rfl ?_; first | (refine LDr.fl rfl rfl (AnsL.slcStr (n := i) (n2 := k) tT_ok rfl rfl rfl rfl rfl r1 r2 hw) ?_)) | (refine kDCallN 74 rfl ?_; first | (refine LDr.fl rfl rfl (AnsL.callP rfl rfl rfl (ok74) (hT _)) ?_)) | (refine LDr.eff rfl rfl rfl ?_))
              | (refine lthen_n ?_)
              | (refine lthen_e ?_)
              | (refine lblock_n ?_)
              | (refine lblock_e ?_)
              | (refine lbackD_e ?_)
              | (refine LPost.r3 (r := .cell 4 58) (r' := .tmp 5) (r'' := .tmp 6) (.inl rfl) (Res1.cell tT_ok rfl rfl rfl rfl) (Res1.tmp rfl) (Res1.tmp rfl) ?_)
              | (refine PureR.mk ?_)
              | (refine And.intro ?_ ?_)
              | (exact StsL.nil)
              | (refine StsL.cons ?_ ?_)
              | (refine StL.fl rfl rfl (.ev tT_ok rfl))
              | (refine StL.fl rfl rfl (AnsL.slcStr (n := i) (n2 := k) tT_ok rfl rfl rfl rfl rfl r1 r2 hw))
            rfl
          · skip
            repeat' first
              | (refine kOps ?_; first | (refine LOps.nil ?_) | (refine kG ?_; first | (refine LOps.gF rfl rfl rfl ?_) | (refine LOps.gD false rfl rfl rfl ?_ ?_; (focus (first | (exact decide_eq_false (by assumption)))))) | (refine kStore ?_; refine LOps.storeP tT_ok rfl rfl rfl rfl rfl rfl rfl rfl rfl ?_) | (refine LOps.ev tT_ok rfl ?_) | (refine kLoad ?_; first | (refine LOps.ans (AnsL.loadP tT_ok rfl rfl rfl rfl) ?_)) | (refine kCallN 69 ?_; first | (refine LOps.ans (AnsL.callP rfl rfl rfl (ok69) (hF _)) ?_)) | (refine kCallN 70 ?_; first | (refine LOps.ans (AnsL.callP rfl rfl rfl (ok70) (hK _)) ?_)))
              | (refine kWL ?_; first | (refine WL.seq ?_) | (refine WL.region (by kernel_rfl) ?_) | (refine WL.drawn (id := 15) [0, 1, 2, 3, 4, 5, 6, 7] [5, 7] [[], [], [], [0, 1, 2], [], [4], [0, 1, 2, 3, 4, 5], [0, 1, 2, 3, 4, 5, 6]] (by kernel_rfl) (by kernel_rfl) ?_) | (refine WL.drawn (id := 28) [0, 1, 2, 3, 4, 5, 6] [4] [[], [], [], [2], [0, 2, 3], [0, 1, 2, 3, 4], [0, 1, 2, 3, 4, 5]] (by kernel_rfl) (by kernel_rfl) ?_) | (refine WL.exit ?_) | (refine WL.skip ?_) | (refine WL.ret ?_) | (refine kCond ?_; first | (refine WL.condF rfl ?_) | (refine WL.condF' rfl ?_ ?_; (focus (first | (simp only [decide_eq_true_eq, decide_eq_false_iff_not, Bool.not_eq_true', Bool.not_eq_false', Int.ofNat_lt, Int.ofNat_le, Int.ofNat_inj, not_true_eq_false, not_false_eq_true]; omega))))))
              | (refine kDr ?_; first | (refine LDr.nil ?_) | (refine LDr.fl rfl rfl (.ev tT_ok rfl) ?_) | (refine kDLoad rfl ?_; first | (refine LDr.fl rfl rfl (AnsL.loadP tT_ok rfl rfl rfl rfl) ?_)) | (refine kDSlc rfl ?_; first | (refine LDr.fl rfl rfl (AnsL.slcStr (n := i) (n2 := k) tT_ok rfl rfl rfl rfl rfl r1 r2 hw) ?_)) | (refine kDCallN 74 rfl ?_; first | (refine LDr.fl rfl rfl (AnsL.callP rfl rfl rfl (ok74) (hT _)) ?_)) | (refine LDr.eff rfl rfl rfl ?_))
              | (refine lthen_n ?_)
              | (refine lthen_e ?_)
              | (refine lblock_n ?_)
              | (refine lblock_e ?_)
              | (refine lbackD_e ?_)
              | (refine LPost.r3 (r := .cell 4 58) (r' := .tmp 5) (r'' := .tmp 6) (.inl rfl) (Res1.cell tT_ok rfl rfl rfl rfl) (Res1.tmp rfl) (Res1.tmp rfl) ?_)
              | (refine PureR.mk ?_)
              | (refine And.intro ?_ ?_)
              | (exact StsL.nil)
              | (refine StsL.cons ?_ ?_)
              | (refine StL.fl rfl rfl (.ev tT_ok rfl))
              | (refine StL.fl rfl rfl (AnsL.slcStr (n := i) (n2 := k) tT_ok rfl rfl rfl rfl rfl r1 r2 hw))
            rfl
      · rw [c2] at hF
        have c3 : ¬ ltrI (b.toNat : Int) = true := fun h => fig_ltr c2 h
        unfold oneD
        rw [if_neg c3, if_pos c2]
        dsimp only [rtV]
        have hT := fun u => implTokenOk_v ⟨3, wordT l i, i⟩ hwl u
        generalize wordT l i = w at hw hT ⊢
        rw [hke] at r1 r2 hw ⊢
        generalize tokOk numI ⟨3, w, i⟩ = ok at hT ⊢
        cases ok
        · skip
          repeat' first
            | (refine kOps ?_; first | (refine LOps.nil ?_) | (refine kG ?_; first | (refine LOps.gF rfl rfl rfl ?_) | (refine LOps.gD false rfl rfl rfl ?_ ?_; (focus (first | (exact decide_eq_false (by assumption)))))) | (refine kStore ?_; refine LOps.storeP tT_ok rfl rfl rfl rfl rfl rfl rfl rfl rfl ?_) | (refine LOps.ev tT_ok rfl ?_) | (refine kCallN 69 ?_; first | (refine LOps.ans (AnsL.callP rfl rfl rfl (ok69) (hF _)) ?_)))
            | (refine kWL ?_; first | (refine WL.seq ?_) | (refine WL.region (by kernel_rfl) ?_) | (refine WL.drawn (id := 15) [0, 1, 2, 3, 4, 5, 6, 7] [5, 7] [[], [], [], [0, 1, 2], [], [4], [0, 1, 2, 3, 4, 5], [0, 1, 2, 3, 4, 5, 6]] (by kernel_rfl) (by kernel_rfl) ?_) | (refine WL.drawn (id := 28) [0, 1, 2, 3, 4, 5, 6] [4] [[], [], [], [2], [0, 2, 3], [0, 1, 2, 3, 4], [0, 1, 2, 3, 4, 5]] (by kernel_rfl) (by kernel_rfl) ?_) | (refine WL.exit ?_) | (refine WL.ret ?_) | (refine kCond ?_; first | (refine WL.condT rfl ?_) | (refine WL.condF rfl ?_)))
            | (refine kDr ?_; first | (refine LDr.nil ?_) | (refine LDr.fl rfl rfl (.ev tT_ok rfl) ?_) | (refine kDLoad rfl ?_; first | (refine LDr.fl rfl rfl (AnsL.loadP tT_ok rfl rfl rfl rfl) ?_)) | (refine kDSlc rfl ?_; first | (refine LDr.fl rfl rfl (AnsL.slcStr (n := i) (n2 := k) tT_ok rfl rfl rfl rfl rfl r1 r2 hw) ?_)) | (refine kDCallN 74 rfl ?_; first | (refine LDr.fl rfl rfl (AnsL.callP rfl rfl rfl (ok74) (hT _)) ?_)) | (refine LDr.eff rfl rfl rfl ?_))
            | (refine lthen_n ?_)
            | (refine lthen_e ?_)
            | (refine lblock_n ?_)
            | (refine lblock_e ?_)
            | (refine lbackD_e ?_)
            | (refine LPost.r3 (r := .cell 4 58) (r' := .tmp 5) (r'' := .tmp 6) (.inl rfl) (Res1.cell tT_ok rfl rfl rfl rfl) (Res1.tmp rfl) (Res1.tmp rfl) ?_)
            | (refine PureR.mk ?_)
            | (refine And.intro ?_ ?_)
            | (exact StsL.nil)
            | (refine StsL.cons ?_ ?_)
            | (refine StL.fl rfl rfl (.ev tT_ok rfl))
            | (refine StL.fl rfl rfl (AnsL.slcStr (n := i) (n2 := k) tT_ok rfl rfl rfl rfl rfl r1 r2 hw))
          rfl
        · skip
          repeat' first
            | (refine kOps ?_; first | (refine LOps.nil ?_) | (refine kG ?_; first | (refine LOps.gF rfl rfl rfl ?_) | (refine LOps.gD false rfl rfl rfl ?_ ?_; (focus (first | (exact decide_eq_false (by assumption)))))) | (refine kStore ?_; refine LOps.storeP tT_ok rfl rfl rfl rfl rfl rfl rfl rfl rfl ?_) | (refine LOps.ev tT_ok rfl ?_) | (refine kCallN 69 ?_; first | (refine LOps.ans (AnsL.callP rfl rfl rfl (ok69) (hF _)) ?_)))
            | (refine kWL ?_; first | (refine WL.seq ?_) | (refine WL.region (by kernel_rfl) ?_) | (refine WL.drawn (id := 15) [0, 1, 2, 3, 4, 5, 6, 7] [5, 7] [[], [], [], [0, 1, 2], [], [4], [0, 1, 2, 3, 4, 5], [0, 1, 2, 3, 4, 5, 6]] (by kernel_rfl) (by kernel_rfl) ?_) | (refine WL.drawn (id := 28) [0, 1, 2, 3, 4, 5, 6] [4] [[], [], [], [2], [0, 2, 3], [0, 1, 2, 3, 4], [0, 1, 2, 3, 4, 5]] (by kernel_rfl) (by kernel_rfl) ?_) | (refine WL.exit ?_) | (refine WL.ret ?_) | (refine kCond ?_; first | (refine WL.condT rfl ?_) | (refine WL.condF rfl ?_)))
            | (refine kDr ?_; first | (refine LDr.nil ?_) | (refine LDr.fl rfl rfl (.ev tT_ok rfl) ?_) | (refine kDLoad rfl ?_; first | (refine LDr.fl rfl rfl (AnsL.loadP tT_ok rfl rfl rfl rfl) ?_)) | (refine kDSlc rfl ?_; first | (refine LDr.fl rfl rfl (AnsL.slcStr (n := i) (n2 := k) tT_ok rfl rfl rfl rfl rfl r1 r2 hw) ?_)) | (refine kDCallN 74 rfl ?_; first | (refine LDr.fl rfl rfl (AnsL.callP rfl rfl rfl (ok74) (hT _)) ?_)) | (refine LDr.eff rfl rfl rfl ?_))
            | (refine lthen_n ?_)
            | (refine lthen_e ?_)
            | (refine lblock_n ?_)
            | (refine lblock_e ?_)
            | (refine lbackD_e ?_)
            | (refine LPost.r3 (r := .cell 4 58) (r' := .tmp 5) (r'' := .tmp 6) (.inl rfl) (Res1.cell tT_ok rfl rfl rfl rfl) (Res1.tmp rfl) (Res1.tmp rfl) ?_)
            | (refine PureR.mk ?_)
            | (refine And.intro ?_ ?_)
            | (exact StsL.nil)
            | (refine StsL.cons ?_ ?_)
            | (refine StL.fl rfl rfl (.ev tT_ok rfl))
            | (refine StL.fl rfl rfl (AnsL.slcStr (n := i) (n2 := k) tT_ok rfl rfl rfl rfl rfl r1 r2 hw))
          rfl

end Go.Proofs.YtbnbmcplmipgdaaGreatDoor
