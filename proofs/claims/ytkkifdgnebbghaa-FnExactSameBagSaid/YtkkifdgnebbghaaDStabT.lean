/-
  Rows copied and sorted: the library's stable sort, and the program's SortRows. Own work; no condition.
-/
import Derived.Test.YtkkifdgnebbghaaDStabO3
import Derived.Test.YtkkifdgnebbghaaDStabJ
namespace Go.Proofs.Ytkkifdgnebbghaa
open Go
set_option linter.unusedSimpArgs false
set_option linter.unusedVariables false

structure TSt where
  D : List (List Val)
  R : List (List Val)
set_option maxHeartbeats 4000000 in
theorem stable_c {X : List (List Val)} {c l n : Nat} {rest : List V} (hl : n = X.length) (hbig : n ≤ 1048576) (hrow : ∀ x ∈ X, x.length ≤ 1048576) :
    SrtC Try.prog 29 [.slm (.is c) l 0 n, .int .i64 (n : Int), .fn 25 []] l rest X (fun ys => ys.Perm X ∧ Srt cRow ys) := by
  intro s H hh
  refine LCalls.body0 Try.func29 rfl (by kernel_rfl) ?_
  repeat' first
    | (refine kOps ?_; first | (refine LOps.nil ?_) | (refine LOps.ev tT_ok rfl ?_))
    | (refine kWL ?_; first | (refine WL.seq ?_) | (refine WL.region (by kernel_rfl) ?_) | (refine WL.block ?_))
    | (refine lthen_n ?_)
  -- blocks of twenty
  refine WL.loopH (fun y : TSt => y.R.length) (fun y => [(0, .slm (.is c) l 0 n), (1, .int .i64 (n : Int)), (2, .fn 25 []), (6, .int .i64 20), (7, .int .i64 (y.D.length : Int)), (8, .int .i64 ((y.D.length + 20 : Nat) : Int))]) (fun y => .cell l (rowV (y.D ++ y.R) rest) :: H)
    (fun y => Fb cRow 20 y.D ∧ (y.D ++ y.R).Perm X) ⟨[], X⟩ ⟨.nil, .refl _⟩ ⟨rfl, rfl, rfl, rfl, rfl, rfl, trivial⟩ hh (Sel.refl _) (fun y s hI hh => ?_)
  obtain ⟨D, R⟩ := y
  obtain ⟨g1, g2⟩ := hI
  dsimp only at g1 g2 hh ⊢
  have hDR := g2.length_eq
  rw [List.length_append] at hDR
  have hrw : ∀ x ∈ D ++ R, x.length ≤ 1048576 := fun x hx => hrow x (g2.subset hx)
  rcases Nat.lt_or_ge R.length 20 with hlt | hge
  · have c1 : ¬ ((D.length + 20 : Nat) : Int) ≤ (n : Int) := by omega
    have hI1 := @insertion_c D R [] c l n rest (D.length : Int) (n : Int) rfl (by omega) (by simp only [List.length_append, List.length_nil]; omega) hbig (fun x hx => hrw x (List.mem_append_right _ hx))
    rw [List.append_nil] at hI1
    repeat' first
      | (refine kCallN 32 ?_ ; refine LOps.call rfl rfl (appO_nil _) ok32 (hI1 _ _ hh) (fun v t hv => ?_) ; obtain ⟨rfl, ys, s, ⟨R', rfl, p1, w1⟩, rfl, hh⟩ := hv)
      | (refine kOps ?_; first | (refine LOps.nil ?_) | (refine LOps.ev tT_ok rfl ?_))
      | (refine kWL ?_; first | (refine WL.seq ?_) | (refine WL.region (by kernel_rfl) ?_) | (refine WL.block ?_) | (refine WL.exit ?_) | (refine kCond ?_; first | (refine WL.condF' rfl ?_ ?_; (focus (first | (exact decide_eq_false (by assumption)))))))
      | (refine lthen_n ?_)
      | (refine lthen_e ?_)
      | (refine lblock_e ?_)
      | (refine lbackH_e ?_)
    rw [List.append_nil] at hh
    have hB : Bk cRow 20 (D ++ R') := g1.bk (.one w1 (by rw [p1.length_eq]; omega))
    have hP : (D ++ R').Perm X := (List.Perm.append_left D p1).trans g2
    -- the merging
    refine WL.loopH (fun y : Nat × List (List Val) => n - y.1) (fun y => [(0, .slm (.is c) l 0 n), (1, .int .i64 (n : Int)), (2, .fn 25 []), (6, .int .i64 (y.1 : Int))]) (fun y => .cell l (rowV y.2 rest) :: H)
      (fun y => 0 < y.1 ∧ y.1 ≤ 2097152 ∧ Bk cRow y.1 y.2 ∧ y.2.Perm X) (20, D ++ R') ⟨by dsimp only; omega, by dsimp only; omega, hB, hP⟩ ⟨rfl, rfl, rfl, rfl, trivial⟩ hh (Sel.refl _) (fun y s hI hh => ?_)
    obtain ⟨B, Y⟩ := y
    obtain ⟨b0, b1, b2, b3⟩ := hI
    dsimp only at b0 b1 b2 b3 hh ⊢
    have hYl := b3.length_eq
    by_cases hBn : B < n
    · have c2 : (B : Int) < (n : Int) := by omega
      have h2B : 2 * (B : Int) = ((0 + (B + B) : Nat) : Int) := by omega
      repeat' first
        | (refine kOps ?_; first | (refine LOps.nil ?_) | (refine LOps.ev tT_ok rfl ?_) | (refine kBin ?_; first | (refine LOps.ans (AnsL.mul rfl rfl ?_) ?_; (focus (constructor <;> omega)))))
        | (refine kWL ?_; first | (refine WL.seq ?_) | (refine WL.region (by kernel_rfl) ?_) | (refine WL.block ?_) | (refine WL.skip ?_) | (refine kCond ?_; first | (refine WL.condT' rfl ?_ ?_; (focus (first | (exact decide_eq_true (by assumption)))))))
        | (refine lthen_n ?_)
      refine WL.loopH (fun y : TSt => y.R.length) (fun y => [(0, .slm (.is c) l 0 n), (1, .int .i64 (n : Int)), (2, .fn 25 []), (6, .int .i64 (B : Int)), (7, .int .i64 (y.D.length : Int)), (8, .int .i64 ((y.D.length + (B + B) : Nat) : Int))]) (fun y => .cell l (rowV (y.D ++ y.R) rest) :: H)
        (fun y => Fb cRow (B + B) y.D ∧ Bk cRow B y.R ∧ (y.D ++ y.R).Perm X) ⟨[], Y⟩ ⟨.nil, b2, b3⟩ ⟨rfl, rfl, rfl, rfl, rfl, by dsimp only [List.length_nil]; rw [← h2B]; rfl, trivial⟩ hh (Sel.refl _) (fun y s hI hh => ?_)
      obtain ⟨D2, R2⟩ := y
      obtain ⟨f1, f2, f3⟩ := hI
      dsimp only at f1 f2 f3 hh ⊢
      have hl3 := f3.length_eq
      rw [List.length_append] at hl3
      have hrw3 : ∀ x ∈ D2 ++ R2, x.length ≤ 1048576 := fun x hx => hrow x (f3.subset hx)
      obtain ⟨zd, hzd⟩ : ∃ zd : Int, (D2.length : Int) = zd := ⟨_, rfl⟩
      obtain ⟨zt, hzt⟩ : ∃ zt : Int, ((D2.length + (B + B) : Nat) : Int) = zt := ⟨_, rfl⟩
      rcases Nat.lt_or_ge R2.length (B + B) with hlt2 | hge2
      · have c3 : ¬ zt ≤ (n : Int) := by omega
        by_cases hrest : B < R2.length
        · obtain ⟨W, S2, rfl, lW, sW, bS⟩ := f2.take b0 hrest
          rw [List.length_append] at hl3 hlt2 hrest
          have sS := bS.short (by omega)
          have hS1 := sym_all _ D2 W S2 [] c l n rest zd (zd + (B : Int)) (n : Int) (Nat.le_refl _) (by omega) (by omega) hzd.symm (by omega) (by omega) (by simp only [List.length_append, List.length_nil]; omega) hbig (fun x hx => hrw3 x (List.mem_append_right _ hx)) sW sS
          have q1 : D2 ++ (W ++ S2) = D2 ++ W ++ (S2 ++ []) := by simp only [List.append_assoc, List.append_nil]
          have c4 : zd + (B : Int) < (n : Int) := by omega
          rw [q1] at hh
          rw [hzd, hzt]
          repeat' first
            | (refine kCallN 33 ?_ ; refine LOps.call rfl rfl (appO_nil _) ok33 (hS1 _ _ hh) (fun v t hv => ?_) ; obtain ⟨rfl, ys, s, ⟨W', rfl, p1, w1⟩, rfl, hh⟩ := hv)
            | (refine kOps ?_; first | (refine LOps.nil ?_) | (refine LOps.ev tT_ok rfl ?_) | (refine kBin ?_; first | (refine LOps.ans (AnsL.add rfl rfl ?_) ?_; (focus (constructor <;> omega))) | (refine LOps.ans (AnsL.mul rfl rfl ?_) ?_; (focus (constructor <;> omega)))))
            | (refine kWL ?_; first | (refine WL.seq ?_) | (refine WL.region (by kernel_rfl) ?_) | (refine WL.exit ?_) | (refine kCond ?_; first | (refine WL.condT' rfl ?_ ?_; (focus (first | (exact decide_eq_true (by assumption))))) | (refine WL.condF' rfl ?_ ?_; (focus (first | (exact decide_eq_false (by assumption)))))))
            | (refine lthen_n ?_)
            | (refine lthen_e ?_)
            | (refine lblock_n ?_)
            | (refine lblock_e ?_)
            | (refine lbackH_e ?_)
          rw [List.append_nil] at hh
          refine lbackH.of (B + B, D2 ++ W') ⟨rfl, rfl, rfl, ?_, trivial⟩ hh (Sel.refl _) ⟨by dsimp only; omega, by dsimp only; omega, f1.bk (.one w1 (by rw [p1.length_eq, List.length_append]; omega)), (List.Perm.append_left D2 p1).trans f3⟩ (by dsimp only; omega)
          have : (B : Int) * 2 = ((B + B : Nat) : Int) := by omega
          dsimp only
          rw [← this]; rfl
        · have c4 : ¬ zd + (B : Int) < (n : Int) := by omega
          rw [hzd, hzt]
          repeat' first
            | (refine kOps ?_; first | (refine LOps.nil ?_) | (refine LOps.ev tT_ok rfl ?_) | (refine kBin ?_; first | (refine LOps.ans (AnsL.add rfl rfl ?_) ?_; (focus (constructor <;> omega))) | (refine LOps.ans (AnsL.mul rfl rfl ?_) ?_; (focus (constructor <;> omega)))))
            | (refine kWL ?_; first | (refine WL.seq ?_) | (refine WL.region (by kernel_rfl) ?_) | (refine WL.exit ?_) | (refine WL.skip ?_) | (refine kCond ?_; first | (refine WL.condF' rfl ?_ ?_; (focus (first | (exact decide_eq_false (by assumption)))))))
            | (refine lthen_n ?_)
            | (refine lthen_e ?_)
            | (refine lblock_n ?_)
            | (refine lblock_e ?_)
            | (refine lbackH_e ?_)
          refine lbackH.of (B + B, D2 ++ R2) ⟨rfl, rfl, rfl, ?_, trivial⟩ hh (Sel.refl _) ⟨by dsimp only; omega, by dsimp only; omega, f1.bk (.one (f2.short (by omega)) (by omega)), f3⟩ (by dsimp only; omega)
          have : (B : Int) * 2 = ((B + B : Nat) : Int) := by omega
          dsimp only
          rw [← this]; rfl
      · have c3 : zt ≤ (n : Int) := by omega
        obtain ⟨W1, W2, S2, rfl, l1, l2, s1, s2, bS⟩ := f2.two b0 hge2
        simp only [List.length_append] at hl3 hge2
        have hS1 := sym_all _ D2 W1 W2 S2 c l n rest zd (zd + (B : Int)) zt (Nat.le_refl _) (by omega) (by omega) hzd.symm (by omega) (by omega) (by simp only [List.length_append]; omega) hbig (fun x hx => hrw3 x (by simp only [List.mem_append] at hx ⊢; rcases hx with hx | hx; exact .inr (.inl hx); exact .inr (.inr (.inl hx)))) s1 s2
        have q1 : D2 ++ (W1 ++ (W2 ++ S2)) = D2 ++ W1 ++ (W2 ++ S2) := by simp only [List.append_assoc]
        rw [q1] at hh
        rw [hzd, hzt]
        repeat' first
          | (refine kCallN 33 ?_ ; refine LOps.call rfl rfl (appO_nil _) ok33 (hS1 _ _ hh) (fun v t hv => ?_) ; obtain ⟨rfl, ys, s, ⟨W', rfl, p1, w1⟩, rfl, hh⟩ := hv)
          | (refine kOps ?_; first | (refine LOps.nil ?_) | (refine LOps.ev tT_ok rfl ?_) | (refine kBin ?_; first | (refine LOps.ans (AnsL.add rfl rfl ?_) ?_; (focus (constructor <;> omega))) | (refine LOps.ans (AnsL.mul rfl rfl ?_) ?_; (focus (constructor <;> omega)))))
          | (refine kWL ?_; first | (refine WL.seq ?_) | (refine WL.region (by kernel_rfl) ?_) | (refine WL.block ?_) | (refine WL.skip ?_) | (refine kCond ?_; first | (refine WL.condT' rfl ?_ ?_; (focus (first | (exact decide_eq_true (by assumption)))))))
          | (refine lthen_n ?_)
          | (refine lblock_n ?_)
        have lW' : W'.length = B + B := by rw [p1.length_eq, List.length_append]; omega
        refine lbackH.of ⟨D2 ++ W', S2⟩ ⟨rfl, rfl, rfl, rfl, ?_, ?_, trivial⟩ hh (Sel.refl _) ⟨f1.snoc w1 lW', bS, ?_⟩ (by dsimp only; simp only [List.length_append]; omega)
        · dsimp only
          rw [show ((D2 ++ W').length : Int) = zt by rw [List.length_append]; omega]; rfl
        · dsimp only
          rw [show (((D2 ++ W').length + (B + B) : Nat) : Int) = zt + 2 * (B : Int) by rw [List.length_append]; omega]; rfl
        · dsimp only
          refine List.Perm.trans ?_ f3
          rw [List.append_assoc, ← List.append_assoc W1]
          exact List.Perm.append_left _ (List.Perm.append_right _ p1)
    · have c2 : ¬ (B : Int) < (n : Int) := by omega
      repeat' first
        | (refine kOps ?_; first | (refine LOps.nil ?_) | (refine LOps.ev tT_ok rfl ?_))
        | (refine kWL ?_; first | (refine WL.seq ?_) | (refine WL.region (by kernel_rfl) ?_) | (refine WL.exit ?_) | (refine kCond ?_; first | (refine WL.condF' rfl ?_ ?_; (focus (first | (exact decide_eq_false (by assumption)))))))
        | (refine lthen_n ?_)
        | (refine lthen_e ?_)
        | (refine lblock_e ?_)
        | (refine lbackH_e ?_)
      exact ⟨⟨[], fun σ _ => rfl, rfl, Y, s, ⟨b3, b2.short (by omega)⟩, rfl, hh⟩⟩
  · have c1 : ((D.length + 20 : Nat) : Int) ≤ (n : Int) := by omega
    have hR : R.take 20 ++ R.drop 20 = R := List.take_append_drop ..
    have lR : (R.take 20).length = 20 := by rw [List.length_take]; omega
    generalize R.take 20 = R1 at hR lR
    generalize R.drop 20 = R2 at hR
    subst hR
    rw [List.length_append] at hDR
    have hI1 := @insertion_c D R1 R2 c l n rest (D.length : Int) ((D.length + 20 : Nat) : Int) rfl (by omega) (by simp only [List.length_append]; omega) hbig (fun x hx => hrw x (by simp [hx]))
    have q1 : D ++ (R1 ++ R2) = D ++ R1 ++ R2 := by simp only [List.append_assoc]
    rw [q1] at hh
    repeat' first
      | (refine kCallN 32 ?_ ; refine LOps.call rfl rfl (appO_nil _) ok32 (hI1 _ _ hh) (fun v t hv => ?_) ; obtain ⟨rfl, ys, s, ⟨R', rfl, p1, w1⟩, rfl, hh⟩ := hv)
      | (refine kOps ?_; first | (refine LOps.nil ?_) | (refine LOps.ev tT_ok rfl ?_) | (refine kBin ?_; first | (refine LOps.ans (AnsL.add rfl rfl ?_) ?_; (focus (constructor <;> omega)))))
      | (refine kWL ?_; first | (refine WL.seq ?_) | (refine WL.region (by kernel_rfl) ?_) | (refine WL.block ?_) | (refine WL.skip ?_) | (refine kCond ?_; first | (refine WL.condT' rfl ?_ ?_; (focus (first | (exact decide_eq_true (by assumption)))))))
      | (refine lthen_n ?_)
      | (refine lblock_n ?_)
    have lR' : R'.length = 20 := by rw [p1.length_eq]; exact lR
    refine lbackH.of ⟨D ++ R', R2⟩ ⟨rfl, rfl, rfl, rfl, ?_, ?_, trivial⟩ hh (Sel.refl _) ⟨g1.snoc w1 lR', ?_⟩ (by dsimp only; simp only [List.length_append]; omega)
    · dsimp only
      rw [show ((D ++ R').length : Int) = ((D.length + 20 : Nat) : Int) by rw [List.length_append, lR']]; rfl
    · dsimp only
      rw [show (((D ++ R').length + 20 : Nat) : Int) = ((D.length + 20 : Nat) : Int) + 20 by rw [List.length_append, lR']; omega]; rfl
    · dsimp only
      refine List.Perm.trans ?_ g2
      rw [← List.append_assoc]
      exact List.Perm.append_right _ (List.Perm.append_left _ p1)
theorem sortStable_c {X : List (List Val)} {c l n : Nat} {rest : List V} (hl : n = X.length) (hbig : n ≤ 1048576) (hrow : ∀ x ∈ X, x.length ≤ 1048576) :
    SrtC Try.prog 24 [.slm (.is c) l 0 n, .fn 25 []] l rest X (fun ys => ys.Perm X ∧ Srt cRow ys) := by
  intro s H hh
  have hS := @stable_c X c l n rest hl hbig hrow
  refine LCalls.body0 Try.func24 rfl (by kernel_rfl) ?_
  repeat' first
    | (refine kCallN 29 ?_ ; refine LOps.call rfl rfl (appO_nil _) ok29 (hS _ _ hh) (fun v t hv => ?_) ; obtain ⟨rfl, ys, s, hys, rfl, hh⟩ := hv)
    | (refine kOps ?_; first | (refine LOps.nil ?_) | (refine LOps.ev tT_ok rfl ?_))
    | (refine kWL ?_; first | (refine WL.region (by kernel_rfl) ?_))
  exact ⟨⟨[], fun σ _ => rfl, rfl, ys, s, hys, rfl, hh⟩⟩

end Go.Proofs.Ytkkifdgnebbghaa
