/-
  Rows in memory of one's own, turned round and sorted by insertion. Own work; no condition.
-/
import Derived.Test.YtkkifdgnebbghaaDStabS
namespace Go.Proofs.Ytkkifdgnebbghaa
open Go
set_option linter.unusedSimpArgs false
set_option linter.unusedVariables false

theorem swap_set2 {α : Type} (P Q R : List α) (u w : α) : ((P ++ u :: (Q ++ w :: R)).set (P.length + 1 + Q.length) u).set P.length w = P ++ w :: (Q ++ u :: R) := by
  rw [List.set_comm _ _ (by omega)]
  exact swap_set P Q R u w
structure RSt where
  A : List (List Val)
  U : List (List Val)
  V : List (List Val)
  Z : List (List Val)
set_option maxHeartbeats 2000000 in
theorem rotate_c {A U V Z : List (List Val)} {c l n : Nat} {rest : List Go.Proofs.Ytkkifdgnebbghaa.V} {za zm zb : Int} {f : Go.Proofs.Ytkkifdgnebbghaa.V} (hU : 0 < U.length) (hV : 0 < V.length) (ha : za = (A.length : Int)) (hm : zm = ((A.length + U.length : Nat) : Int)) (hb : zb = ((A.length + U.length + V.length : Nat) : Int)) (hl : n = (A ++ U ++ (V ++ Z)).length) (hbig : n ≤ 1048576) :
    SrtC Try.prog 37 [.slm (.is c) l 0 n, .int .i64 za, .int .i64 zm, .int .i64 zb, f] l rest (A ++ U ++ (V ++ Z)) (fun ys => ys = A ++ V ++ (U ++ Z)) := by
  intro s H hh
  simp only [List.length_append] at hl
  have i1 : zm - za = (U.length : Int) := by omega
  have i2 : zb - zm = (V.length : Int) := by omega
  refine LCalls.body0 Try.func37 rfl (by kernel_rfl) ?_
  repeat' first
    | (refine kOps ?_; first | (refine LOps.nil ?_) | (refine LOps.ev tT_ok rfl ?_) | (refine kBin ?_; first | (refine LOps.ans (AnsL.sub rfl rfl ?_) ?_; (focus (constructor <;> omega)))))
    | (refine kWL ?_; first | (refine WL.seq ?_) | (refine WL.region (by kernel_rfl) ?_) | (refine WL.block ?_))
    | (refine lthen_n ?_)
  refine WL.loopH (fun y : RSt => y.U.length + y.V.length) (fun y => [(0, .slm (.is c) l 0 n), (2, .int .i64 zm), (4, f), (10, .int .i64 (y.U.length : Int)), (11, .int .i64 (y.V.length : Int))]) (fun y => .cell l (rowV (y.A ++ y.U ++ (y.V ++ y.Z)) rest) :: H)
    (fun y => 0 < y.U.length ∧ 0 < y.V.length ∧ zm = ((y.A.length + y.U.length : Nat) : Int) ∧ n = (y.A ++ y.U ++ (y.V ++ y.Z)).length ∧ y.A ++ y.V ++ (y.U ++ y.Z) = A ++ V ++ (U ++ Z)) ⟨A, U, V, Z⟩ ⟨hU, hV, hm, by simp only [List.length_append]; omega, rfl⟩ ⟨rfl, rfl, rfl, by rw [← i1]; rfl, by rw [← i2]; rfl, trivial⟩ hh (Sel.refl _) (fun y s hI hh => ?_)
  obtain ⟨A', U', V', Z'⟩ := y
  obtain ⟨h1, h2, h3, h4, h5⟩ := hI
  dsimp only at h1 h2 h3 h4 h5 hh ⊢
  simp only [List.length_append] at h4
  by_cases hij : U'.length = V'.length
  · have hne : ¬ ((U'.length : Int) ≠ (V'.length : Int)) := by omega
    have hne2 : ((U'.length : Int) = (V'.length : Int)) := by omega
    have hW := @swapRange_c A' U' [] V' Z' c l n rest (zm - U'.length) zm U'.length f hij (by omega) (by simp only [List.length_nil]; omega) rfl (by simp only [List.length_append, List.length_nil]; omega) hbig
    rw [List.nil_append] at hW
    repeat' first
      | (refine kCallN 40 ?_ ; refine LOps.call rfl rfl (appO_nil _) ok40 (hW _ _ hh) (fun v t hv => ?_) ; obtain ⟨rfl, ys, s, rfl, rfl, hh⟩ := hv)
      | (refine kOps ?_; first | (refine LOps.nil ?_) | (refine LOps.ev tT_ok rfl ?_) | (refine kBin ?_; first | (refine LOps.ans (AnsL.sub rfl rfl ?_) ?_; (focus (constructor <;> omega)))))
      | (refine kWL ?_; first | (refine WL.seq ?_) | (refine WL.region (by kernel_rfl) ?_) | (refine WL.exit ?_) | (refine kCond ?_; first | (refine WL.condF' rfl ?_ ?_; (focus (first | (simp only [decide_eq_true_eq, decide_eq_false_iff_not, Bool.not_eq_true', Bool.not_eq_false', Int.ofNat_lt, Int.ofNat_le, Int.ofNat_inj, not_true_eq_false, not_false_eq_true]; omega))))))
      | (refine lthen_n ?_)
      | (refine lthen_e ?_)
      | (refine lblock_e ?_)
      | (refine lbackH_e ?_)
    exact ⟨⟨[], fun σ _ => rfl, rfl, _, s, h5, rfl, hh⟩⟩
  by_cases hgt : V'.length < U'.length
  · have g1 : (U'.length : Int) ≠ (V'.length : Int) := by omega
    have g2 : (U'.length : Int) > (V'.length : Int) := by omega
    have e1 : (U'.take V'.length).length = V'.length := by rw [List.length_take]; omega
    have e2 : (U'.drop V'.length).length = U'.length - V'.length := List.length_drop
    have e3 : U'.take V'.length ++ U'.drop V'.length = U' := List.take_append_drop ..
    generalize U'.take V'.length = U1 at e1 e3
    generalize U'.drop V'.length = U2 at e2 e3
    subst e3
    simp only [List.length_append] at h1 h3 h4 hij hgt g1 g2 e2
    have hW := @swapRange_c A' U1 U2 V' Z' c l n rest (zm - ((U1 ++ U2).length : Int)) zm V'.length f e1 (by simp only [List.length_append]; omega) (by omega) (by omega) (by simp only [List.length_append]; omega) hbig
    have hq : A' ++ (U1 ++ U2) ++ (V' ++ Z') = A' ++ U1 ++ (U2 ++ V' ++ Z') := by simp only [List.append_assoc]
    rw [hq] at hh
    have hlU : (U1 ++ U2).length = U1.length + U2.length := List.length_append
    have g1' : ((U1 ++ U2).length : Int) ≠ (V'.length : Int) := by simp only [List.length_append]; omega
    have g2' : ((U1 ++ U2).length : Int) > (V'.length : Int) := by simp only [List.length_append]; omega
    repeat' first
      | (refine kCallN 40 ?_ ; refine LOps.call rfl rfl (appO_nil _) ok40 (hW _ _ hh) (fun v t hv => ?_) ; obtain ⟨rfl, ys, s, rfl, rfl, hh⟩ := hv)
      | (refine kOps ?_; first | (refine LOps.nil ?_) | (refine LOps.ev tT_ok rfl ?_) | (refine kBin ?_; first | (refine LOps.ans (AnsL.sub rfl rfl ?_) ?_; (focus (constructor <;> omega)))))
      | (refine kWL ?_; first | (refine WL.seq ?_) | (refine WL.region (by kernel_rfl) ?_) | (refine WL.block ?_) | (refine WL.skip ?_) | (refine kCond ?_; first | (refine WL.condT' rfl ?_ ?_; (focus (first | (exact decide_eq_true (by assumption)) | (simp only [decide_eq_true_eq, decide_eq_false_iff_not, Bool.not_eq_true', Bool.not_eq_false', Int.ofNat_lt, Int.ofNat_le, Int.ofNat_inj, not_true_eq_false, not_false_eq_true]; omega))))))
      | (refine lthen_n ?_)
      | (refine lblock_n ?_)
    have hq2 : A' ++ V' ++ (U2 ++ U1 ++ Z') = A' ++ V' ++ U2 ++ (U1 ++ Z') := by simp only [List.append_assoc]
    rw [hq2] at hh
    refine lbackH.of ⟨A' ++ V', U2, U1, Z'⟩ ⟨rfl, rfl, rfl, ?_, ?_, trivial⟩ hh (Sel.refl _) ⟨by dsimp only; omega, by dsimp only; omega, by dsimp only; simp only [List.length_append]; omega, by dsimp only; simp only [List.length_append]; omega, ?_⟩ (by dsimp only; simp only [List.length_append]; omega)
    · have : ((U1 ++ U2).length : Int) - (V'.length : Int) = (U2.length : Int) := by simp only [List.length_append]; omega
      rw [← this]; rfl
    · rw [← e1]; rfl
    · dsimp only; rw [← h5]; simp only [List.append_assoc]
  · have g1 : (U'.length : Int) ≠ (V'.length : Int) := by omega
    have g2 : ¬ (U'.length : Int) > (V'.length : Int) := by omega
    have e1 : (V'.take (V'.length - U'.length)).length = V'.length - U'.length := by rw [List.length_take]; omega
    have e2 : (V'.drop (V'.length - U'.length)).length = U'.length := by rw [List.length_drop]; omega
    have e3 : V'.take (V'.length - U'.length) ++ V'.drop (V'.length - U'.length) = V' := List.take_append_drop ..
    generalize V'.take (V'.length - U'.length) = V1 at e1 e3
    generalize V'.drop (V'.length - U'.length) = V2 at e2 e3
    subst e3
    simp only [List.length_append] at h2 h4 hij hgt g1 g2 e1
    have hW := @swapRange_c A' U' V1 V2 Z' c l n rest (zm - U'.length) (zm + ((V1 ++ V2).length : Int) - U'.length) U'.length f e2.symm (by omega) (by simp only [List.length_append]; omega) rfl (by simp only [List.length_append]; omega) hbig
    have hq : A' ++ U' ++ (V1 ++ V2 ++ Z') = A' ++ U' ++ (V1 ++ V2 ++ Z') := rfl
    have hlV : (V1 ++ V2).length = V1.length + V2.length := List.length_append
    have g1' : (U'.length : Int) ≠ ((V1 ++ V2).length : Int) := by simp only [List.length_append]; omega
    have g2' : ¬ (U'.length : Int) > ((V1 ++ V2).length : Int) := by simp only [List.length_append]; omega
    repeat' first
      | (refine kCallN 40 ?_ ; refine LOps.call rfl rfl (appO_nil _) ok40 (hW _ _ hh) (fun v t hv => ?_) ; obtain ⟨rfl, ys, s, rfl, rfl, hh⟩ := hv)
      | (refine kOps ?_; first | (refine LOps.nil ?_) | (refine LOps.ev tT_ok rfl ?_) | (refine kBin ?_; first | (refine LOps.ans (AnsL.add rfl rfl ?_) ?_; (focus (constructor <;> omega))) | (refine LOps.ans (AnsL.sub rfl rfl ?_) ?_; (focus (constructor <;> omega)))))
      | (refine kWL ?_; first | (refine WL.seq ?_) | (refine WL.region (by kernel_rfl) ?_) | (refine WL.block ?_) | (refine WL.skip ?_) | (refine kCond ?_; first | (refine WL.condT' rfl ?_ ?_; (focus (first | (simp only [decide_eq_true_eq, decide_eq_false_iff_not, Bool.not_eq_true', Bool.not_eq_false', Int.ofNat_lt, Int.ofNat_le, Int.ofNat_inj, not_true_eq_false, not_false_eq_true]; omega)))) | (refine WL.condF' rfl ?_ ?_; (focus (first | (exact decide_eq_false (by assumption)))))))
      | (refine lthen_n ?_)
      | (refine lblock_n ?_)
    have hq2 : A' ++ V2 ++ (V1 ++ U' ++ Z') = A' ++ V2 ++ (V1 ++ (U' ++ Z')) := by simp only [List.append_assoc]
    rw [hq2] at hh
    refine lbackH.of ⟨A', V2, V1, U' ++ Z'⟩ ⟨rfl, rfl, rfl, ?_, ?_, trivial⟩ hh (Sel.refl _) ⟨by dsimp only; omega, by dsimp only; omega, by dsimp only; omega, by dsimp only; simp only [List.length_append]; omega, ?_⟩ (by dsimp only; simp only [List.length_append]; omega)
    · rw [e2]; rfl
    · have : ((V1 ++ V2).length : Int) - (U'.length : Int) = (V1.length : Int) := by simp only [List.length_append]; omega
      rw [← this]; rfl
    · dsimp only; rw [← h5]; simp only [List.append_assoc]


end Go.Proofs.Ytkkifdgnebbghaa
