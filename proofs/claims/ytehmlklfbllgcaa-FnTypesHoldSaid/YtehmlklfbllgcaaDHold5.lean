/-
  The law that well-typed operators hold. Own work; no condition.
-/
import Derived.Test.YtehmlklfbllgcaaDHold4
namespace Go.Proofs.Ytehmlklfbllgcaa
open Go
set_option linter.unusedSimpArgs false
set_option linter.unusedVariables false

set_option maxHeartbeats 4000000 in
theorem lawTypesHoldL_v {b : V} (hb : Bytes b) (s : S) : VCalls Try.prog 6 [b] s (fun v _ => v = .bool true) := by
  obtain ⟨c, hbig⟩ := big_v hb
  have hh : Hold s s.next [] := .start _ _
  refine LCalls.body Try.func6 rfl (by kernel_rfl) ?_
  cases c
  · skip
    repeat' first
      | (refine kAlloc ?_ ; refine LOps.allocH tT_ok hh rfl rfl ?_ ; intro s n hh)
      | (refine kStore ?_ ; first | (refine LOps.storeH tT_ok 0 hh rfl rfl rfl rfl rfl rfl rfl rfl rfl ?_ ; intro s hh) | (refine LOps.storeH tT_ok 1 hh rfl rfl rfl rfl rfl rfl rfl rfl rfl ?_ ; intro s hh))
      | (refine kCallN 23 ?_ ; refine LOps.drawAll rfl rfl ok23 hh (specDrawCalc_d hb) ?_ ; intro s x hq hh)
      | (refine kCallN 26 ?_ ; refine LOps.drawV rfl rfl ok26 hh (implCalc_d _ _ _) ?_ ; intro s x hq hh)
      | (refine kOps ?_; first | (refine LOps.nil ?_) | (refine LOps.ev tT_ok rfl ?_) | (refine kLoad ?_; first | (refine LOps.ans (AnsL.loadH tT_ok 0 hh rfl rfl rfl rfl) ?_) | (refine LOps.ans (AnsL.loadH tT_ok 1 hh rfl rfl rfl rfl) ?_) | (refine LOps.ans (AnsL.loadH tT_ok 2 hh rfl rfl rfl rfl) ?_)) | (refine kCallN 11 ?_; first | (refine LOps.ans (AnsL.callP rfl rfl rfl (ok11) (hbig _)) ?_)) | (refine kCallN 24 ?_; first | (refine LOps.ans (AnsL.callP rfl rfl rfl (ok24) (implBinType_t _ _ _ _)) ?_)) | (refine kCallN 25 ?_; first | (refine LOps.ans (AnsL.callP rfl rfl rfl (ok25) (specBinType_t _ _ _ _)) ?_)))
      | (refine kWL ?_; first | (refine WL.seq ?_) | (refine WL.region (by kernel_rfl) ?_) | (refine WL.skip ?_) | (refine kCond ?_; first | (refine WL.condF rfl ?_) | (refine WL.condF' rfl ?_ ?_; (focus (first | (simp <;> fail))))))
      | (refine lthen_n ?_)
    rename_i s0 h0 s1 y hy h1 s2 n2 h2 s3 n3 h3 s4 h4 s5 h5 s6 h6 s7 h7
    obtain ⟨op, A, B⟩ := y
    obtain ⟨w, r⟩ := x
    dsimp only at hq hh ⊢
    have hoA := fun t => specValueOk_v A t
    have hoB := fun t => specValueOk_v B t
    have hfI := fun t => implFitsType_v w (binTy op) t
    have hfS := fun t => specFitsType_v w (binTy op) t
    cases hA : A.ok <;> rw [hA] at hoA
    · have hq : (w, r) = (W0, 1) := by simpa [CalcR, hA] using hq
      injection hq with e1 e2
      subst e1 e2
      repeat' first
        | (refine kOps ?_; first | (refine LOps.nil ?_) | (refine kG ?_; first | (refine LOps.gF rfl rfl rfl ?_)) | (refine LOps.ev tT_ok rfl ?_) | (refine kCallN 27 ?_; first | (refine LOps.ans (AnsL.callP rfl rfl rfl (ok27) (hoA _)) ?_)))
        | (refine kWL ?_; first | (refine WL.seq ?_) | (refine WL.region (by kernel_rfl) ?_) | (refine WL.ret ?_) | (refine kCond ?_; first | (refine WL.condT rfl ?_)))
        | (refine lthen_n ?_)
        | (refine lthen_r ?_)
        | (refine LPost.r1 (r := .tmp 2) (.inl rfl) (Res1.tmp rfl) ?_)
      rfl
    cases hB : B.ok <;> rw [hB] at hoB
    · have hq : (w, r) = (W0, 1) := by simpa [CalcR, hB] using hq
      injection hq with e1 e2
      subst e1 e2
      repeat' first
        | (refine kOps ?_; first | (refine LOps.nil ?_) | (refine kG ?_; first | (refine LOps.gT rfl rfl rfl ?_)) | (refine LOps.ev tT_ok rfl ?_) | (refine kLoad ?_; first | (refine LOps.ans (AnsL.loadH tT_ok 1 hh rfl rfl rfl rfl) ?_)) | (refine kCallN 27 ?_; first | (refine LOps.ans (AnsL.callP rfl rfl rfl (ok27) (hoA _)) ?_) | (refine LOps.ans (AnsL.callP rfl rfl rfl (ok27) (hoB _)) ?_)))
        | (refine kWL ?_; first | (refine WL.seq ?_) | (refine WL.region (by kernel_rfl) ?_) | (refine WL.ret ?_) | (refine kCond ?_; first | (refine WL.condT rfl ?_)))
        | (refine lthen_n ?_)
        | (refine lthen_r ?_)
        | (refine LPost.r1 (r := .tmp 2) (.inl rfl) (Res1.tmp rfl) ?_)
      rfl
    cases hO : binOk op A.kind B.kind
    · have hq : (w, r) = (W0, 1) := by simpa [CalcR, hA, hB, hO] using hq
      injection hq with e1 e2
      subst e1 e2
      have hbt : binT op A.kind B.kind = (0, false) := by simp [binT, hO]
      simp only [hbt]
      repeat' first
        | (refine kOps ?_; first | (refine LOps.nil ?_) | (refine kG ?_; first | (refine LOps.gT rfl rfl rfl ?_)) | (refine LOps.ev tT_ok rfl ?_) | (refine kLoad ?_; first | (refine LOps.ans (AnsL.loadH tT_ok 0 hh rfl rfl rfl rfl) ?_) | (refine LOps.ans (AnsL.loadH tT_ok 1 hh rfl rfl rfl rfl) ?_)) | (refine kCallN 27 ?_; first | (refine LOps.ans (AnsL.callP rfl rfl rfl (ok27) (hoA _)) ?_) | (refine LOps.ans (AnsL.callP rfl rfl rfl (ok27) (hoB _)) ?_)))
        | (refine kWL ?_; first | (refine WL.seq ?_) | (refine WL.region (by kernel_rfl) ?_) | (refine WL.skip ?_) | (refine WL.ret ?_) | (refine kCond ?_; first | (refine WL.condT rfl ?_) | (refine WL.condF rfl ?_)))
        | (refine lthen_n ?_)
        | (refine lthen_r ?_)
        | (refine LPost.r1 (r := .tmp 2) (.inl rfl) (Res1.tmp rfl) ?_)
      all_goals rfl
    · have hq : r ≠ 1 ∧ w.fits (binTy op) = true := by simpa [CalcR, hA, hB, hO] using hq
      obtain ⟨e1, e2⟩ := hq
      rw [e2] at hfI hfS
      have hbt : binT op A.kind B.kind = (binTy op, true) := by simp [binT, hO]
      simp only [hbt]
      repeat' first
        | (refine kOps ?_; first | (refine LOps.nil ?_) | (refine kG ?_; first | (refine LOps.gT rfl rfl rfl ?_) | (refine LOps.gD true rfl rfl rfl ?_ ?_; (focus (first | (simp only [decide_eq_true_eq, decide_eq_false_iff_not, Bool.not_eq_true', Bool.not_eq_false', Int.ofNat_lt, Int.ofNat_le, Int.ofNat_inj, not_true_eq_false, not_false_eq_true]; omega))))) | (refine LOps.ev tT_ok rfl ?_) | (refine kLoad ?_; first | (refine LOps.ans (AnsL.loadH tT_ok 0 hh rfl rfl rfl rfl) ?_) | (refine LOps.ans (AnsL.loadH tT_ok 1 hh rfl rfl rfl rfl) ?_)) | (refine kCallN 27 ?_; first | (refine LOps.ans (AnsL.callP rfl rfl rfl (ok27) (hoA _)) ?_) | (refine LOps.ans (AnsL.callP rfl rfl rfl (ok27) (hoB _)) ?_)) | (refine kCallN 28 ?_; first | (refine LOps.ans (AnsL.callP rfl rfl rfl (ok28) (hfI _)) ?_)) | (refine kCallN 29 ?_; first | (refine LOps.ans (AnsL.callP rfl rfl rfl (ok29) (hfS _)) ?_)))
        | (refine kWL ?_; first | (refine WL.seq ?_) | (refine WL.region (by kernel_rfl) ?_) | (refine WL.skip ?_) | (refine WL.ret ?_) | (refine kCond ?_; first | (refine WL.condF rfl ?_)))
        | (refine lthen_n ?_)
        | (refine LPost.r1 (r := .tmp 2) (.inl rfl) (Res1.tmp rfl) ?_)
      all_goals simp [e1]
  · skip
    repeat' first
      | (refine kOps ?_; first | (refine LOps.nil ?_) | (refine LOps.ev tT_ok rfl ?_) | (refine kCallN 11 ?_; first | (refine LOps.ans (AnsL.callP rfl rfl rfl (ok11) (hbig _)) ?_)))
      | (refine kWL ?_; first | (refine WL.seq ?_) | (refine WL.region (by kernel_rfl) ?_) | (refine WL.ret ?_) | (refine kCond ?_; first | (refine WL.condT rfl ?_)))
      | (refine lthen_n ?_)
      | (refine lthen_r ?_)
      | (refine LPost.r1 (r := .tmp 2) (.inl rfl) (Res1.tmp rfl) ?_)
    rfl

end Go.Proofs.Ytehmlklfbllgcaa
