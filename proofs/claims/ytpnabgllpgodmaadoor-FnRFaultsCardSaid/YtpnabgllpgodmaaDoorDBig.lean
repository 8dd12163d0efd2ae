/-
  Strings of bytes that a law is given. Own work; no condition.
-/
import Derived.Test.YtpnabgllpgodmaaDoorDCur
import Derived.Test.YtpnabgllpgodmaaDoorVRow
namespace Go.Proofs.YtpnabgllpgodmaaDoor
open Go
set_option linter.unusedSimpArgs false
set_option linter.unusedVariables false

theorem bytes_list : ∀ {xs : List V}, (∀ x ∈ xs, ∃ m : Int, x = .int .u8 m) → V.wfL xs = true → ∃ bs : List UInt8, xs = bs.map byteV
  | [], _, _ => ⟨[], rfl⟩
  | x :: xs, h, hw => by
    simp only [V.wfL, Bool.and_eq_true] at hw
    obtain ⟨m, rfl⟩ := h x (by simp)
    obtain ⟨bs, rfl⟩ := bytes_list (xs := xs) (fun y hy => h y (by simp [hy])) hw.2
    have hm := hw.1
    simp only [V.wf, min_u8, max_u8, Bool.and_eq_true, decide_eq_true_eq] at hm
    refine ⟨UInt8.ofNat m.toNat :: bs, ?_⟩
    simp only [List.map_cons, byteV, UInt8.toNat_ofNat']
    congr 2
    omega
theorem bytes_has {P : Program} {n : Nat} {t e : TypeId} {v : V} (ht : P.underlying t = some (.slice e)) (he : P.underlying e = some (.int .u8)) (h : Has P n t v) (hw : v.wf = true) : Bytes v := by
  rcases Has.slice ht h with rfl | ⟨n, xs, rfl, hx⟩
  · exact .inl rfl
  · simp only [V.wf, Bool.and_eq_true, decide_eq_true_eq] at hw
    obtain ⟨bs, rfl⟩ := bytes_list (fun x hx' => Has.int he (hx x hx')) hw.2
    exact .inr ⟨bs, rfl, by simpa using hw.1⟩
theorem big_v {b : V} (hb : Bytes b) : ∃ c : Bool, ∀ s : S, VCalls Tryd.prog 9 [b] s (fun v s' => v = .bool c ∧ s' = s) := by
  rcases hb with rfl | ⟨bs, rfl, hlen⟩
  · refine ⟨false, fun s => ?_⟩
    refine LCalls.pure Tryd.func9 rfl (by kernel_rfl) (by simp) ?_
    repeat' first
      | (refine kOps ?_; first | (refine LOps.nil ?_) | (refine LOps.ev tT_ok rfl ?_) | (refine kLen ?_; first | (refine LOps.ans (AnsL.lenM tT_ok rfl rfl rfl) ?_) | (refine LOps.ans (AnsL.lenS tT_ok rfl rfl rfl rfl) ?_) | (refine LOps.ans (AnsL.lenG tT_ok rfl rfl rfl) ?_)))
      | (refine kWL ?_; first | (refine WL.seq ?_) | (refine WL.region (by kernel_rfl) ?_) | (refine WL.skip ?_) | (refine WL.ret ?_) | (refine kCond ?_; first | (refine WL.condT rfl ?_) | (refine WL.condF rfl ?_) | (refine WL.condT' rfl ?_ ?_; (focus (first | (assumption) | (exact decide_eq_true (by assumption)) | (exact decide_eq_false (by assumption)) | (simp only [decide_eq_true_eq, decide_eq_false_iff_not, Bool.not_eq_true', Bool.not_eq_false', Int.ofNat_lt, Int.ofNat_le, Int.ofNat_inj, not_true_eq_false, not_false_eq_true]; omega) | (simp <;> fail)))) | (refine WL.condF' rfl ?_ ?_; (focus (first | (assumption) | (exact decide_eq_true (by assumption)) | (exact decide_eq_false (by assumption)) | (simp only [decide_eq_true_eq, decide_eq_false_iff_not, Bool.not_eq_true', Bool.not_eq_false', Int.ofNat_lt, Int.ofNat_le, Int.ofNat_inj, not_true_eq_false, not_false_eq_true]; omega) | (simp <;> fail)))) | (refine WL.cond rfl (fun h => ?_) (fun h => ?_))))
      | (refine lthen_n ?_)
      | (refine lthen_r ?_)
      | (refine lback_r ?_)
      | (refine lback_e ?_)
      | (refine lbackD_r ?_)
      | (refine lbackD_e ?_)
      | (refine lbackH_r ?_)
      | (refine lbackH_e ?_)
      | (refine LPost.r1 (r := .tmp 2) (.inl rfl) (Res1.tmp rfl) ?_)
      | (refine PureR.mk ?_)
    rfl
  · refine ⟨decide ((1048576 : Int) < bs.length), fun s => ?_⟩
    refine LCalls.pure Tryd.func9 rfl (by kernel_rfl) (by simp) ?_
    repeat' first
      | (refine kOps ?_; first | (refine LOps.nil ?_) | (refine LOps.ev tT_ok rfl ?_) | (refine kLen ?_; first | (refine LOps.ans (AnsL.lenM tT_ok rfl rfl rfl) ?_) | (refine LOps.ans (AnsL.lenS tT_ok rfl rfl rfl rfl) ?_) | (refine LOps.ans (AnsL.lenG tT_ok rfl rfl rfl) ?_)))
      | (refine kWL ?_; first | (refine WL.seq ?_) | (refine WL.region (by kernel_rfl) ?_) | (refine WL.skip ?_) | (refine WL.ret ?_) | (refine kCond ?_; first | (refine WL.condT rfl ?_) | (refine WL.condF rfl ?_) | (refine WL.condT' rfl ?_ ?_; (focus (first | (assumption) | (exact decide_eq_true (by assumption)) | (exact decide_eq_false (by assumption)) | (simp only [decide_eq_true_eq, decide_eq_false_iff_not, Bool.not_eq_true', Bool.not_eq_false', Int.ofNat_lt, Int.ofNat_le, Int.ofNat_inj, not_true_eq_false, not_false_eq_true]; omega) | (simp <;> fail)))) | (refine WL.condF' rfl ?_ ?_; (focus (first | (assumption) | (exact decide_eq_true (by assumption)) | (exact decide_eq_false (by assumption)) | (simp only [decide_eq_true_eq, decide_eq_false_iff_not, Bool.not_eq_true', Bool.not_eq_false', Int.ofNat_lt, Int.ofNat_le, Int.ofNat_inj, not_true_eq_false, not_false_eq_true]; omega) | (simp <;> fail)))) | (refine WL.cond rfl (fun h => ?_) (fun h => ?_))))
      | (refine lthen_n ?_)
      | (refine lthen_r ?_)
      | (refine lback_r ?_)
      | (refine lback_e ?_)
      | (refine lbackD_r ?_)
      | (refine lbackD_e ?_)
      | (refine lbackH_r ?_)
      | (refine lbackH_e ?_)
      | (refine LPost.r1 (r := .tmp 2) (.inl rfl) (Res1.tmp rfl) ?_)
      | (refine PureR.mk ?_)
    rfl

end Go.Proofs.YtpnabgllpgodmaaDoor
