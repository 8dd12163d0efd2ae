/-
  The texts of the resolver's faults, and the law. Own work; no condition.
-/
import Derived.Test.YtpnabgllpgodmaaDoorDName3
import Derived.Test.YtpnabgllpgodmaaDoorDFam2
namespace Go.Proofs.YtpnabgllpgodmaaDoor
open Go Go.RowKit
set_option linter.unusedSimpArgs false
set_option linter.unusedVariables false

def nameText (l : List UInt8) : List UInt8 := if nameOk l then (if plainN l then l else quoted l) else []
theorem nameOk_len {l : List UInt8} (h : nameOk l = true) : l.length ≤ 20 := by simp only [nameOk, Bool.and_eq_true, decide_eq_true_eq] at h; omega
theorem nameText_len (l : List UInt8) : (nameText l).length ≤ 42 := by
  unfold nameText
  cases h : nameOk l
  · exact Nat.zero_le _
  · have h1 := nameOk_len h
    have h2 := quoted_len l
    cases plainN l
    · show (quoted l).length ≤ 42; omega
    · show l.length ≤ 42; omega
theorem specNameText_v (l : List UInt8) (s : S) : VCalls Tryd.prog 13 [.str l] s (fun v s' => v = .str (nameText l) ∧ s' = s) := by
  have hO := fun t => specNameOk_v l t
  have hP := fun t => specPlainName_v l t
  unfold nameText
  cases ho : nameOk l
  · rw [ho] at hO
    refine LCalls.pure Tryd.func13 rfl (by kernel_rfl) (by simp) ?_
    repeat' first
      | (refine kOps ?_; first | (refine LOps.nil ?_) | (refine LOps.ev tT_ok rfl ?_) | (refine kCallN 18 ?_; first | (refine LOps.ans (AnsL.callP rfl rfl rfl (ok18) (hO _)) ?_)))
      | (refine kWL ?_; first | (refine WL.seq ?_) | (refine WL.region (by kernel_rfl) ?_) | (refine WL.ret ?_) | (refine kCond ?_; first | (refine WL.condT rfl ?_)))
      | (refine lthen_n ?_)
      | (refine lthen_r ?_)
      | (refine LPost.r1 (r := .tmp 2) (.inl rfl) (Res1.tmp rfl) ?_)
      | (refine PureR.mk ?_)
    rfl
  · have hQ := fun t => specl2Quote_v l (nameOk_len ho) t
    rw [ho] at hO
    cases hp : plainN l
    all_goals
      rw [hp] at hP
      refine LCalls.pure Tryd.func13 rfl (by kernel_rfl) (by simp) ?_
      repeat' first
        | (refine kOps ?_; first | (refine LOps.nil ?_) | (refine LOps.ev tT_ok rfl ?_) | (refine kCallN 18 ?_; first | (refine LOps.ans (AnsL.callP rfl rfl rfl (ok18) (hO _)) ?_)) | (refine kCallN 19 ?_; first | (refine LOps.ans (AnsL.callP rfl rfl rfl (ok19) (hP _)) ?_)) | (refine kCallN 20 ?_; first | (refine LOps.ans (AnsL.callP rfl rfl rfl (ok20) (hQ _)) ?_)))
        | (refine kWL ?_; first | (refine WL.seq ?_) | (refine WL.region (by kernel_rfl) ?_) | (refine WL.skip ?_) | (refine WL.ret ?_) | (refine kCond ?_; first | (refine WL.condT rfl ?_) | (refine WL.condF rfl ?_)))
        | (refine lthen_n ?_)
        | (refine lthen_r ?_)
        | (refine LPost.r1 (r := .tmp 2) (.inl rfl) (Res1.tmp rfl) ?_)
        | (refine PureR.mk ?_)
      rfl
theorem implNameText_v (l : List UInt8) (s : S) : VCalls Tryd.prog 14 [.str l] s (fun v s' => v = .str (nameText l) ∧ s' = s) := by
  have hO := fun t => implNameOk_v l t
  have hP := fun t => implPlainName_v l t
  unfold nameText
  cases ho : nameOk l
  · rw [ho] at hO
    refine LCalls.pure Tryd.func14 rfl (by kernel_rfl) (by simp) ?_
    repeat' first
      | (refine kOps ?_; first | (refine LOps.nil ?_) | (refine LOps.ev tT_ok rfl ?_) | (refine kCallN 21 ?_; first | (refine LOps.ans (AnsL.callP rfl rfl rfl (ok21) (hO _)) ?_)))
      | (refine kWL ?_; first | (refine WL.seq ?_) | (refine WL.region (by kernel_rfl) ?_) | (refine WL.block ?_) | (refine WL.ret ?_) | (refine kCond ?_; first | (refine WL.condT rfl ?_)))
      | (refine lthen_n ?_)
      | (refine lthen_r ?_)
      | (refine lblock_r ?_)
      | (refine LPost.r1 (r := .tmp 2) (.inl rfl) (Res1.tmp rfl) ?_)
      | (refine PureR.mk ?_)
    rfl
  · have hQ := fun t => implquoted_v l (nameOk_len ho) t
    rw [ho] at hO
    cases hp : plainN l
    all_goals
      rw [hp] at hP
      refine LCalls.pure Tryd.func14 rfl (by kernel_rfl) (by simp) ?_
      repeat' first
        | (refine kOps ?_; first | (refine LOps.nil ?_) | (refine LOps.ev tT_ok rfl ?_) | (refine kCallN 21 ?_; first | (refine LOps.ans (AnsL.callP rfl rfl rfl (ok21) (hO _)) ?_)) | (refine kCallN 22 ?_; first | (refine LOps.ans (AnsL.callP rfl rfl rfl (ok22) (hP _)) ?_)) | (refine kCallN 23 ?_; first | (refine LOps.ans (AnsL.callP rfl rfl rfl (ok23) (hQ _)) ?_)))
        | (refine kWL ?_; first | (refine WL.seq ?_) | (refine WL.region (by kernel_rfl) ?_) | (refine WL.block ?_) | (refine WL.skip ?_) | (refine WL.ret ?_) | (refine kCond ?_; first | (refine WL.condT rfl ?_) | (refine WL.condF rfl ?_)))
        | (refine lthen_n ?_)
        | (refine lthen_r ?_)
        | (refine lblock_n ?_)
        | (refine lblock_r ?_)
        | (refine LPost.r1 (r := .tmp 2) (.inl rfl) (Res1.tmp rfl) ?_)
        | (refine PureR.mk ?_)
      rfl

def rword (c : Int) : List UInt8 := if c = 0 then [111, 107] else if c = 1 then [116, 97, 98, 108, 101] else if c = 2 then [97, 108, 105, 97, 115] else if c = 3 then [110, 97, 109, 101] else if c = 4 then [109, 97, 110, 121] else if c = 5 then [116, 121, 112, 101] else if c = 6 then [99, 111, 117, 110, 116] else if c = 7 then [115, 116, 97, 114] else if c = 8 then [119, 105, 100, 101] else if c = 9 then [102, 111, 114, 109] else [63]
def rText (x : RFault) : List UInt8 := if x.name = [] then rword x.code else rword x.code ++ [32] ++ nameText x.name
set_option maxHeartbeats 4000000 in
theorem specRFaultText_v (x : RFault) (s : S) : VCalls Tryd.prog 6 [x.toV] s (fun v s' => v = .str (rText x) ∧ s' = s) := by
  obtain ⟨c, m⟩ := x
  have hN := fun t => specNameText_v m t
  have hNl := nameText_len m
  unfold rText
  dsimp only
  change VCalls _ _ [.agg [.int .i64 c, .str m]] s _
  generalize nameText m = D at *
  by_cases hm : m = []
  · subst hm
    rw [if_pos rfl]
    by_cases hc : 0 ≤ c ∧ c ≤ 9
    · have hcc : c = 0 ∨ c = 1 ∨ c = 2 ∨ c = 3 ∨ c = 4 ∨ c = 5 ∨ c = 6 ∨ c = 7 ∨ c = 8 ∨ c = 9 := by omega
      have hI := fun t => specl1In_x c 0 9 t
      rw [show (decide ((0 : Int) ≤ c) && decide (c ≤ 9)) = true by simp; omega] at hI
      rcases hcc with rfl | rfl | rfl | rfl | rfl | rfl | rfl | rfl | rfl | rfl
      all_goals
        refine LCalls.pure Tryd.func6 rfl (by kernel_rfl) (by simp) ?_
        repeat' first
          | (refine kBsl ?_ ; refine LOps.ans (AnsL.bslF tT_ok rfl rfl rfl rfl rfl rfl rfl rfl rfl) ?_)
          | (refine kOps ?_; first | (refine LOps.nil ?_) | (refine LOps.ev tT_ok rfl ?_) | (refine kBox ?_; refine LOps.box rfl rfl rfl rfl ?_) | (refine kLoad ?_; first | (refine LOps.ans (AnsL.loadP tT_ok rfl rfl rfl rfl) ?_)) | (refine kIdx ?_; first | (refine LOps.ans (AnsL.idxZ tT_ok rfl rfl rfl rfl rfl ?_ rfl rfl rfl) ?_; (focus (decide)))) | (refine kCallN 12 ?_; first | (refine LOps.ans (AnsL.callP rfl rfl rfl (ok12) (hI _)) ?_)))
          | (refine kWL ?_; first | (refine WL.seq ?_) | (refine WL.region (by kernel_rfl) ?_) | (refine WL.skip ?_) | (refine WL.ret ?_) | (refine kCond ?_; first | (refine WL.condT rfl ?_) | (refine WL.condF rfl ?_)))
          | (refine lthen_n ?_)
          | (refine LPost.r1 (r := .tmp 2) (.inl rfl) (Res1.tmp rfl) ?_)
          | (refine PureR.mk ?_)
        rfl
    · have hI := fun t => specl1In_x c 0 9 t
      rw [show (decide ((0 : Int) ≤ c) && decide (c ≤ 9)) = false by simp; omega] at hI
      have hw : rword c = [63] := by unfold rword; rw [if_neg (by omega), if_neg (by omega), if_neg (by omega), if_neg (by omega), if_neg (by omega), if_neg (by omega), if_neg (by omega), if_neg (by omega), if_neg (by omega), if_neg (by omega)]
      rw [hw]
      refine LCalls.pure Tryd.func6 rfl (by kernel_rfl) (by simp) ?_
      repeat' first
        | (refine kOps ?_; first | (refine LOps.nil ?_) | (refine LOps.ev tT_ok rfl ?_) | (refine kBox ?_; refine LOps.box rfl rfl rfl rfl ?_) | (refine kLoad ?_; first | (refine LOps.ans (AnsL.loadP tT_ok rfl rfl rfl rfl) ?_)) | (refine kCallN 12 ?_; first | (refine LOps.ans (AnsL.callP rfl rfl rfl (ok12) (hI _)) ?_)))
        | (refine kWL ?_; first | (refine WL.seq ?_) | (refine WL.region (by kernel_rfl) ?_) | (refine WL.skip ?_) | (refine WL.ret ?_) | (refine kCond ?_; first | (refine WL.condF rfl ?_)))
        | (refine lthen_n ?_)
        | (refine LPost.r1 (r := .tmp 2) (.inl rfl) (Res1.tmp rfl) ?_)
        | (refine PureR.mk ?_)
      rfl
  · rw [if_neg hm]
    by_cases hc : 0 ≤ c ∧ c ≤ 9
    · have hcc : c = 0 ∨ c = 1 ∨ c = 2 ∨ c = 3 ∨ c = 4 ∨ c = 5 ∨ c = 6 ∨ c = 7 ∨ c = 8 ∨ c = 9 := by omega
      have hI := fun t => specl1In_x c 0 9 t
      rw [show (decide ((0 : Int) ≤ c) && decide (c ≤ 9)) = true by simp; omega] at hI
      rcases hcc with rfl | rfl | rfl | rfl | rfl | rfl | rfl | rfl | rfl | rfl
      all_goals
        refine LCalls.pure Tryd.func6 rfl (by kernel_rfl) (by simp) ?_
        repeat' first
          | (refine kBsl ?_ ; refine LOps.ans (AnsL.bslF tT_ok rfl rfl rfl rfl rfl rfl rfl rfl rfl) ?_)
          | (refine kOps ?_; first | (refine LOps.nil ?_) | (refine LOps.ev tT_ok rfl ?_) | (refine kBox ?_; refine LOps.box rfl rfl rfl rfl ?_) | (refine kLoad ?_; first | (refine LOps.ans (AnsL.loadP tT_ok rfl rfl rfl rfl) ?_)) | (refine kBin ?_; first | (refine LOps.ans (AnsL.cat rfl rfl ?_) ?_; (focus (exact le_maxLen (by simp <;> omega))))) | (refine kIdx ?_; first | (refine LOps.ans (AnsL.idxZ tT_ok rfl rfl rfl rfl rfl ?_ rfl rfl rfl) ?_; (focus (decide)))) | (refine kCallN 12 ?_; first | (refine LOps.ans (AnsL.callP rfl rfl rfl (ok12) (hI _)) ?_)) | (refine kCallN 13 ?_; first | (refine LOps.ans (AnsL.callP rfl rfl rfl (ok13) (hN _)) ?_)))
          | (refine kWL ?_; first | (refine WL.seq ?_) | (refine WL.region (by kernel_rfl) ?_) | (refine WL.ret ?_) | (refine kCond ?_; first | (refine WL.condT rfl ?_) | (refine WL.condT' rfl ?_ ?_; (focus (first | (simp only [decide_eq_true_eq, decide_eq_false_iff_not, Bool.not_eq_true', Bool.not_eq_false', Int.ofNat_lt, Int.ofNat_le, Int.ofNat_inj, not_true_eq_false, not_false_eq_true]; omega))))))
          | (refine lthen_n ?_)
          | (refine LPost.r1 (r := .tmp 2) (.inl rfl) (Res1.tmp rfl) ?_)
          | (refine PureR.mk ?_)
        rfl
    · have hI := fun t => specl1In_x c 0 9 t
      rw [show (decide ((0 : Int) ≤ c) && decide (c ≤ 9)) = false by simp; omega] at hI
      have hw : rword c = [63] := by unfold rword; rw [if_neg (by omega), if_neg (by omega), if_neg (by omega), if_neg (by omega), if_neg (by omega), if_neg (by omega), if_neg (by omega), if_neg (by omega), if_neg (by omega), if_neg (by omega)]
      rw [hw]
      refine LCalls.pure Tryd.func6 rfl (by kernel_rfl) (by simp) ?_
      repeat' first
        | (refine kOps ?_; first | (refine LOps.nil ?_) | (refine LOps.ev tT_ok rfl ?_) | (refine kBox ?_; refine LOps.box rfl rfl rfl rfl ?_) | (refine kLoad ?_; first | (refine LOps.ans (AnsL.loadP tT_ok rfl rfl rfl rfl) ?_)) | (refine kBin ?_; first | (refine LOps.ans (AnsL.cat rfl rfl ?_) ?_; (focus (exact le_maxLen (by simp <;> omega))))) | (refine kCallN 12 ?_; first | (refine LOps.ans (AnsL.callP rfl rfl rfl (ok12) (hI _)) ?_)) | (refine kCallN 13 ?_; first | (refine LOps.ans (AnsL.callP rfl rfl rfl (ok13) (hN _)) ?_)))
        | (refine kWL ?_; first | (refine WL.seq ?_) | (refine WL.region (by kernel_rfl) ?_) | (refine WL.skip ?_) | (refine WL.ret ?_) | (refine kCond ?_; first | (refine WL.condF rfl ?_) | (refine WL.condT' rfl ?_ ?_; (focus (first | (simp only [decide_eq_true_eq, decide_eq_false_iff_not, Bool.not_eq_true', Bool.not_eq_false', Int.ofNat_lt, Int.ofNat_le, Int.ofNat_inj, not_true_eq_false, not_false_eq_true]; omega))))))
        | (refine lthen_n ?_)
        | (refine LPost.r1 (r := .tmp 2) (.inl rfl) (Res1.tmp rfl) ?_)
        | (refine PureR.mk ?_)
      rfl
set_option maxHeartbeats 4000000 in
theorem implRFaultText_v (x : RFault) (s : S) : VCalls Tryd.prog 8 [x.toV] s (fun v s' => v = .str (rText x) ∧ s' = s) := by
  obtain ⟨c, m⟩ := x
  have hN := fun t => implNameText_v m t
  have hNl := nameText_len m
  unfold rText
  dsimp only
  change VCalls _ _ [.agg [.int .i64 c, .str m]] s _
  generalize nameText m = D at *
  by_cases hm : m = []
  · subst hm
    rw [if_pos rfl]
    by_cases hc : 0 ≤ c ∧ c ≤ 9
    · have hcc : c = 0 ∨ c = 1 ∨ c = 2 ∨ c = 3 ∨ c = 4 ∨ c = 5 ∨ c = 6 ∨ c = 7 ∨ c = 8 ∨ c = 9 := by omega
      rcases hcc with rfl | rfl | rfl | rfl | rfl | rfl | rfl | rfl | rfl | rfl
      all_goals
        refine LCalls.pure Tryd.func8 rfl (by kernel_rfl) (by simp) ?_
        repeat' first
          | (refine kBsl ?_ ; refine LOps.ans (AnsL.bslF tT_ok rfl rfl rfl rfl rfl rfl rfl rfl rfl) ?_)
          | (refine kOps ?_; first | (refine LOps.nil ?_) | (refine kG ?_; first | (refine LOps.gT rfl rfl rfl ?_)) | (refine LOps.ev tT_ok rfl ?_) | (refine kBox ?_; refine LOps.box rfl rfl rfl rfl ?_) | (refine kLoad ?_; first | (refine LOps.ans (AnsL.loadP tT_ok rfl rfl rfl rfl) ?_)) | (refine kLen ?_; first | (refine LOps.ans (AnsL.lenS tT_ok rfl rfl rfl rfl) ?_)) | (refine kIdx ?_; first | (refine LOps.ans (AnsL.idxZ tT_ok rfl rfl rfl rfl rfl ?_ rfl rfl rfl) ?_; (focus (decide)))))
          | (refine kWL ?_; first | (refine WL.seq ?_) | (refine WL.region (by kernel_rfl) ?_) | (refine WL.ret ?_) | (refine kCond ?_; first | (refine WL.condT rfl ?_)))
          | (refine lthen_n ?_)
          | (refine lthen_r ?_)
          | (refine LPost.r1 (r := .tmp 2) (.inl rfl) (Res1.tmp rfl) ?_)
          | (refine PureR.mk ?_)
        rfl
    · 
      have hw : rword c = [63] := by unfold rword; rw [if_neg (by omega), if_neg (by omega), if_neg (by omega), if_neg (by omega), if_neg (by omega), if_neg (by omega), if_neg (by omega), if_neg (by omega), if_neg (by omega), if_neg (by omega)]
      rw [hw]
      by_cases h0 : c ≥ 0
      · have h1 : ¬ c < 10 := by omega
        refine LCalls.pure Tryd.func8 rfl (by kernel_rfl) (by simp) ?_
        repeat' first
          | (refine kBsl ?_ ; refine LOps.ans (AnsL.bslF tT_ok rfl rfl rfl rfl rfl rfl rfl rfl rfl) ?_)
          | (refine kOps ?_; first | (refine LOps.nil ?_) | (refine kG ?_; first | (refine LOps.gT rfl rfl rfl ?_) | (refine LOps.gD true rfl rfl rfl ?_ ?_; (focus (first | (exact decide_eq_true (by assumption)))))) | (refine LOps.ev tT_ok rfl ?_) | (refine kBox ?_; refine LOps.box rfl rfl rfl rfl ?_) | (refine kLoad ?_; first | (refine LOps.ans (AnsL.loadP tT_ok rfl rfl rfl rfl) ?_)) | (refine kLen ?_; first | (refine LOps.ans (AnsL.lenS tT_ok rfl rfl rfl rfl) ?_)))
          | (refine kWL ?_; first | (refine WL.seq ?_) | (refine WL.region (by kernel_rfl) ?_) | (refine WL.skip ?_) | (refine WL.ret ?_) | (refine kCond ?_; first | (refine WL.condT rfl ?_) | (refine WL.condF' rfl ?_ ?_; (focus (first | (exact decide_eq_false (by assumption)))))))
          | (refine lthen_n ?_)
          | (refine lthen_r ?_)
          | (refine LPost.r1 (r := .tmp 2) (.inl rfl) (Res1.tmp rfl) ?_)
          | (refine PureR.mk ?_)
        rfl
      · skip
        refine LCalls.pure Tryd.func8 rfl (by kernel_rfl) (by simp) ?_
        repeat' first
          | (refine kBsl ?_ ; refine LOps.ans (AnsL.bslF tT_ok rfl rfl rfl rfl rfl rfl rfl rfl rfl) ?_)
          | (refine kOps ?_; first | (refine LOps.nil ?_) | (refine kG ?_; first | (refine LOps.gF rfl rfl rfl ?_) | (refine LOps.gD false rfl rfl rfl ?_ ?_; (focus (first | (exact decide_eq_false (by assumption)))))) | (refine LOps.ev tT_ok rfl ?_) | (refine kBox ?_; refine LOps.box rfl rfl rfl rfl ?_) | (refine kLoad ?_; first | (refine LOps.ans (AnsL.loadP tT_ok rfl rfl rfl rfl) ?_)))
          | (refine kWL ?_; first | (refine WL.seq ?_) | (refine WL.region (by kernel_rfl) ?_) | (refine WL.skip ?_) | (refine WL.ret ?_) | (refine kCond ?_; first | (refine WL.condT rfl ?_) | (refine WL.condF rfl ?_)))
          | (refine lthen_n ?_)
          | (refine lthen_r ?_)
          | (refine LPost.r1 (r := .tmp 2) (.inl rfl) (Res1.tmp rfl) ?_)
          | (refine PureR.mk ?_)
        rfl
  · rw [if_neg hm]
    by_cases hc : 0 ≤ c ∧ c ≤ 9
    · have hcc : c = 0 ∨ c = 1 ∨ c = 2 ∨ c = 3 ∨ c = 4 ∨ c = 5 ∨ c = 6 ∨ c = 7 ∨ c = 8 ∨ c = 9 := by omega
      rcases hcc with rfl | rfl | rfl | rfl | rfl | rfl | rfl | rfl | rfl | rfl
      all_goals
        refine LCalls.pure Tryd.func8 rfl (by kernel_rfl) (by simp) ?_
        repeat' first
          | (refine kBsl ?_ ; refine LOps.ans (AnsL.bslF tT_ok rfl rfl rfl rfl rfl rfl rfl rfl rfl) ?_)
          | (refine kOps ?_; first | (refine LOps.nil ?_) | (refine kG ?_; first | (refine LOps.gT rfl rfl rfl ?_)) | (refine LOps.ev tT_ok rfl ?_) | (refine kBox ?_; refine LOps.box rfl rfl rfl rfl ?_) | (refine kLoad ?_; first | (refine LOps.ans (AnsL.loadP tT_ok rfl rfl rfl rfl) ?_)) | (refine kLen ?_; first | (refine LOps.ans (AnsL.lenS tT_ok rfl rfl rfl rfl) ?_)) | (refine kBin ?_; first | (refine LOps.ans (AnsL.cat rfl rfl ?_) ?_; (focus (exact le_maxLen (by simp <;> omega))))) | (refine kIdx ?_; first | (refine LOps.ans (AnsL.idxZ tT_ok rfl rfl rfl rfl rfl ?_ rfl rfl rfl) ?_; (focus (decide)))) | (refine kCallN 14 ?_; first | (refine LOps.ans (AnsL.callP rfl rfl rfl (ok14) (hN _)) ?_)))
          | (refine kWL ?_; first | (refine WL.seq ?_) | (refine WL.region (by kernel_rfl) ?_) | (refine WL.skip ?_) | (refine WL.ret ?_) | (refine kCond ?_; first | (refine WL.condT rfl ?_) | (refine WL.condF' rfl ?_ ?_; (focus (first | (exact decide_eq_false (by assumption)))))))
          | (refine lthen_n ?_)
          | (refine LPost.r1 (r := .tmp 2) (.inl rfl) (Res1.tmp rfl) ?_)
          | (refine PureR.mk ?_)
        rfl
    · 
      have hw : rword c = [63] := by unfold rword; rw [if_neg (by omega), if_neg (by omega), if_neg (by omega), if_neg (by omega), if_neg (by omega), if_neg (by omega), if_neg (by omega), if_neg (by omega), if_neg (by omega), if_neg (by omega)]
      rw [hw]
      by_cases h0 : c ≥ 0
      · have h1 : ¬ c < 10 := by omega
        refine LCalls.pure Tryd.func8 rfl (by kernel_rfl) (by simp) ?_
        repeat' first
          | (refine kBsl ?_ ; refine LOps.ans (AnsL.bslF tT_ok rfl rfl rfl rfl rfl rfl rfl rfl rfl) ?_)
          | (refine kOps ?_; first | (refine LOps.nil ?_) | (refine kG ?_; first | (refine LOps.gT rfl rfl rfl ?_) | (refine LOps.gD true rfl rfl rfl ?_ ?_; (focus (first | (exact decide_eq_true (by assumption)))))) | (refine LOps.ev tT_ok rfl ?_) | (refine kBox ?_; refine LOps.box rfl rfl rfl rfl ?_) | (refine kLoad ?_; first | (refine LOps.ans (AnsL.loadP tT_ok rfl rfl rfl rfl) ?_)) | (refine kLen ?_; first | (refine LOps.ans (AnsL.lenS tT_ok rfl rfl rfl rfl) ?_)) | (refine kBin ?_; first | (refine LOps.ans (AnsL.cat rfl rfl ?_) ?_; (focus (exact le_maxLen (by simp <;> omega))))) | (refine kCallN 14 ?_; first | (refine LOps.ans (AnsL.callP rfl rfl rfl (ok14) (hN _)) ?_)))
          | (refine kWL ?_; first | (refine WL.seq ?_) | (refine WL.region (by kernel_rfl) ?_) | (refine WL.skip ?_) | (refine WL.ret ?_) | (refine kCond ?_; first | (refine WL.condF' rfl ?_ ?_; (focus (first | (exact decide_eq_false (by assumption)))))))
          | (refine lthen_n ?_)
          | (refine LPost.r1 (r := .tmp 2) (.inl rfl) (Res1.tmp rfl) ?_)
          | (refine PureR.mk ?_)
        rfl
      · skip
        refine LCalls.pure Tryd.func8 rfl (by kernel_rfl) (by simp) ?_
        repeat' first
          | (refine kBsl ?_ ; refine LOps.ans (AnsL.bslF tT_ok rfl rfl rfl rfl rfl rfl rfl rfl rfl) ?_)
          | (refine kOps ?_; first | (refine LOps.nil ?_) | (refine kG ?_; first | (refine LOps.gF rfl rfl rfl ?_) | (refine LOps.gD false rfl rfl rfl ?_ ?_; (focus (first | (exact decide_eq_false (by assumption)))))) | (refine LOps.ev tT_ok rfl ?_) | (refine kBox ?_; refine LOps.box rfl rfl rfl rfl ?_) | (refine kLoad ?_; first | (refine LOps.ans (AnsL.loadP tT_ok rfl rfl rfl rfl) ?_)) | (refine kBin ?_; first | (refine LOps.ans (AnsL.cat rfl rfl ?_) ?_; (focus (exact le_maxLen (by simp <;> omega))))) | (refine kCallN 14 ?_; first | (refine LOps.ans (AnsL.callP rfl rfl rfl (ok14) (hN _)) ?_)))
          | (refine kWL ?_; first | (refine WL.seq ?_) | (refine WL.region (by kernel_rfl) ?_) | (refine WL.skip ?_) | (refine WL.ret ?_) | (refine kCond ?_; first | (refine WL.condF rfl ?_) | (refine WL.condF' rfl ?_ ?_; (focus (first | (exact decide_eq_false (by assumption)))))))
          | (refine lthen_n ?_)
          | (refine LPost.r1 (r := .tmp 2) (.inl rfl) (Res1.tmp rfl) ?_)
          | (refine PureR.mk ?_)
        rfl

theorem lawRFaultText_v (x : RFault) (s : S) : VCalls Tryd.prog 3 [x.toV] s (fun v _ => v = .bool true) := by
  refine LCalls.body Tryd.func3 rfl (by kernel_rfl) ?_
  by_cases hb : 1048576 < x.wt
  · skip
    repeat' first
      | (refine kOps ?_; first | (refine LOps.nil ?_) | (refine LOps.ev tT_ok rfl ?_) | (refine kBox ?_; refine LOps.box rfl rfl rfl rfl ?_) | (refine kLoad ?_; first | (refine LOps.ans (AnsL.loadP tT_ok rfl rfl rfl rfl) ?_)) | (refine kCallN 5 ?_; first | (refine LOps.ans (AnsL.callP rfl rfl rfl (ok5) (szRFault_no _ _ ?_ ?_ ?_ _)) ?_; (focus (omega)); (focus (omega)); (focus (omega)))))
      | (refine kWL ?_; first | (refine WL.seq ?_) | (refine WL.region (by kernel_rfl) ?_) | (refine WL.ret ?_) | (refine kCond ?_; first | (refine WL.condT rfl ?_)))
      | (refine lthen_n ?_)
      | (refine lthen_r ?_)
      | (refine LPost.r1 (r := .tmp 2) (.inl rfl) (Res1.tmp rfl) ?_)
    rfl
  repeat' first
    | (refine kOps ?_; first | (refine LOps.nil ?_) | (refine LOps.ev tT_ok rfl ?_) | (refine kBox ?_; refine LOps.box rfl rfl rfl rfl ?_) | (refine kLoad ?_; first | (refine LOps.ans (AnsL.loadP tT_ok rfl rfl rfl rfl) ?_)) | (refine kCallN 5 ?_; first | (refine LOps.ans (AnsL.callP rfl rfl rfl (ok5) (szRFault_ok _ _ ?_ ?_ _)) ?_; (focus (omega)); (focus (omega)))) | (refine kCallN 6 ?_; first | (refine LOps.ans (AnsL.callP rfl rfl rfl (ok6) (specRFaultText_v x _)) ?_)) | (refine kCallN 7 ?_; first | (refine LOps.ans (AnsL.callP rfl rfl rfl (ok7) (toRFault_v _ ?_ _)) ?_; (focus (omega)))) | (refine kCallN 8 ?_; first | (refine LOps.ans (AnsL.callP rfl rfl rfl (ok8) (implRFaultText_v x _)) ?_)))
    | (refine kWL ?_; first | (refine WL.seq ?_) | (refine WL.region (by kernel_rfl) ?_) | (refine WL.skip ?_) | (refine WL.ret ?_) | (refine kCond ?_; first | (refine WL.condF' rfl ?_ ?_; (focus (first | (simp only [decide_eq_true_eq, decide_eq_false_iff_not, Bool.not_eq_true', Bool.not_eq_false', Int.ofNat_lt, Int.ofNat_le, Int.ofNat_inj, not_true_eq_false, not_false_eq_true]; omega) | (simp <;> fail))))))
    | (refine lthen_n ?_)
    | (refine LPost.r1 (r := .tmp 2) (.inl rfl) (Res1.tmp rfl) ?_)
  rfl

end Go.Proofs.YtpnabgllpgodmaaDoor
