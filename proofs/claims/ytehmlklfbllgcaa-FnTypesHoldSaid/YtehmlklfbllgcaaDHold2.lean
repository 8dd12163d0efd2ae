/-
  Binary operators on values, what is drawn for them, and the law that well-typed operators hold. Own work; no condition.
-/
import Derived.Test.YtehmlklfbllgcaaDHold
namespace Go.Proofs.Ytehmlklfbllgcaa
open Go
set_option linter.unusedSimpArgs false
set_option linter.unusedVariables false

theorem isNaNI_v (a : Int) (s : S) : VCalls Try.prog 167 [.int .i64 a] s (fun v s' => v = .bool false ∧ s' = s) := by
  refine LCalls.pure Try.func167 rfl (by kernel_rfl) (by simp) ?_
  repeat' first
    | (refine kOps ?_; first | (refine LOps.nil ?_) | (refine LOps.ev tT_ok rfl ?_))
    | (refine kWL ?_; first | (refine WL.seq ?_) | (refine WL.region (by kernel_rfl) ?_) | (refine WL.ret ?_))
    | (refine lthen_n ?_)
    | (refine LPost.r1 (r := .tmp 2) (.inl rfl) (Res1.tmp rfl) ?_)
    | (refine PureR.mk ?_)
  simp
theorem isNaNS_v (a : List UInt8) (s : S) : VCalls Try.prog 168 [.str a] s (fun v s' => v = .bool false ∧ s' = s) := by
  refine LCalls.pure Try.func168 rfl (by kernel_rfl) (by simp) ?_
  repeat' first
    | (refine kOps ?_; first | (refine LOps.nil ?_) | (refine LOps.ev tT_ok rfl ?_))
    | (refine kWL ?_; first | (refine WL.seq ?_) | (refine WL.region (by kernel_rfl) ?_) | (refine WL.ret ?_))
    | (refine lthen_n ?_)
    | (refine LPost.r1 (r := .tmp 2) (.inl rfl) (Res1.tmp rfl) ?_)
    | (refine PureR.mk ?_)
  simp
theorem cmpI_e (a b : Int) : ∃ n : Int, ∀ s, VCalls Try.prog 162 [.int .i64 a, .int .i64 b] s (fun v s' => v = .int .i64 n ∧ s' = s) := by
  by_cases h1 : a < b
  · refine ⟨-1, fun s => ?_⟩
    refine LCalls.pure Try.func162 rfl (by kernel_rfl) (by simp) ?_
    repeat' first
      | (refine kOps ?_; first | (refine LOps.nil ?_) | (refine LOps.ev tT_ok rfl ?_) | (refine kCallN 167 ?_; first | (refine LOps.ans (AnsL.callP rfl rfl rfl (ok167) (isNaNI_v _ _)) ?_)))
      | (refine kWL ?_; first | (refine WL.seq ?_) | (refine WL.region (by kernel_rfl) ?_) | (refine WL.skip ?_) | (refine WL.ret ?_) | (refine kCond ?_; first | (refine WL.condF rfl ?_) | (refine WL.condT' rfl ?_ ?_; (focus (first | (exact decide_eq_true (by assumption)))))))
      | (refine lthen_n ?_)
      | (refine lthen_r ?_)
      | (refine LPost.r1 (r := .tmp 4) (.inl rfl) (Res1.tmp rfl) ?_)
      | (refine PureR.mk ?_)
    rfl
  by_cases h2 : b < a
  · refine ⟨1, fun s => ?_⟩
    refine LCalls.pure Try.func162 rfl (by kernel_rfl) (by simp) ?_
    repeat' first
      | (refine kOps ?_; first | (refine LOps.nil ?_) | (refine LOps.ev tT_ok rfl ?_) | (refine kCallN 167 ?_; first | (refine LOps.ans (AnsL.callP rfl rfl rfl (ok167) (isNaNI_v _ _)) ?_)))
      | (refine kWL ?_; first | (refine WL.seq ?_) | (refine WL.region (by kernel_rfl) ?_) | (refine WL.skip ?_) | (refine WL.ret ?_) | (refine kCond ?_; first | (refine WL.condF rfl ?_) | (refine WL.condT' rfl ?_ ?_; (focus (first | (exact decide_eq_true (by assumption))))) | (refine WL.condF' rfl ?_ ?_; (focus (first | (exact decide_eq_false (by assumption)))))))
      | (refine lthen_n ?_)
      | (refine lthen_r ?_)
      | (refine LPost.r1 (r := .tmp 4) (.inl rfl) (Res1.tmp rfl) ?_)
      | (refine PureR.mk ?_)
    rfl
  · refine ⟨0, fun s => ?_⟩
    refine LCalls.pure Try.func162 rfl (by kernel_rfl) (by simp) ?_
    repeat' first
      | (refine kOps ?_; first | (refine LOps.nil ?_) | (refine LOps.ev tT_ok rfl ?_) | (refine kCallN 167 ?_; first | (refine LOps.ans (AnsL.callP rfl rfl rfl (ok167) (isNaNI_v _ _)) ?_)))
      | (refine kWL ?_; first | (refine WL.seq ?_) | (refine WL.region (by kernel_rfl) ?_) | (refine WL.skip ?_) | (refine WL.ret ?_) | (refine kCond ?_; first | (refine WL.condF rfl ?_) | (refine WL.condF' rfl ?_ ?_; (focus (first | (exact decide_eq_false (by assumption)))))))
      | (refine lthen_n ?_)
      | (refine LPost.r1 (r := .tmp 4) (.inl rfl) (Res1.tmp rfl) ?_)
      | (refine PureR.mk ?_)
    rfl
theorem cmpS_e (a b : List UInt8) : ∃ n : Int, ∀ s, VCalls Try.prog 163 [.str a, .str b] s (fun v s' => v = .int .i64 n ∧ s' = s) := by
  cases h1 : Op.bytesLess a b
  · cases h2 : (!(Op.bytesLess a b || decide (a = b)))
    · refine ⟨0, fun s => ?_⟩
      refine LCalls.pure Try.func163 rfl (by kernel_rfl) (by simp) ?_
      repeat' first
        | (refine kOps ?_; first | (refine LOps.nil ?_) | (refine LOps.ev tT_ok rfl ?_) | (refine kCallN 168 ?_; first | (refine LOps.ans (AnsL.callP rfl rfl rfl (ok168) (isNaNS_v _ _)) ?_)))
        | (refine kWL ?_; first | (refine WL.seq ?_) | (refine WL.region (by kernel_rfl) ?_) | (refine WL.skip ?_) | (refine WL.ret ?_) | (refine kCond ?_; first | (refine WL.condF rfl ?_) | (refine WL.condF' rfl ?_ ?_; (focus (first | (assumption))))))
        | (refine lthen_n ?_)
        | (refine LPost.r1 (r := .tmp 4) (.inl rfl) (Res1.tmp rfl) ?_)
        | (refine PureR.mk ?_)
      rfl
    · refine ⟨1, fun s => ?_⟩
      refine LCalls.pure Try.func163 rfl (by kernel_rfl) (by simp) ?_
      repeat' first
        | (refine kOps ?_; first | (refine LOps.nil ?_) | (refine LOps.ev tT_ok rfl ?_) | (refine kCallN 168 ?_; first | (refine LOps.ans (AnsL.callP rfl rfl rfl (ok168) (isNaNS_v _ _)) ?_)))
        | (refine kWL ?_; first | (refine WL.seq ?_) | (refine WL.region (by kernel_rfl) ?_) | (refine WL.skip ?_) | (refine WL.ret ?_) | (refine kCond ?_; first | (refine WL.condF rfl ?_) | (refine WL.condT' rfl ?_ ?_; (focus (first | (assumption)))) | (refine WL.condF' rfl ?_ ?_; (focus (first | (assumption))))))
        | (refine lthen_n ?_)
        | (refine lthen_r ?_)
        | (refine LPost.r1 (r := .tmp 4) (.inl rfl) (Res1.tmp rfl) ?_)
        | (refine PureR.mk ?_)
      rfl
  · refine ⟨-1, fun s => ?_⟩
    refine LCalls.pure Try.func163 rfl (by kernel_rfl) (by simp) ?_
    repeat' first
      | (refine kOps ?_; first | (refine LOps.nil ?_) | (refine LOps.ev tT_ok rfl ?_) | (refine kCallN 168 ?_; first | (refine LOps.ans (AnsL.callP rfl rfl rfl (ok168) (isNaNS_v _ _)) ?_)))
      | (refine kWL ?_; first | (refine WL.seq ?_) | (refine WL.region (by kernel_rfl) ?_) | (refine WL.skip ?_) | (refine WL.ret ?_) | (refine kCond ?_; first | (refine WL.condF rfl ?_) | (refine WL.condT' rfl ?_ ?_; (focus (first | (assumption))))))
      | (refine lthen_n ?_)
      | (refine lthen_r ?_)
      | (refine LPost.r1 (r := .tmp 4) (.inl rfl) (Res1.tmp rfl) ?_)
      | (refine PureR.mk ?_)
    rfl
def orL : List Int → Int
  | [] => 0
  | x :: xs => if x = 0 then orL xs else x
theorem cmpOr_v (l : List Int) (hl : l.length ≤ 1000) (s : S) : VCalls Try.prog 161 [.sl 0 (l.map iV)] s (fun v s' => v = .int .i64 (orL l) ∧ s' = s) := by
  refine LCalls.pure Try.func161 rfl (by kernel_rfl) (by simp) ?_
  repeat' first
    | (refine kOps ?_; first | (refine LOps.nil ?_) | (refine LOps.ev tT_ok rfl ?_) | (refine kLen ?_; first | (refine LOps.ans (AnsL.lenM tT_ok rfl rfl rfl) ?_)))
    | (refine kWL ?_; first | (refine WL.seq ?_) | (refine WL.region (by kernel_rfl) ?_) | (refine WL.block ?_))
    | (refine lthen_n ?_)
  refine WL.loopD (fun i : Nat => l.length - i) (fun i => [(3, .int .i64 0), (6, .sl 0 (l.map iV)), (7, .int .i64 l.length), (8, .int .i64 (i : Int))]) (fun i => [])
    (fun i => i ≤ l.length ∧ orL l = orL (l.drop i)) 0 0 (by simp) (fun _ => rfl) ⟨rfl, rfl, rfl, rfl, trivial⟩ rfl (fun i hi => ?_) (fun i hi => ?_)
  · simp [UnderK, UnderX, V.under, V.underL]
  obtain ⟨hi, hc⟩ := hi
  rcases Nat.lt_or_ge i l.length with hlt | hge
  · rw [List.drop_eq_getElem_cons hlt, orL] at hc
    have hga : (l.map iV)[i]? = some (iV l[i]) := by simp [hlt]
    generalize l[i] = y at hga hc
    by_cases e : y = 0
    · rw [if_pos e] at hc
      repeat' first
        | (refine kOps ?_; first | (refine LOps.nil ?_) | (refine LOps.ev tT_ok rfl ?_) | (refine kBin ?_; first | (refine LOps.ans (AnsL.add rfl rfl ?_) ?_; (focus (constructor <;> omega)))) | (refine kIdx ?_; first | (refine LOps.ans (AnsL.idx tT_ok rfl rfl rfl rfl rfl hga rfl rfl) ?_)))
        | (refine kWL ?_; first | (refine WL.seq ?_) | (refine WL.region (by kernel_rfl) ?_) | (refine WL.block ?_) | (refine WL.skip ?_) | (refine kCond ?_; first | (refine WL.condT' rfl ?_ ?_; (focus (first | (simp only [decide_eq_true_eq, decide_eq_false_iff_not, Bool.not_eq_true', Bool.not_eq_false', Int.ofNat_lt, Int.ofNat_le, Int.ofNat_inj, not_true_eq_false, not_false_eq_true]; omega)))) | (refine WL.condF' rfl ?_ ?_; (focus (first | (simp only [decide_eq_true_eq, decide_eq_false_iff_not, Bool.not_eq_true', Bool.not_eq_false', Int.ofNat_lt, Int.ofNat_le, Int.ofNat_inj, not_true_eq_false, not_false_eq_true]; omega))))))
        | (refine lthen_n ?_)
        | (refine lblock_n ?_)
      all_goals
        refine lbackD.of (i + 1) ?_ ?_ ?_ ?_
        · first | omega | (refine ⟨?_, ?_⟩; (focus (first | omega | (simp; omega))); (first | omega | (simp_all [hc] <;> fail) | (simp_all [hc]; omega))) | (simp_all [hc] <;> fail) | (simp_all [hc]; omega)
        · first | omega | (simp; omega) | simp_all
        · repeat' first
            | exact SubL.nil
            | (refine SubL.mk rfl ?_ ?_)
            | rfl
            | (simp [hc] <;> fail)
            | (simp [hc]; omega)
        · first | rfl | (simp [hc] <;> fail) | (simp [hc]; omega)
    · rw [if_neg e] at hc
      repeat' first
        | (refine kOps ?_; first | (refine LOps.nil ?_) | (refine LOps.ev tT_ok rfl ?_) | (refine kIdx ?_; first | (refine LOps.ans (AnsL.idx tT_ok rfl rfl rfl rfl rfl hga rfl rfl) ?_)))
        | (refine kWL ?_; first | (refine WL.seq ?_) | (refine WL.region (by kernel_rfl) ?_) | (refine WL.block ?_) | (refine WL.skip ?_) | (refine WL.ret ?_) | (refine kCond ?_; first | (refine WL.condT' rfl ?_ ?_; (focus (first | (simp only [decide_eq_true_eq, decide_eq_false_iff_not, Bool.not_eq_true', Bool.not_eq_false', Int.ofNat_lt, Int.ofNat_le, Int.ofNat_inj, not_true_eq_false, not_false_eq_true]; omega))))))
        | (refine lthen_n ?_)
        | (refine lthen_r ?_)
        | (refine lblock_r ?_)
        | (refine lbackD_r ?_)
        | (refine LPost.r1 (r := .tmp 2) (.inl rfl) (Res1.tmp rfl) ?_)
        | (refine PureR.mk ?_)
      rw [hc]; rfl
  · rw [List.drop_of_length_le hge] at hc
    repeat' first
      | (refine kOps ?_; first | (refine LOps.nil ?_) | (refine LOps.ev tT_ok rfl ?_))
      | (refine kWL ?_; first | (refine WL.seq ?_) | (refine WL.region (by kernel_rfl) ?_) | (refine WL.exit ?_) | (refine WL.ret ?_) | (refine kCond ?_; first | (refine WL.condF' rfl ?_ ?_; (focus (first | (simp only [decide_eq_true_eq, decide_eq_false_iff_not, Bool.not_eq_true', Bool.not_eq_false', Int.ofNat_lt, Int.ofNat_le, Int.ofNat_inj, not_true_eq_false, not_false_eq_true]; omega))))))
      | (refine lthen_n ?_)
      | (refine lthen_e ?_)
      | (refine lblock_e ?_)
      | (refine lbackD_e ?_)
      | (refine LPost.r1 (r := .tmp 2) (.inl rfl) (Res1.tmp rfl) ?_)
      | (refine PureR.mk ?_)
    rw [hc]; rfl
theorem implOrder_e (a b : Val) : ∃ n : Int, ∀ s, VCalls Try.prog 137 [a.toV, b.toV] s (fun v s' => v = .int .i64 n ∧ s' = s) := by
  obtain ⟨n1, h1⟩ := cmpI_e a.kind b.kind
  obtain ⟨n2, h2⟩ := cmpI_e a.num b.num
  obtain ⟨n3, h3⟩ := cmpS_e a.text b.text
  refine ⟨orL [n1, n2, n3], fun s => ?_⟩
  have hO : ∀ t, VCalls Try.prog 161 [.sl 0 [.int .i64 n1, .int .i64 n2, .int .i64 n3]] t (fun v s' => v = .int .i64 (orL [n1, n2, n3]) ∧ s' = t) := fun t => cmpOr_v [n1, n2, n3] (by simp) t
  refine LCalls.pure Try.func137 rfl (by kernel_rfl) (by simp) ?_
  repeat' first
    | (refine kOps ?_; first | (refine LOps.nil ?_) | (refine LOps.ev tT_ok rfl ?_) | (refine kBox ?_; refine LOps.box rfl rfl rfl rfl ?_) | (refine kBsl ?_; first | (refine LOps.bsl tT_ok rfl rfl rfl rfl rfl rfl rfl rfl rfl rfl rfl ?_)))
    | (refine kWL ?_; first | (refine WL.seq ?_) | (refine WL.region (by kernel_rfl) ?_) | (refine WL.drawn (id := 1) [0, 1, 2, 3, 4, 5, 6, 7, 8, 9, 10, 11, 12, 13, 14, 15, 16, 17] [15] [[], [0], [], [2], [0, 1, 2, 3], [], [5], [], [7], [0, 1, 2, 3, 4, 5, 6, 7, 8], [], [10], [], [12], [0, 1, 2, 3, 4, 5, 6, 7, 8, 9, 10, 11, 12, 13], [0, 1, 2, 3, 4, 5, 6, 7, 8, 9, 10, 11, 12, 13, 14], [0, 1, 2, 3, 4, 5, 6, 7, 8, 9, 10, 11, 12, 13, 14, 15], [0, 1, 2, 3, 4, 5, 6, 7, 8, 9, 10, 11, 12, 13, 14, 15, 16]] (by kernel_rfl) (by kernel_rfl) ?_) | (refine WL.ret ?_))
    | (refine kDr ?_; first | (refine LDr.nil ?_) | (refine LDr.fl rfl rfl (.ev tT_ok rfl) ?_) | (refine kDLoad rfl ?_; first | (refine LDr.fl rfl rfl (AnsL.loadP tT_ok rfl rfl rfl rfl) ?_)) | (refine kDCallN 161 rfl ?_; first | (refine LDr.fl rfl rfl (AnsL.callF rfl rfl rfl (ok161) ?_ (hO _)) ?_; (focus (simp <;> fail)))) | (refine kDCallN 162 rfl ?_; first | (refine LDr.fl rfl rfl (AnsL.callP rfl rfl rfl (ok162) (h1 _)) ?_) | (refine LDr.fl rfl rfl (AnsL.callP rfl rfl rfl (ok162) (h2 _)) ?_)) | (refine kDCallN 163 rfl ?_; first | (refine LDr.fl rfl rfl (AnsL.callP rfl rfl rfl (ok163) (h3 _)) ?_)) | (refine LDr.eff rfl rfl rfl ?_))
    | (refine lthen_n ?_)
    | (refine LPost.r1 (r := .tmp 4) (.inl rfl) (Res1.tmp rfl) ?_)
    | (refine PureR.mk ?_)
    | (refine And.intro ?_ ?_)
    | (exact StsL.nil)
  rfl
theorem implcompared_e (op : Int) (a b : Val) : ∃ c : Bool, ∀ s, VCalls Try.prog 86 [.int .i64 op, a.toV, b.toV] s (fun v s' => v = booV c ∧ s' = s) := by
  obtain ⟨n, hn⟩ := implOrder_e a b
  by_cases c3 : op = 3
  · refine ⟨decide (n = 0), fun s => ?_⟩
    refine LCalls.pure Try.func86 rfl (by kernel_rfl) (by simp) ?_
    repeat' first
      | (refine kOps ?_; first | (refine LOps.nil ?_) | (refine kStore ?_; refine LOps.storeP tT_ok rfl rfl rfl rfl rfl rfl rfl rfl rfl ?_) | (refine LOps.ev tT_ok rfl ?_) | (refine kBox ?_; refine LOps.box rfl rfl rfl rfl ?_) | (refine kAlloc ?_; refine LOps.alloc tT_ok rfl rfl rfl rfl ?_) | (refine kLoad ?_; first | (refine LOps.ans (AnsL.loadP tT_ok rfl rfl rfl rfl) ?_)) | (refine kCallN 136 ?_; first | (refine LOps.ans (AnsL.callP rfl rfl rfl (ok136) (implBoolValue_h _ _)) ?_)) | (refine kCallN 137 ?_; first | (refine LOps.ans (AnsL.callP rfl rfl rfl (ok137) (hn _)) ?_)))
      | (refine kWL ?_; first | (refine WL.seq ?_) | (refine WL.region (by kernel_rfl) ?_) | (refine WL.block ?_) | (refine WL.ret ?_) | (refine kCond ?_; first | (refine WL.condT' rfl ?_ ?_; (focus (first | (exact decide_eq_true (by assumption)))))))
      | (refine lthen_n ?_)
      | (refine lthen_r ?_)
      | (refine lblock_r ?_)
      | (refine LPost.r1 (r := .cell 6 45) (.inl rfl) (Res1.cell tT_ok rfl rfl rfl rfl) ?_)
      | (refine PureR.mk ?_)
    rfl
  by_cases c4 : op = 4
  · refine ⟨!decide (n = 0), fun s => ?_⟩
    refine LCalls.pure Try.func86 rfl (by kernel_rfl) (by simp) ?_
    repeat' first
      | (refine kOps ?_; first | (refine LOps.nil ?_) | (refine kStore ?_; refine LOps.storeP tT_ok rfl rfl rfl rfl rfl rfl rfl rfl rfl ?_) | (refine LOps.ev tT_ok rfl ?_) | (refine kBox ?_; refine LOps.box rfl rfl rfl rfl ?_) | (refine kAlloc ?_; refine LOps.alloc tT_ok rfl rfl rfl rfl ?_) | (refine kLoad ?_; first | (refine LOps.ans (AnsL.loadP tT_ok rfl rfl rfl rfl) ?_)) | (refine kCallN 136 ?_; first | (refine LOps.ans (AnsL.callP rfl rfl rfl (ok136) (implBoolValue_h _ _)) ?_)) | (refine kCallN 137 ?_; first | (refine LOps.ans (AnsL.callP rfl rfl rfl (ok137) (hn _)) ?_)))
      | (refine kWL ?_; first | (refine WL.seq ?_) | (refine WL.region (by kernel_rfl) ?_) | (refine WL.block ?_) | (refine WL.ret ?_) | (refine kCond ?_; first | (refine WL.condT' rfl ?_ ?_; (focus (first | (exact decide_eq_true (by assumption))))) | (refine WL.condF' rfl ?_ ?_; (focus (first | (exact decide_eq_false (by assumption)))))))
      | (refine lthen_n ?_)
      | (refine lthen_r ?_)
      | (refine lblock_r ?_)
      | (refine LPost.r1 (r := .cell 6 45) (.inl rfl) (Res1.cell tT_ok rfl rfl rfl rfl) ?_)
      | (refine PureR.mk ?_)
    rfl
  by_cases c5 : op = 5
  · refine ⟨decide (n < 0), fun s => ?_⟩
    refine LCalls.pure Try.func86 rfl (by kernel_rfl) (by simp) ?_
    repeat' first
      | (refine kOps ?_; first | (refine LOps.nil ?_) | (refine kStore ?_; refine LOps.storeP tT_ok rfl rfl rfl rfl rfl rfl rfl rfl rfl ?_) | (refine LOps.ev tT_ok rfl ?_) | (refine kBox ?_; refine LOps.box rfl rfl rfl rfl ?_) | (refine kAlloc ?_; refine LOps.alloc tT_ok rfl rfl rfl rfl ?_) | (refine kLoad ?_; first | (refine LOps.ans (AnsL.loadP tT_ok rfl rfl rfl rfl) ?_)) | (refine kCallN 136 ?_; first | (refine LOps.ans (AnsL.callP rfl rfl rfl (ok136) (implBoolValue_h _ _)) ?_)) | (refine kCallN 137 ?_; first | (refine LOps.ans (AnsL.callP rfl rfl rfl (ok137) (hn _)) ?_)))
      | (refine kWL ?_; first | (refine WL.seq ?_) | (refine WL.region (by kernel_rfl) ?_) | (refine WL.block ?_) | (refine WL.ret ?_) | (refine kCond ?_; first | (refine WL.condT' rfl ?_ ?_; (focus (first | (exact decide_eq_true (by assumption))))) | (refine WL.condF' rfl ?_ ?_; (focus (first | (exact decide_eq_false (by assumption)))))))
      | (refine lthen_n ?_)
      | (refine lthen_r ?_)
      | (refine lblock_r ?_)
      | (refine LPost.r1 (r := .cell 6 45) (.inl rfl) (Res1.cell tT_ok rfl rfl rfl rfl) ?_)
      | (refine PureR.mk ?_)
    rfl
  by_cases c6 : op = 6
  · refine ⟨decide (n ≤ 0), fun s => ?_⟩
    refine LCalls.pure Try.func86 rfl (by kernel_rfl) (by simp) ?_
    repeat' first
      | (refine kOps ?_; first | (refine LOps.nil ?_) | (refine kStore ?_; refine LOps.storeP tT_ok rfl rfl rfl rfl rfl rfl rfl rfl rfl ?_) | (refine LOps.ev tT_ok rfl ?_) | (refine kBox ?_; refine LOps.box rfl rfl rfl rfl ?_) | (refine kAlloc ?_; refine LOps.alloc tT_ok rfl rfl rfl rfl ?_) | (refine kLoad ?_; first | (refine LOps.ans (AnsL.loadP tT_ok rfl rfl rfl rfl) ?_)) | (refine kCallN 136 ?_; first | (refine LOps.ans (AnsL.callP rfl rfl rfl (ok136) (implBoolValue_h _ _)) ?_)) | (refine kCallN 137 ?_; first | (refine LOps.ans (AnsL.callP rfl rfl rfl (ok137) (hn _)) ?_)))
      | (refine kWL ?_; first | (refine WL.seq ?_) | (refine WL.region (by kernel_rfl) ?_) | (refine WL.block ?_) | (refine WL.ret ?_) | (refine kCond ?_; first | (refine WL.condT' rfl ?_ ?_; (focus (first | (exact decide_eq_true (by assumption))))) | (refine WL.condF' rfl ?_ ?_; (focus (first | (exact decide_eq_false (by assumption)))))))
      | (refine lthen_n ?_)
      | (refine lthen_r ?_)
      | (refine lblock_r ?_)
      | (refine LPost.r1 (r := .cell 6 45) (.inl rfl) (Res1.cell tT_ok rfl rfl rfl rfl) ?_)
      | (refine PureR.mk ?_)
    rfl
  by_cases c7 : op = 7
  · refine ⟨decide (0 < n), fun s => ?_⟩
    refine LCalls.pure Try.func86 rfl (by kernel_rfl) (by simp) ?_
    repeat' first
      | (refine kOps ?_; first | (refine LOps.nil ?_) | (refine kStore ?_; refine LOps.storeP tT_ok rfl rfl rfl rfl rfl rfl rfl rfl rfl ?_) | (refine LOps.ev tT_ok rfl ?_) | (refine kBox ?_; refine LOps.box rfl rfl rfl rfl ?_) | (refine kAlloc ?_; refine LOps.alloc tT_ok rfl rfl rfl rfl ?_) | (refine kLoad ?_; first | (refine LOps.ans (AnsL.loadP tT_ok rfl rfl rfl rfl) ?_)) | (refine kCallN 136 ?_; first | (refine LOps.ans (AnsL.callP rfl rfl rfl (ok136) (implBoolValue_h _ _)) ?_)) | (refine kCallN 137 ?_; first | (refine LOps.ans (AnsL.callP rfl rfl rfl (ok137) (hn _)) ?_)))
      | (refine kWL ?_; first | (refine WL.seq ?_) | (refine WL.region (by kernel_rfl) ?_) | (refine WL.block ?_) | (refine WL.ret ?_) | (refine kCond ?_; first | (refine WL.condT' rfl ?_ ?_; (focus (first | (exact decide_eq_true (by assumption))))) | (refine WL.condF' rfl ?_ ?_; (focus (first | (exact decide_eq_false (by assumption)))))))
      | (refine lthen_n ?_)
      | (refine lthen_r ?_)
      | (refine lblock_r ?_)
      | (refine LPost.r1 (r := .cell 6 45) (.inl rfl) (Res1.cell tT_ok rfl rfl rfl rfl) ?_)
      | (refine PureR.mk ?_)
    rfl
  · refine ⟨decide (0 ≤ n), fun s => ?_⟩
    refine LCalls.pure Try.func86 rfl (by kernel_rfl) (by simp) ?_
    repeat' first
      | (refine kOps ?_; first | (refine LOps.nil ?_) | (refine kStore ?_; refine LOps.storeP tT_ok rfl rfl rfl rfl rfl rfl rfl rfl rfl ?_) | (refine LOps.ev tT_ok rfl ?_) | (refine kBox ?_; refine LOps.box rfl rfl rfl rfl ?_) | (refine kAlloc ?_; refine LOps.alloc tT_ok rfl rfl rfl rfl ?_) | (refine kLoad ?_; first | (refine LOps.ans (AnsL.loadP tT_ok rfl rfl rfl rfl) ?_)) | (refine kCallN 136 ?_; first | (refine LOps.ans (AnsL.callP rfl rfl rfl (ok136) (implBoolValue_h _ _)) ?_)) | (refine kCallN 137 ?_; first | (refine LOps.ans (AnsL.callP rfl rfl rfl (ok137) (hn _)) ?_)))
      | (refine kWL ?_; first | (refine WL.seq ?_) | (refine WL.region (by kernel_rfl) ?_) | (refine WL.block ?_) | (refine WL.skip ?_) | (refine WL.ret ?_) | (refine kCond ?_; first | (refine WL.condF' rfl ?_ ?_; (focus (first | (exact decide_eq_false (by assumption)))))))
      | (refine lthen_n ?_)
      | (refine lblock_n ?_)
      | (refine LPost.r1 (r := .cell 6 45) (.inl rfl) (Res1.cell tT_ok rfl rfl rfl rfl) ?_)
      | (refine PureR.mk ?_)
    rfl

end Go.Proofs.Ytehmlklfbllgcaa
