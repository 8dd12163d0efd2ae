/-
  The laws of types of plans' trees. Own work; no condition.
-/
import Derived.Test.YtehmlklfbllgcaaGreatDTyI
namespace Go.Proofs.YtehmlklfbllgcaaGreat
open Go
set_option linter.unusedSimpArgs false
set_option linter.unusedVariables false
theorem szIntSL_ok (xs : List Int) (left : Int) (h1 : left ≤ 1048576) (h2 : (xs.length : Int) ≤ left) (s : S) : VCalls Tryz.prog 31 [ints xs, .int .i64 left] s (fun v s' => v = .int .i64 (left - (xs.length : Nat)) ∧ s' = s) := by
  have := (szIntS_r xs).ok (left := left) h1 (by rw [wgt_ints]; exact h2) s
  rw [wgt_ints] at this
  exact this
theorem szIntSL_no (xs : List Int) (left : Int) (h0 : 0 ≤ left) (h1 : left ≤ 1048576) (h2 : left < (xs.length : Int)) (s : S) : VCalls Tryz.prog 31 [ints xs, .int .i64 left] s (fun v s' => v = .int .i64 (-1) ∧ s' = s) :=
  (szIntS_r xs).no (left := left) h0 h1 (by rw [wgt_ints]; exact h2) s
theorem szIntSS_v (xs : List (List Int)) (left : Int) (h0 : 0 ≤ left) (h1 : left ≤ 1048576) (s : S) : VCalls Tryz.prog 7 [.sl 0 (xs.map ints), .int .i64 left] s (fun v s' => v = .int .i64 (szI (slW List.length xs) left) ∧ s' = s) := by
  refine VCalls.wf fun hwf => ?_
  simp only [List.all_cons, List.all_nil, V.wf, Bool.and_true, Bool.and_eq_true, decide_eq_true_eq, List.length_map] at hwf
  have hmx := len_max
  have hln := hwf.1.1
  have hel := wfL_get hwf.1.2
  refine LCalls.pure Tryz.func7 rfl (by kernel_rfl) (by simp) ?_
  by_cases c0 : left - (xs.length : Int) < 0
  · skip
    repeat' first
      | (refine kOps ?_; first | (refine LOps.nil ?_) | (refine LOps.ev tT_ok rfl ?_) | (refine kLen ?_; first | (refine LOps.ans (AnsL.lenM tT_ok rfl rfl rfl) ?_)) | (refine kBin ?_; first | (refine LOps.ans (AnsL.sub rfl rfl ?_) ?_; (focus (constructor <;> omega)))))
      | (refine kWL ?_; first | (refine WL.seq ?_) | (refine WL.region (by kernel_rfl) ?_) | (refine WL.ret ?_) | (refine kCond ?_; first | (refine WL.condT' rfl ?_ ?_; (focus (first | (exact decide_eq_true (by assumption)))))))
      | (refine lthen_n ?_)
      | (refine lthen_r ?_)
      | (refine LPost.r1 (r := .tmp 4) (.inl rfl) (Res1.tmp rfl) ?_)
      | (refine PureR.mk ?_)
    show V.int .i64 (-1) = _; rw [szI_neg (by simp only [slW]; omega)]
  repeat' first
    | (refine kOps ?_; first | (refine LOps.nil ?_) | (refine LOps.ev tT_ok rfl ?_) | (refine kLen ?_; first | (refine LOps.ans (AnsL.lenM tT_ok rfl rfl rfl) ?_)) | (refine kBin ?_; first | (refine LOps.ans (AnsL.sub rfl rfl ?_) ?_; (focus (constructor <;> omega)))))
    | (refine kWL ?_; first | (refine WL.seq ?_) | (refine WL.region (by kernel_rfl) ?_) | (refine WL.block ?_) | (refine WL.skip ?_) | (refine kCond ?_; first | (refine WL.condF' rfl ?_ ?_; (focus (first | (exact decide_eq_false (by assumption)))))))
    | (refine lthen_n ?_)
  refine WL.loopD (fun i : Nat => xs.length - i) (fun i => [(0, .sl 0 (xs.map ints)), (1, .int .i64 (left - xs.length - (sumW List.length (xs.take i) : Nat))), (5, .int .i64 (i : Int))]) (fun i => [])
    (fun i => i ≤ xs.length ∧ 0 ≤ left - (xs.length : Int) - (sumW List.length (xs.take i) : Nat)) 0 0 (by simp [sumW]; omega) (fun _ => rfl) ⟨rfl, by simp [sumW]; rfl, rfl, trivial⟩ rfl (fun i hi => ?_) (fun i hi => ?_)
  · simp [UnderK, UnderX, V.under, V.underL]
  obtain ⟨hi, hi2⟩ := hi
  rcases Nat.lt_or_ge i xs.length with hlt | hge
  · have hs := sumW_take (f := List.length) hlt
    have hm := sumW_take_le List.length xs (i + 1)
    have hwe := hel i hlt
    by_cases c : left - (xs.length : Int) - (sumW List.length (xs.take i) : Nat) - (List.length xs[i] : Nat) < 0
    · skip
      repeat' first
        | (refine kOps ?_; first | (refine LOps.nil ?_) | (refine LOps.ev tT_ok rfl ?_) | (refine kLen ?_; first | (refine LOps.ans (AnsL.lenM tT_ok rfl rfl rfl) ?_)) | (refine kIdx ?_; first | (refine LOps.ans (AnsL.idxA tT_ok rfl rfl rfl rfl rfl (by omega) rfl rfl) ?_)) | (refine kCallN 31 ?_; first | (refine LOps.ans (AnsL.callP rfl rfl rfl (ok31) (szIntSL_no _ _ ?_ ?_ ?_ _)) ?_; (focus (omega)); (focus (omega)); (focus (omega)))))
        | (refine kWL ?_; first | (refine WL.seq ?_) | (refine WL.region (by kernel_rfl) ?_) | (refine WL.block ?_) | (refine WL.skip ?_) | (refine WL.ret ?_) | (refine kCond ?_; first | (refine WL.condT rfl ?_) | (refine WL.condT' rfl ?_ ?_; (focus (first | (simp only [decide_eq_true_eq, decide_eq_false_iff_not, Bool.not_eq_true', Bool.not_eq_false', Int.ofNat_lt, Int.ofNat_le, Int.ofNat_inj, not_true_eq_false, not_false_eq_true]; omega))))))
        | (refine lthen_n ?_)
        | (refine lthen_r ?_)
        | (refine lblock_r ?_)
        | (refine lbackD_r ?_)
        | (refine LPost.r1 (r := .tmp 4) (.inl rfl) (Res1.tmp rfl) ?_)
        | (refine PureR.mk ?_)
      show V.int .i64 (-1) = _; rw [szI_neg (by simp only [slW]; omega)]
    · skip
      repeat' first
        | (refine kOps ?_; first | (refine LOps.nil ?_) | (refine LOps.ev tT_ok rfl ?_) | (refine kLen ?_; first | (refine LOps.ans (AnsL.lenM tT_ok rfl rfl rfl) ?_)) | (refine kBin ?_; first | (refine LOps.ans (AnsL.add rfl rfl ?_) ?_; (focus (constructor <;> omega)))) | (refine kIdx ?_; first | (refine LOps.ans (AnsL.idxA tT_ok rfl rfl rfl rfl rfl (by omega) rfl rfl) ?_)) | (refine kCallN 31 ?_; first | (refine LOps.ans (AnsL.callP rfl rfl rfl (ok31) (szIntSL_ok _ _ ?_ ?_ _)) ?_; (focus (omega)); (focus (omega)))))
        | (refine kWL ?_; first | (refine WL.seq ?_) | (refine WL.region (by kernel_rfl) ?_) | (refine WL.block ?_) | (refine WL.skip ?_) | (refine kCond ?_; first | (refine WL.condT' rfl ?_ ?_; (focus (first | (simp only [decide_eq_true_eq, decide_eq_false_iff_not, Bool.not_eq_true', Bool.not_eq_false', Int.ofNat_lt, Int.ofNat_le, Int.ofNat_inj, not_true_eq_false, not_false_eq_true]; omega)))) | (refine WL.condF' rfl ?_ ?_; (focus (first | (exact decide_eq_false (by assumption)))))))
        | (refine lthen_n ?_)
        | (refine lblock_n ?_)
      all_goals
        refine lbackD.of (i + 1) ?_ ?_ ?_ ?_
        · first | omega | (refine ⟨?_, ?_⟩; (focus (first | omega | (simp; omega))); (first | omega | (simp_all [hs] <;> fail) | (simp_all [hs]; omega))) | (simp_all [hs] <;> fail) | (simp_all [hs]; omega)
        · first | omega | (simp; omega) | simp_all
        · repeat' first
            | exact SubL.nil
            | (refine SubL.mk rfl ?_ ?_)
            | rfl
            | (simp only [hs, List.map_append, List.map_cons, List.map_nil]; rfl)
            | (simp only [hs, List.map_append, List.map_cons, List.map_nil]; simp [hs] <;> fail)
            | (simp only [hs, List.map_append, List.map_cons, List.map_nil]; simp [hs]; omega)
            | (simp [hs] <;> fail)
            | (simp [hs]; omega)
        · first | rfl | (simp only [hs, List.map_append, List.map_cons, List.map_nil]; rfl) | (simp only [hs, List.map_append, List.map_cons, List.map_nil]; simp [hs] <;> fail) | (simp only [hs, List.map_append, List.map_cons, List.map_nil]; simp [hs]; omega) | (simp [hs] <;> fail) | (simp [hs]; omega)
  · have hs := sumW_all (f := List.length) hge
    repeat' first
      | (refine kOps ?_; first | (refine LOps.nil ?_) | (refine LOps.ev tT_ok rfl ?_) | (refine kLen ?_; first | (refine LOps.ans (AnsL.lenM tT_ok rfl rfl rfl) ?_)))
      | (refine kWL ?_; first | (refine WL.seq ?_) | (refine WL.region (by kernel_rfl) ?_) | (refine WL.exit ?_) | (refine WL.ret ?_) | (refine kCond ?_; first | (refine WL.condF' rfl ?_ ?_; (focus (first | (simp only [decide_eq_true_eq, decide_eq_false_iff_not, Bool.not_eq_true', Bool.not_eq_false', Int.ofNat_lt, Int.ofNat_le, Int.ofNat_inj, not_true_eq_false, not_false_eq_true]; omega))))))
      | (refine lthen_n ?_)
      | (refine lthen_e ?_)
      | (refine lblock_e ?_)
      | (refine lbackD_e ?_)
      | (refine LPost.r1 (r := .tmp 4) (.inl rfl) (Res1.tmp rfl) ?_)
      | (refine PureR.mk ?_)
    rw [szI_pos (by simp only [slW]; omega)]; simp only [slW]; show V.int .i64 _ = _; first | rfl | (congr 1; omega)
theorem szIntSS_ok (xs : List (List Int)) (left : Int) (h1 : left ≤ 1048576) (h2 : (slW List.length xs : Int) ≤ left) (s : S) : VCalls Tryz.prog 7 [.sl 0 (xs.map ints), .int .i64 left] s (fun v s' => v = .int .i64 (left - (slW List.length xs : Nat)) ∧ s' = s) := by
  rw [← szI_pos (w := slW List.length xs) (by omega)]; exact szIntSS_v xs left (by omega) h1 s
theorem szIntSS_no (xs : List (List Int)) (left : Int) (h0 : 0 ≤ left) (h1 : left ≤ 1048576) (h2 : left < (slW List.length xs : Int)) (s : S) : VCalls Tryz.prog 7 [.sl 0 (xs.map ints), .int .i64 left] s (fun v s' => v = .int .i64 (-1) ∧ s' = s) := by
  rw [← szI_neg (w := slW List.length xs) (left := left) (by omega)]; exact szIntSS_v xs left h0 h1 s
theorem eqIntSS_w (xs : List (List Int)) (h : slW List.length xs ≤ 1048576) (s : S) : VCalls Tryz.prog 15 [.sl 0 (xs.map ints), .sl 0 (xs.map ints)] s (fun v s' => v = .bool true ∧ s' = s) := by
  have hl := len_slW List.length xs
  refine LCalls.pure Tryz.func15 rfl (by kernel_rfl) (by simp) ?_
  repeat' first
    | (refine kOps ?_; first | (refine LOps.nil ?_) | (refine LOps.ev tT_ok rfl ?_) | (refine kLen ?_; first | (refine LOps.ans (AnsL.lenM tT_ok rfl rfl rfl) ?_)))
    | (refine kWL ?_; first | (refine WL.seq ?_) | (refine WL.region (by kernel_rfl) ?_) | (refine WL.block ?_) | (refine WL.skip ?_) | (refine kCond ?_; first | (refine WL.condF' rfl ?_ ?_; (focus (first | (simp <;> fail))))))
    | (refine lthen_n ?_)
  refine WL.loopD (fun i : Nat => xs.length - i) (fun i => [(0, .sl 0 (xs.map ints)), (1, .sl 0 (xs.map ints)), (5, .int .i64 (i : Int))]) (fun i => [])
    (fun i => i ≤ xs.length) 0 0 (by simp) (fun _ => rfl) ⟨rfl, rfl, rfl, trivial⟩ rfl (fun i hi => ?_) (fun i hi => ?_)
  · simp [UnderK, UnderX, V.under, V.underL]
  rcases Nat.lt_or_ge i xs.length with hlt | hge
  · have hm := mem_slW (f := List.length) hlt
    repeat' first
      | (refine kOps ?_; first | (refine LOps.nil ?_) | (refine LOps.ev tT_ok rfl ?_) | (refine kLen ?_; first | (refine LOps.ans (AnsL.lenM tT_ok rfl rfl rfl) ?_)) | (refine kBin ?_; first | (refine LOps.ans (AnsL.add rfl rfl ?_) ?_; (focus (constructor <;> omega)))))
      | (refine kWL ?_; first | (refine WL.seq ?_) | (refine WL.region (by kernel_rfl) ?_) | (refine WL.drawn (id := 6) [0, 1, 2, 3, 4, 5, 6, 7, 8, 9] [] [[], [], [0, 1], [0, 1, 2], [], [], [4, 5], [4, 5, 6], [0, 1, 2, 3, 4, 5, 6, 7], [0, 1, 2, 3, 4, 5, 6, 7, 8]] (by kernel_rfl) (by kernel_rfl) ?_) | (refine WL.block ?_) | (refine WL.skip ?_) | (refine kCond ?_; first | (refine WL.condF rfl ?_) | (refine WL.condT' rfl ?_ ?_; (focus (first | (simp only [decide_eq_true_eq, decide_eq_false_iff_not, Bool.not_eq_true', Bool.not_eq_false', Int.ofNat_lt, Int.ofNat_le, Int.ofNat_inj, not_true_eq_false, not_false_eq_true]; omega))))))
      | (refine kDr ?_; first | (refine LDr.nil ?_) | (refine LDr.fl rfl rfl (.ev tT_ok rfl) ?_) | (refine kDIdx rfl ?_; first | (refine LDr.fl rfl rfl (AnsL.idxA tT_ok rfl rfl rfl rfl rfl (by omega) rfl rfl) ?_)) | (refine kDCallN 24 rfl ?_; first | (refine LDr.fl rfl rfl (AnsL.callP rfl rfl rfl (ok24) (eqIntS_v _ ?_ _)) ?_; (focus (omega)))))
      | (refine lthen_n ?_)
      | (refine lblock_n ?_)
    all_goals
      refine lbackD.of (i + 1) ?_ ?_ ?_ ?_
      · first | omega | (refine ⟨?_, ?_⟩; (focus (first | omega | (simp; omega))); (first | omega | (simp_all [] <;> fail) | (simp_all []; omega))) | (simp_all [] <;> fail) | (simp_all []; omega)
      · first | omega | (simp; omega) | simp_all
      · repeat' first
          | exact SubL.nil
          | (refine SubL.mk rfl ?_ ?_)
          | rfl
          | (simp [] <;> fail)
          | (simp []; omega)
      · first | rfl | (simp [] <;> fail) | (simp []; omega)
  · skip
    repeat' first
      | (refine kOps ?_; first | (refine LOps.nil ?_) | (refine LOps.ev tT_ok rfl ?_) | (refine kLen ?_; first | (refine LOps.ans (AnsL.lenM tT_ok rfl rfl rfl) ?_)))
      | (refine kWL ?_; first | (refine WL.seq ?_) | (refine WL.region (by kernel_rfl) ?_) | (refine WL.exit ?_) | (refine WL.ret ?_) | (refine kCond ?_; first | (refine WL.condF' rfl ?_ ?_; (focus (first | (simp only [decide_eq_true_eq, decide_eq_false_iff_not, Bool.not_eq_true', Bool.not_eq_false', Int.ofNat_lt, Int.ofNat_le, Int.ofNat_inj, not_true_eq_false, not_false_eq_true]; omega))))))
      | (refine lthen_n ?_)
      | (refine lthen_e ?_)
      | (refine lblock_e ?_)
      | (refine lbackD_e ?_)
      | (refine LPost.r1 (r := .tmp 4) (.inl rfl) (Res1.tmp rfl) ?_)
      | (refine PureR.mk ?_)
    rfl
theorem SzC.okW2 {P : Program} {g : FuncId} {d : V} (h : SzC P g d) {w : Nat} (e : wgt d = w) {left : Int} (h1 : left ≤ 1048576) (h2 : (w : Int) ≤ left) (s : S) : VCalls P g [d, .int .i64 left] s (fun v s' => v = .int .i64 (left - (w : Nat)) ∧ s' = s) := by
  subst e
  exact h.ok h1 h2 s
theorem SzC.noW2 {P : Program} {g : FuncId} {d : V} (h : SzC P g d) {w : Nat} (e : wgt d = w) {left : Int} (h0 : 0 ≤ left) (h1 : left ≤ 1048576) (h2 : left < (w : Int)) (s : S) : VCalls P g [d, .int .i64 left] s (fun v s' => v = .int .i64 (-1) ∧ s' = s) := by
  subst e
  exact h.no h0 h1 h2 s
theorem intS_has2 {n : Nat} {v : V} (h : Has Tryz.prog n 52 v) : ∃ xs : List Int, v.forget = ints xs := slice_has (f := iV) Tryz.underlying52 (fun _ _ h => by obtain ⟨m, rfl⟩ := Has.int Tryz.underlying3 h; exact ⟨m, rfl⟩) h
theorem intSS_has {n : Nat} {v : V} (h : Has Tryz.prog n 25 v) : ∃ xs : List (List Int), v.forget = .sl 0 (xs.map ints) := slice_has (f := ints) Tryz.underlying25 (fun _ _ h => intS_has2 h) h
end Go.Proofs.YtehmlklfbllgcaaGreat
