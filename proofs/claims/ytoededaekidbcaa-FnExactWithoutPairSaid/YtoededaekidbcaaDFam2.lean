/-
  The plain types of the laws, continued. Printed by a program of our own; no condition.
-/
import Derived.Test.YtoededaekidbcaaDFam
namespace Go.Proofs.Ytoededaekidbcaa
open Go
set_option linter.unusedSimpArgs false
set_option linter.unusedVariables false

theorem Token_has {n : Nat} {v : V} (h : Has Try.prog n 43 v) : ∃ x : Token, v.forget = x.toV := by
  obtain ⟨n1, us, hv, h1⟩ := Has.struct Try.underlying43 h
  subst hv
  obtain ⟨u0, _, rfl, e0, u1, _, rfl, e1, u2, _, rfl, e2, rfl⟩ := h1
  obtain ⟨a0, rfl⟩ := Has.int Try.underlying3 e0
  obtain ⟨a1, rfl⟩ := Has.str Try.underlying9 e1
  obtain ⟨a2, rfl⟩ := Has.int Try.underlying3 e2
  exact ⟨⟨a0, a1, a2⟩, by simp [V.flat, Token.toV]⟩
theorem TokenS_has {n : Nat} {v : V} (h : Has Try.prog n 22 v) : ∃ xs : List Token, v.forget = .sl 0 (xs.map Token.toV) := slice_has Try.underlying22 (fun _ _ h => Token_has h) h
theorem toToken_v (x : Token) (h : x.wt ≤ 1048576) (s : S) : VCalls Try.prog 26 [x.toV] s (fun v s' => v = x.toV ∧ s' = s) := by
  simp only [Token.wt] at h
  refine LCalls.pure Try.func26 rfl (by kernel_rfl) (by simp) ?_
  repeat' first
    | (refine kOps ?_; first | (refine LOps.nil ?_) | (refine kStore ?_; refine LOps.storeP tT_ok rfl rfl rfl rfl rfl rfl rfl rfl rfl ?_) | (refine LOps.ev tT_ok rfl ?_) | (refine kBox ?_; refine LOps.box rfl rfl rfl rfl ?_) | (refine kAlloc ?_; refine LOps.alloc tT_ok rfl rfl rfl rfl ?_) | (refine kLoad ?_; first | (refine LOps.ans (AnsL.loadP tT_ok rfl rfl rfl rfl) ?_)))
    | (refine kWL ?_; first | (refine WL.seq ?_) | (refine WL.region (by kernel_rfl) ?_) | (refine WL.ret ?_))
    | (refine lthen_n ?_)
    | (refine LPost.r1 (r := .cell 2 45) (.inl rfl) (Res1.cell tT_ok rfl rfl rfl rfl) ?_)
    | (refine PureR.mk ?_)
  simp [Token.toV]
theorem szToken_v (x : Token) (left : Int) (h0 : 0 ≤ left) (h1 : left ≤ 1048576) (s : S) : VCalls Try.prog 23 [x.toV, .int .i64 left] s (fun v s' => v = .int .i64 (szI x.wt left) ∧ s' = s) := by
  refine VCalls.wf fun hwf => ?_
  simp [Token.toV, V.wf, V.wfL] at hwf
  have hmx := len_max
  refine LCalls.pure Try.func23 rfl (by kernel_rfl) (by simp) ?_
  by_cases c0 : left - (x.text.length : Nat) < 0
  · skip
    repeat' first
      | (refine kOps ?_; first | (refine LOps.nil ?_) | (refine LOps.ev tT_ok rfl ?_) | (refine kBox ?_; refine LOps.box rfl rfl rfl rfl ?_) | (refine kLoad ?_; first | (refine LOps.ans (AnsL.loadP tT_ok rfl rfl rfl rfl) ?_)) | (refine kBin ?_; first | (refine LOps.ans (AnsL.sub rfl rfl ?_) ?_; (focus (constructor <;> omega)))))
      | (refine kWL ?_; first | (refine WL.seq ?_) | (refine WL.region (by kernel_rfl) ?_) | (refine WL.ret ?_) | (refine kCond ?_; first | (refine WL.condT' rfl ?_ ?_; (focus (first | (exact decide_eq_true (by assumption)))))))
      | (refine lthen_n ?_)
      | (refine lthen_r ?_)
      | (refine LPost.r1 (r := .tmp 4) (.inl rfl) (Res1.tmp rfl) ?_)
      | (refine PureR.mk ?_)
    show V.int .i64 (-1) = _; rw [szI_neg (by simp only [Token.wt]; omega)]
  repeat' first
    | (refine kOps ?_; first | (refine LOps.nil ?_) | (refine LOps.ev tT_ok rfl ?_) | (refine kBox ?_; refine LOps.box rfl rfl rfl rfl ?_) | (refine kLoad ?_; first | (refine LOps.ans (AnsL.loadP tT_ok rfl rfl rfl rfl) ?_)) | (refine kBin ?_; first | (refine LOps.ans (AnsL.sub rfl rfl ?_) ?_; (focus (constructor <;> omega)))))
    | (refine kWL ?_; first | (refine WL.seq ?_) | (refine WL.region (by kernel_rfl) ?_) | (refine WL.skip ?_) | (refine WL.ret ?_) | (refine kCond ?_; first | (refine WL.condF' rfl ?_ ?_; (focus (first | (exact decide_eq_false (by assumption)))))))
    | (refine lthen_n ?_)
    | (refine LPost.r1 (r := .tmp 4) (.inl rfl) (Res1.tmp rfl) ?_)
    | (refine PureR.mk ?_)
  rw [szI_pos (by simp only [Token.wt]; omega)]; simp only [Token.wt]; show V.int .i64 _ = _; first | rfl | (congr 1; omega)
theorem szToken_ok (x : Token) (left : Int) (h1 : left ≤ 1048576) (h2 : (x.wt : Int) ≤ left) (s : S) : VCalls Try.prog 23 [x.toV, .int .i64 left] s (fun v s' => v = .int .i64 (left - (x.wt : Nat)) ∧ s' = s) := by
  rw [← szI_pos (w := x.wt) (by omega)]; exact szToken_v x left (by omega) h1 s
theorem szToken_no (x : Token) (left : Int) (h0 : 0 ≤ left) (h1 : left ≤ 1048576) (h2 : left < (x.wt : Int)) (s : S) : VCalls Try.prog 23 [x.toV, .int .i64 left] s (fun v s' => v = .int .i64 (-1) ∧ s' = s) := by
  rw [← szI_neg (w := x.wt) (left := left) (by omega)]; exact szToken_v x left h0 h1 s
theorem eqToken_v (x : Token) (h : x.wt ≤ 1048576) (s : S) : VCalls Try.prog 31 [x.toV, x.toV] s (fun v s' => v = .bool true ∧ s' = s) := by
  simp only [Token.wt] at h
  refine LCalls.pure Try.func31 rfl (by kernel_rfl) (by simp) ?_
  repeat' first
    | (refine kOps ?_; first | (refine LOps.nil ?_) | (refine LOps.ev tT_ok rfl ?_) | (refine kBox ?_; refine LOps.box rfl rfl rfl rfl ?_) | (refine kLoad ?_; first | (refine LOps.ans (AnsL.loadP tT_ok rfl rfl rfl rfl) ?_)))
    | (refine kWL ?_; first | (refine WL.seq ?_) | (refine WL.region (by kernel_rfl) ?_) | (refine WL.skip ?_) | (refine WL.ret ?_) | (refine kCond ?_; first | (refine WL.condF' rfl ?_ ?_; (focus (first | (simp <;> fail))))))
    | (refine lthen_n ?_)
    | (refine LPost.r1 (r := .tmp 4) (.inl rfl) (Res1.tmp rfl) ?_)
    | (refine PureR.mk ?_)
  rfl
theorem toTokenS_v (xs : List Token) (h : slW Token.wt xs ≤ 1048576) (s : S) : VCalls Try.prog 8 [.sl 0 (xs.map Token.toV)] s (fun v s' => v = .sl 0 (xs.map Token.toV) ∧ s' = s) := by
  have hl := len_slW Token.wt xs
  refine LCalls.pureZ Try.func8 rfl (by kernel_rfl) (by simp) ?_
  repeat' first
    | (refine kOps ?_; first | (refine LOps.nil ?_) | (refine LOps.ev tT_ok rfl ?_) | (refine kMake ?_; first | (refine LOps.make tT_ok rfl rfl rfl rfl rfl rfl rfl rfl (AppB.of ?_ rfl) ?_; (focus (first | omega)))) | (refine kLen ?_; first | (refine LOps.ans (AnsL.lenM tT_ok rfl rfl rfl) ?_)))
    | (refine kWL ?_; first | (refine WL.seq ?_) | (refine WL.region (by kernel_rfl) ?_) | (refine WL.block ?_))
    | (refine lthen_n ?_)
  refine WL.loopD (fun i : Nat => xs.length - i) (fun i => [(0, .sl 0 (xs.map Token.toV)), (3, .slm .eq (s.next + 0) 0 xs.length), (4, .int .i64 (i : Int))]) (fun i => [.var (filled [.int .i64 0, .str [], .int .i64 0] xs.length ((xs.map Token.toV).take i))])
    (fun i => i ≤ xs.length) 1 0 (by simp) (fun _ => rfl) ⟨rfl, rfl, rfl, trivial⟩ (by rw [List.take_zero, filled_nil]) (fun i hi => ?_) (fun i hi => ?_)
  · refine ⟨by simp [UnderK, V.under], ?_⟩
    simp only [UnderX, List.all_cons, List.all_nil, Own.under, Bool.and_true]
    exact under_filled (by rfl) (by rw [List.all_eq_true]; intro v hv; obtain ⟨x, _, rfl⟩ := List.mem_map.1 (List.mem_of_mem_take hv); exact under_dat (by simp))
  rcases Nat.lt_or_ge i xs.length with hlt | hge
  · have hm := mem_slW (f := Token.wt) hlt
    repeat' first
      | (refine kStore ?_ ; refine LOps.storeF tT_ok (filled [.int .i64 0, .str [], .int .i64 0] xs.length ((xs.map Token.toV).take (i + 1))) rfl rfl rfl rfl rfl rfl rfl rfl ?_ ?_ ?_ ; (focus (rw [filled_take_length (f := Token.toV) (z := [.int .i64 0, .str [], .int .i64 0]) hi (fun _ => rfl)] ; exact mul_room (k := 3) hlt)) ; (focus (rw [Nat.zero_add] ; exact filled_step (f := Token.toV) (z := [.int .i64 0, .str [], .int .i64 0]) hlt (fun _ => rfl))))
      | (refine kOps ?_; first | (refine LOps.nil ?_) | (refine LOps.ev tT_ok rfl ?_) | (refine kLen ?_; first | (refine LOps.ans (AnsL.lenM tT_ok rfl rfl rfl) ?_)) | (refine kBin ?_; first | (refine LOps.ans (AnsL.add rfl rfl ?_) ?_; (focus (constructor <;> omega)))) | (refine kIdx ?_; first | (refine LOps.ans (AnsL.idxA tT_ok rfl rfl rfl rfl rfl (by omega) rfl rfl) ?_) | (refine LOps.ans (AnsL.idxM tT_ok rfl rfl rfl rfl rfl ?_) ?_; (focus (omega)))) | (refine kCallN 26 ?_; first | (refine LOps.ans (AnsL.callP rfl rfl rfl (ok26) (toToken_v _ ?_ _)) ?_; (focus (omega)))))
      | (refine kWL ?_; first | (refine WL.seq ?_) | (refine WL.region (by kernel_rfl) ?_) | (refine WL.block ?_) | (refine WL.skip ?_) | (refine kCond ?_; first | (refine WL.condT' rfl ?_ ?_; (focus (first | (simp only [decide_eq_true_eq, decide_eq_false_iff_not, Bool.not_eq_true', Bool.not_eq_false', Int.ofNat_lt, Int.ofNat_le, Int.ofNat_inj, not_true_eq_false, not_false_eq_true]; omega))))))
      | (refine lthen_n ?_)
      | (refine lblock_n ?_)
    all_goals
      refine lbackD.of (i + 1) ?_ ?_ ?_ ?_
      · first | omega | (refine ⟨?_, ?_⟩; (focus (first | omega | (simp; omega))); (first | omega | (simp_all [] <;> fail) | (simp_all []; omega))) | (simp_all [] <;> fail) | (simp_all []; omega)
      · first | omega | (simp; omega) | simp_all
      · repeat' first
          | exact SubL.nil
          | (refine SubL.mk rfl ?_ ?_)
          | rfl
          | (simp [] <;> fail)
          | (simp []; omega)
      · first | rfl | (simp [] <;> fail) | (simp []; omega)
  · have hi2 : i = xs.length := by omega
    subst hi2
    repeat' first
      | (refine kOps ?_; first | (refine LOps.nil ?_) | (refine LOps.ev tT_ok rfl ?_) | (refine kLen ?_; first | (refine LOps.ans (AnsL.lenM tT_ok rfl rfl rfl) ?_)))
      | (refine kWL ?_; first | (refine WL.seq ?_) | (refine WL.region (by kernel_rfl) ?_) | (refine WL.exit ?_) | (refine WL.ret ?_) | (refine kCond ?_; first | (refine WL.condF' rfl ?_ ?_; (focus (first | (simp only [decide_eq_true_eq, decide_eq_false_iff_not, Bool.not_eq_true', Bool.not_eq_false', Int.ofNat_lt, Int.ofNat_le, Int.ofNat_inj, not_true_eq_false, not_false_eq_true]; omega))))))
      | (refine lthen_n ?_)
      | (refine lthen_e ?_)
      | (refine lblock_e ?_)
      | (refine lbackD_e ?_)
      | (refine LPost.r1 (r := .tmp 2) (.inl rfl) (Res1.tmp rfl) ?_)
    rw [filled_all]
    exact FrzR.of 3 true rfl (by decide) (fun _ => rfl) (fun _ => rfl) (by decide) (by simp)
theorem szTokenS_v (xs : List Token) (left : Int) (h0 : 0 ≤ left) (h1 : left ≤ 1048576) (s : S) : VCalls Try.prog 6 [.sl 0 (xs.map Token.toV), .int .i64 left] s (fun v s' => v = .int .i64 (szI (slW Token.wt xs) left) ∧ s' = s) := by
  refine VCalls.wf fun hwf => ?_
  simp only [List.all_cons, List.all_nil, V.wf, Bool.and_true, Bool.and_eq_true, decide_eq_true_eq, List.length_map] at hwf
  have hmx := len_max
  have hln := hwf.1.1
  have hel := wfL_get hwf.1.2
  refine LCalls.pure Try.func6 rfl (by kernel_rfl) (by simp) ?_
  by_cases c0 : left - (xs.length : Int) < 0
  · skip
    repeat' first
      | (refine kOps ?_; first | (refine LOps.nil ?_) | (refine LOps.ev tT_ok rfl ?_) | (refine kLen ?_; first | (refine LOps.ans (AnsL.lenM tT_ok rfl rfl rfl) ?_)) | (refine kBin ?_; first | (refine LOps.ans (AnsL.sub rfl rfl ?_) ?_; (focus (constructor <;> omega)))))
      | (refine kWL ?_; first | (refine WL.seq ?_) | (refine WL.region (by kernel_rfl) ?_) | (refine WL.ret ?_) | (refine kCond ?_; first | (refine WL.condT' rfl ?_ ?_; (focus (first | (exact decide_eq_true (by assumption)))))))
      | (refine lthen_n ?_)
      | (refine lthen_r ?_)
      | (refine LPost.r1 (r := .tmp 4) (.inl rfl) (Res1.tmp rfl) ?_)
      | (refine PureR.mk ?_)
    show V.int .i64 (-1) = _; rw [szI_neg (by simp only [slW]; omega)]
  repeat' first
    | (refine kOps ?_; first | (refine LOps.nil ?_) | (refine LOps.ev tT_ok rfl ?_) | (refine kLen ?_; first | (refine LOps.ans (AnsL.lenM tT_ok rfl rfl rfl) ?_)) | (refine kBin ?_; first | (refine LOps.ans (AnsL.sub rfl rfl ?_) ?_; (focus (constructor <;> omega)))))
    | (refine kWL ?_; first | (refine WL.seq ?_) | (refine WL.region (by kernel_rfl) ?_) | (refine WL.block ?_) | (refine WL.skip ?_) | (refine kCond ?_; first | (refine WL.condF' rfl ?_ ?_; (focus (first | (exact decide_eq_false (by assumption)))))))
    | (refine lthen_n ?_)
  refine WL.loopD (fun i : Nat => xs.length - i) (fun i => [(0, .sl 0 (xs.map Token.toV)), (1, .int .i64 (left - xs.length - (sumW Token.wt (xs.take i) : Nat))), (5, .int .i64 (i : Int))]) (fun i => [])
    (fun i => i ≤ xs.length ∧ 0 ≤ left - (xs.length : Int) - (sumW Token.wt (xs.take i) : Nat)) 0 0 (by simp [sumW]; omega) (fun _ => rfl) ⟨rfl, by simp [sumW]; rfl, rfl, trivial⟩ rfl (fun i hi => ?_) (fun i hi => ?_)
  · simp [UnderK, UnderX, V.under, V.underL]
  obtain ⟨hi, hi2⟩ := hi
  rcases Nat.lt_or_ge i xs.length with hlt | hge
  · have hs := sumW_take (f := Token.wt) hlt
    have hm := sumW_take_le Token.wt xs (i + 1)
    have hwe := hel i hlt
    by_cases c : left - (xs.length : Int) - (sumW Token.wt (xs.take i) : Nat) - (Token.wt xs[i] : Nat) < 0
    · skip
      repeat' first
        | (refine kOps ?_; first | (refine LOps.nil ?_) | (refine LOps.ev tT_ok rfl ?_) | (refine kLen ?_; first | (refine LOps.ans (AnsL.lenM tT_ok rfl rfl rfl) ?_)) | (refine kIdx ?_; first | (refine LOps.ans (AnsL.idxA tT_ok rfl rfl rfl rfl rfl (by omega) rfl rfl) ?_)) | (refine kCallN 23 ?_; first | (refine LOps.ans (AnsL.callP rfl rfl rfl (ok23) (szToken_no _ _ ?_ ?_ ?_ _)) ?_; (focus (omega)); (focus (omega)); (focus (omega)))))
        | (refine kWL ?_; first | (refine WL.seq ?_) | (refine WL.region (by kernel_rfl) ?_) | (refine WL.block ?_) | (refine WL.skip ?_) | (refine WL.ret ?_) | (refine kCond ?_; first | (refine WL.condT rfl ?_) | (refine WL.condT' rfl ?_ ?_; (focus (first | (simp only [decide_eq_true_eq, decide_eq_false_iff_not, Bool.not_eq_true', Bool.not_eq_false', Int.ofNat_lt, Int.ofNat_le, Int.ofNat_inj, not_true_eq_false, not_false_eq_true]; omega))))))
        | (refine lthen_n ?_)
        | (refine lthen_r ?_)
        | (refine lblock_r ?_)
        | (refine lbackD_r ?_)
        | (refine LPost.r1 (r := .tmp 4) (.inl rfl) (Res1.tmp rfl) ?_)
        | (refine PureR.mk ?_)
      show V.int .i64 (-1) = _; rw [szI_neg (by simp only [slW]; omega)]
    · skip
      repeat' first
        | (refine kOps ?_; first | (refine LOps.nil ?_) | (refine LOps.ev tT_ok rfl ?_) | (refine kLen ?_; first | (refine LOps.ans (AnsL.lenM tT_ok rfl rfl rfl) ?_)) | (refine kBin ?_; first | (refine LOps.ans (AnsL.add rfl rfl ?_) ?_; (focus (constructor <;> omega)))) | (refine kIdx ?_; first | (refine LOps.ans (AnsL.idxA tT_ok rfl rfl rfl rfl rfl (by omega) rfl rfl) ?_)) | (refine kCallN 23 ?_; first | (refine LOps.ans (AnsL.callP rfl rfl rfl (ok23) (szToken_ok _ _ ?_ ?_ _)) ?_; (focus (omega)); (focus (omega)))))
        | (refine kWL ?_; first | (refine WL.seq ?_) | (refine WL.region (by kernel_rfl) ?_) | (refine WL.block ?_) | (refine WL.skip ?_) | (refine kCond ?_; first | (refine WL.condT' rfl ?_ ?_; (focus (first | (simp only [decide_eq_true_eq, decide_eq_false_iff_not, Bool.not_eq_true', Bool.not_eq_false', Int.ofNat_lt, Int.ofNat_le, Int.ofNat_inj, not_true_eq_false, not_false_eq_true]; omega)))) | (refine WL.condF' rfl ?_ ?_; (focus (first | (exact decide_eq_false (by assumption)))))))
        | (refine lthen_n ?_)
        | (refine lblock_n ?_)
      all_goals
        refine lbackD.of (i + 1) ?_ ?_ ?_ ?_
        · first | omega | (refine ⟨?_, ?_⟩; (focus (first | omega | (simp; omega))); (first | omega | (simp_all [hs] <;> fail) | (simp_all [hs]; omega))) | (simp_all [hs] <;> fail) | (simp_all [hs]; omega)
        · first | omega | (simp; omega) | simp_all
        · repeat' first
            | exact SubL.nil
            | (refine SubL.mk rfl ?_ ?_)
            | rfl
            | (simp only [hs, List.map_append, List.map_cons, List.map_nil]; rfl)
            | (simp only [hs, List.map_append, List.map_cons, List.map_nil]; simp [hs] <;> fail)
            | (simp only [hs, List.map_append, List.map_cons, List.map_nil]; simp [hs]; omega)
            | (simp [hs] <;> fail)
            | (simp [hs]; omega)
        · first | rfl | (simp only [hs, List.map_append, List.map_cons, List.map_nil]; rfl) | (simp only [hs, List.map_append, List.map_cons, List.map_nil]; simp [hs] <;> fail) | (simp only [hs, List.map_append, List.map_cons, List.map_nil]; simp [hs]; omega) | (simp [hs] <;> fail) | (simp [hs]; omega)
  · have hs := sumW_all (f := Token.wt) hge
    repeat' first
      | (refine kOps ?_; first | (refine LOps.nil ?_) | (refine LOps.ev tT_ok rfl ?_) | (refine kLen ?_; first | (refine LOps.ans (AnsL.lenM tT_ok rfl rfl rfl) ?_)))
      | (refine kWL ?_; first | (refine WL.seq ?_) | (refine WL.region (by kernel_rfl) ?_) | (refine WL.exit ?_) | (refine WL.ret ?_) | (refine kCond ?_; first | (refine WL.condF' rfl ?_ ?_; (focus (first | (simp only [decide_eq_true_eq, decide_eq_false_iff_not, Bool.not_eq_true', Bool.not_eq_false', Int.ofNat_lt, Int.ofNat_le, Int.ofNat_inj, not_true_eq_false, not_false_eq_true]; omega))))))
      | (refine lthen_n ?_)
      | (refine lthen_e ?_)
      | (refine lblock_e ?_)
      | (refine lbackD_e ?_)
      | (refine LPost.r1 (r := .tmp 4) (.inl rfl) (Res1.tmp rfl) ?_)
      | (refine PureR.mk ?_)
    rw [szI_pos (by simp only [slW]; omega)]; simp only [slW]; show V.int .i64 _ = _; first | rfl | (congr 1; omega)
theorem szTokenS_ok (xs : List Token) (left : Int) (h1 : left ≤ 1048576) (h2 : (slW Token.wt xs : Int) ≤ left) (s : S) : VCalls Try.prog 6 [.sl 0 (xs.map Token.toV), .int .i64 left] s (fun v s' => v = .int .i64 (left - (slW Token.wt xs : Nat)) ∧ s' = s) := by
  rw [← szI_pos (w := slW Token.wt xs) (by omega)]; exact szTokenS_v xs left (by omega) h1 s
theorem szTokenS_no (xs : List Token) (left : Int) (h0 : 0 ≤ left) (h1 : left ≤ 1048576) (h2 : left < (slW Token.wt xs : Int)) (s : S) : VCalls Try.prog 6 [.sl 0 (xs.map Token.toV), .int .i64 left] s (fun v s' => v = .int .i64 (-1) ∧ s' = s) := by
  rw [← szI_neg (w := slW Token.wt xs) (left := left) (by omega)]; exact szTokenS_v xs left h0 h1 s
theorem eqTokenS_v (xs : List Token) (h : slW Token.wt xs ≤ 1048576) (s : S) : VCalls Try.prog 11 [.sl 0 (xs.map Token.toV), .sl 0 (xs.map Token.toV)] s (fun v s' => v = .bool true ∧ s' = s) := by
  have hl := len_slW Token.wt xs
  refine LCalls.pure Try.func11 rfl (by kernel_rfl) (by simp) ?_
  repeat' first
    | (refine kOps ?_; first | (refine LOps.nil ?_) | (refine LOps.ev tT_ok rfl ?_) | (refine kLen ?_; first | (refine LOps.ans (AnsL.lenM tT_ok rfl rfl rfl) ?_)))
    | (refine kWL ?_; first | (refine WL.seq ?_) | (refine WL.region (by kernel_rfl) ?_) | (refine WL.block ?_) | (refine WL.skip ?_) | (refine kCond ?_; first | (refine WL.condF' rfl ?_ ?_; (focus (first | (simp <;> fail))))))
    | (refine lthen_n ?_)
  refine WL.loopD (fun i : Nat => xs.length - i) (fun i => [(0, .sl 0 (xs.map Token.toV)), (1, .sl 0 (xs.map Token.toV)), (5, .int .i64 (i : Int))]) (fun i => [])
    (fun i => i ≤ xs.length) 0 0 (by simp) (fun _ => rfl) ⟨rfl, rfl, rfl, trivial⟩ rfl (fun i hi => ?_) (fun i hi => ?_)
  · simp [UnderK, UnderX, V.under, V.underL]
  rcases Nat.lt_or_ge i xs.length with hlt | hge
  · have hm := mem_slW (f := Token.wt) hlt
    repeat' first
      | (refine kOps ?_; first | (refine LOps.nil ?_) | (refine LOps.ev tT_ok rfl ?_) | (refine kLen ?_; first | (refine LOps.ans (AnsL.lenM tT_ok rfl rfl rfl) ?_)) | (refine kBin ?_; first | (refine LOps.ans (AnsL.add rfl rfl ?_) ?_; (focus (constructor <;> omega)))))
      | (refine kWL ?_; first | (refine WL.seq ?_) | (refine WL.region (by kernel_rfl) ?_) | (refine WL.drawn (id := 6) [0, 1, 2, 3, 4, 5, 6, 7, 8, 9] [] [[], [], [0, 1], [0, 1, 2], [], [], [4, 5], [4, 5, 6], [0, 1, 2, 3, 4, 5, 6, 7], [0, 1, 2, 3, 4, 5, 6, 7, 8]] (by kernel_rfl) (by kernel_rfl) ?_) | (refine WL.block ?_) | (refine WL.skip ?_) | (refine kCond ?_; first | (refine WL.condF rfl ?_) | (refine WL.condT' rfl ?_ ?_; (focus (first | (simp only [decide_eq_true_eq, decide_eq_false_iff_not, Bool.not_eq_true', Bool.not_eq_false', Int.ofNat_lt, Int.ofNat_le, Int.ofNat_inj, not_true_eq_false, not_false_eq_true]; omega))))))
      | (refine kDr ?_; first | (refine LDr.nil ?_) | (refine LDr.fl rfl rfl (.ev tT_ok rfl) ?_) | (refine kDIdx rfl ?_; first | (refine LDr.fl rfl rfl (AnsL.idxA tT_ok rfl rfl rfl rfl rfl (by omega) rfl rfl) ?_)) | (refine kDCallN 31 rfl ?_; first | (refine LDr.fl rfl rfl (AnsL.callP rfl rfl rfl (ok31) (eqToken_v _ ?_ _)) ?_; (focus (omega)))))
      | (refine lthen_n ?_)
      | (refine lblock_n ?_)
    all_goals
      refine lbackD.of (i + 1) ?_ ?_ ?_ ?_
      · first | omega | (refine ⟨?_, ?_⟩; (focus (first | omega | (simp; omega))); (first | omega | (simp_all [] <;> fail) | (simp_all []; omega))) | (simp_all [] <;> fail) | (simp_all []; omega)
      · first | omega | (simp; omega) | simp_all
      · repeat' first
          | exact SubL.nil
          | (refine SubL.mk rfl ?_ ?_)
          | rfl
          | (simp [] <;> fail)
          | (simp []; omega)
      · first | rfl | (simp [] <;> fail) | (simp []; omega)
  · skip
    repeat' first
      | (refine kOps ?_; first | (refine LOps.nil ?_) | (refine LOps.ev tT_ok rfl ?_) | (refine kLen ?_; first | (refine LOps.ans (AnsL.lenM tT_ok rfl rfl rfl) ?_)))
      | (refine kWL ?_; first | (refine WL.seq ?_) | (refine WL.region (by kernel_rfl) ?_) | (refine WL.exit ?_) | (refine WL.ret ?_) | (refine kCond ?_; first | (refine WL.condF' rfl ?_ ?_; (focus (first | (simp only [decide_eq_true_eq, decide_eq_false_iff_not, Bool.not_eq_true', Bool.not_eq_false', Int.ofNat_lt, Int.ofNat_le, Int.ofNat_inj, not_true_eq_false, not_false_eq_true]; omega))))))
      | (refine lthen_n ?_)
      | (refine lthen_e ?_)
      | (refine lblock_e ?_)
      | (refine lbackD_e ?_)
      | (refine LPost.r1 (r := .tmp 4) (.inl rfl) (Res1.tmp rfl) ?_)
      | (refine PureR.mk ?_)
    rfl
end Go.Proofs.Ytoededaekidbcaa
