/-
  The law of distinct rows. Own work; no condition.
-/
import Derived.Test.YtehmlklfbllgcaaDRowsL
namespace Go.Proofs.Ytehmlklfbllgcaa
open Go
set_option linter.unusedSimpArgs false
set_option linter.unusedVariables false

instance : DecidableEq Val := fun x y => decidable_of_iff (x.kind = y.kind ∧ x.num = y.num ∧ x.text = y.text) (by cases x; cases y; simp)
theorem valEq_dec (x y : Val) : valEq x y = decide (x = y) := by
  obtain ⟨a, b, c⟩ := x
  obtain ⟨d, e, f⟩ := y
  rw [Bool.eq_iff_iff]
  simp [valEq]
theorem same_dec {α : Type} [DecidableEq α] {p : α → α → Bool} (h : ∀ x y, p x y = decide (x = y)) : ∀ a b : List α, same p a b = decide (a = b)
  | [], [] => by simp [same, eqAll]
  | [], y :: b => by simp [same]
  | x :: a, [] => by simp [same]
  | x :: a, y :: b => by
    have ih := same_dec h a b
    simp only [same, List.length_cons, eqAll, Nat.add_right_cancel_iff, List.cons.injEq, h x y] at ih ⊢
    by_cases e : x = y
    · simp only [e, decide_true, Bool.true_and, true_and]
      exact ih
    · simp [e]
theorem rowEq_dec (a b : List Val) : rowEq a b = decide (a = b) := same_dec valEq_dec a b
theorem same_refl (l : List (List Val)) : same rowEq l l = true := by rw [same_dec rowEq_dec]; simp
theorem any_rowEq (l : List (List Val)) (r : List Val) : l.any (fun o => rowEq o r) = decide (r ∈ l) := by
  rw [Bool.eq_iff_iff]
  simp [List.any_eq_true, rowEq_dec]
theorem dstep_eq (acc : List (List Val)) (r : List Val) : dstep acc r = if r ∈ acc then acc else acc ++ [r] := by
  unfold dstep
  rw [any_rowEq]
  simp
theorem dist_pre : ∀ (l acc : List (List Val)), ∃ rest, l.foldl dstep acc = acc ++ rest
  | [], acc => ⟨[], by simp⟩
  | r :: l, acc => by
    obtain ⟨rest, h⟩ := dist_pre l (dstep acc r)
    rw [List.foldl_cons, h, dstep_eq]
    split
    · exact ⟨rest, rfl⟩
    · exact ⟨r :: rest, by simp⟩
theorem dist_sub : ∀ (l acc : List (List Val)) (x : List Val), x ∈ acc ∨ x ∈ l → x ∈ l.foldl dstep acc
  | [], acc, x, h => by simpa using h
  | r :: l, acc, x, h => by
    refine dist_sub l _ x ?_
    rw [dstep_eq]
    rcases h with h | h
    · left; split
      · exact h
      · simp [h]
    · rcases List.mem_cons.1 h with rfl | h
      · left; split
        · assumption
        · simp
      · exact .inr h
theorem dist_mem_iff (l : List (List Val)) (x : List Val) : x ∈ l.foldl dstep [] ↔ x ∈ l :=
  ⟨fun h => by rcases dist_mem l [] x h with h | h <;> first | (cases h; done) | exact h, fun h => dist_sub l [] x (.inr h)⟩
theorem dist_nodup : ∀ (l acc : List (List Val)), acc.Nodup → (l.foldl dstep acc).Nodup
  | [], acc, h => h
  | r :: l, acc, h => by
    refine dist_nodup l _ ?_
    rw [dstep_eq]
    split
    · exact h
    · rename_i hr
      refine List.nodup_append.2 ⟨h, by simp, ?_⟩
      intro a ha b hb e
      simp at hb
      subst hb e
      exact hr ha
theorem dist_id : ∀ (l acc : List (List Val)), (acc ++ l).Nodup → l.foldl dstep acc = acc ++ l
  | [], acc, h => by simp
  | r :: l, acc, h => by
    have hr : r ∉ acc := fun ha => (List.nodup_append.1 h).2.2 r ha r (by simp) rfl
    rw [List.foldl_cons, dstep_eq, if_neg hr, dist_id l (acc ++ [r]) (by simpa using h)]
    simp
theorem distinct_idem (l : List (List Val)) : distinct (distinct l) = distinct l := by
  unfold distinct
  rw [dist_id _ [] (by simpa using dist_nodup l [] List.nodup_nil)]
  simp
theorem lawDistinctRowsL_v {b : V} (hb : Bytes b) (s : S) : VCalls Try.prog 5 [b] s (fun v _ => v = .bool true) := by
  obtain ⟨c, hbig⟩ := big_v hb
  have hh : Hold s s.next [] := .start _ _
  refine LCalls.body Try.func5 rfl (by kernel_rfl) ?_
  cases c
  · skip
    repeat' first
      | (refine kCallN 19 ?_ ; refine LOps.drawAll rfl rfl ok19 hh (specDrawDistinctRows_d hb) ?_ ; intro s x hq hh)
      | (refine kOps ?_; first | (refine LOps.nil ?_) | (refine kG ?_; first | (refine LOps.gT rfl rfl rfl ?_) | (refine LOps.gF rfl rfl rfl ?_) | (refine LOps.gU rfl rfl ?_) | (refine LOps.gFN rfl rfl rfl ?_) | (refine LOps.gD true rfl rfl rfl ?_ ?_; (focus (first | (assumption) | (exact decide_eq_true (by assumption)) | (exact decide_eq_false (by assumption)) | (simp only [decide_eq_true_eq, decide_eq_false_iff_not, Bool.not_eq_true', Bool.not_eq_false', Int.ofNat_lt, Int.ofNat_le, Int.ofNat_inj, not_true_eq_false, not_false_eq_true]; omega) | (simp <;> fail)))) | (refine LOps.gD false rfl rfl rfl ?_ ?_; (focus (first | (assumption) | (exact decide_eq_true (by assumption)) | (exact decide_eq_false (by assumption)) | (simp only [decide_eq_true_eq, decide_eq_false_iff_not, Bool.not_eq_true', Bool.not_eq_false', Int.ofNat_lt, Int.ofNat_le, Int.ofNat_inj, not_true_eq_false, not_false_eq_true]; omega) | (simp <;> fail)))) | (refine LOps.gC rfl rfl rfl (fun h => ?_) (fun h => ?_))) | (refine LOps.ev tT_ok rfl ?_) | (refine kLoad ?_; first | (refine LOps.ans (AnsL.loadP tT_ok rfl rfl rfl rfl) ?_)) | (refine kLen ?_; first | (refine LOps.ans (AnsL.lenM tT_ok rfl rfl rfl) ?_) | (refine LOps.ans (AnsL.lenS tT_ok rfl rfl rfl rfl) ?_) | (refine LOps.ans (AnsL.lenG tT_ok rfl rfl rfl) ?_)) | (refine kBin ?_; first | (refine LOps.ans (AnsL.add rfl rfl ?_) ?_; (focus (constructor <;> omega))) | (refine LOps.ans (AnsL.arith rfl rfl rfl) ?_)) | (refine kIdx ?_; first | (refine LOps.ans (AnsL.idxA tT_ok rfl rfl rfl rfl rfl (by omega) rfl rfl) ?_) | (refine LOps.ans (AnsL.idxZ tT_ok rfl rfl rfl rfl rfl ?_ rfl rfl rfl) ?_; (focus (decide)))) | (refine kCallN 11 ?_; first | (refine LOps.ans (AnsL.callP rfl rfl rfl (ok11) (hbig _)) ?_)))
      | (refine kWL ?_; first | (refine WL.seq ?_) | (refine WL.region (by kernel_rfl) ?_) | (refine WL.drawn (id := 13) [0, 1, 2, 3, 4, 5, 6, 7, 8, 9, 10, 11, 12, 13] [13] [[], [0], [0, 1], [0, 1], [0, 1, 2, 3], [0, 1, 2, 3, 4], [0, 1], [0, 1], [0, 1, 6, 7], [0, 1, 6, 7, 8], [0, 1, 2, 3, 4, 5, 6, 7, 8, 9], [0, 1, 2, 3, 4, 5, 6, 7, 8, 9, 10], [0, 1, 2, 3, 4, 5, 6, 7, 8, 9, 10, 11], [0, 1, 2, 3, 4, 5, 6, 7, 8, 9, 10, 11, 12]] (by kernel_rfl) (by kernel_rfl) ?_) | (refine WL.drawn (id := 15) [0, 1, 2, 3, 4, 5, 6, 7, 8, 9, 10, 11, 12, 13, 14, 15] [] [[], [], [1], [0, 1, 2], [0, 1, 2, 3], [0, 1, 2, 3, 4], [0, 1, 2, 3, 4], [0, 1, 2, 3, 4, 5, 6], [0, 1, 2, 3, 4, 5, 6, 7], [0, 1, 2, 3, 4], [0, 1, 2, 3, 4], [0, 1, 2, 3, 4, 9, 10], [0, 1, 2, 3, 4, 9, 10, 11], [0, 1, 2, 3, 4, 5, 6, 7, 8, 9, 10, 11, 12], [0, 1, 2, 3, 4, 5, 6, 7, 8, 9, 10, 11, 12, 13], [0, 1, 2, 3, 4, 5, 6, 7, 8, 9, 10, 11, 12, 13, 14]] (by kernel_rfl) (by kernel_rfl) ?_) | (refine WL.block ?_) | (refine WL.exit ?_) | (refine WL.skip ?_) | (refine WL.ret ?_) | (refine kCond ?_; first | (refine WL.condT rfl ?_) | (refine WL.condF rfl ?_) | (refine WL.condT' rfl ?_ ?_; (focus (first | (assumption) | (exact decide_eq_true (by assumption)) | (exact decide_eq_false (by assumption)) | (simp only [decide_eq_true_eq, decide_eq_false_iff_not, Bool.not_eq_true', Bool.not_eq_false', Int.ofNat_lt, Int.ofNat_le, Int.ofNat_inj, not_true_eq_false, not_false_eq_true]; omega) | (simp <;> fail)))) | (refine WL.condF' rfl ?_ ?_; (focus (first | (assumption) | (exact decide_eq_true (by assumption)) | (exact decide_eq_false (by assumption)) | (simp only [decide_eq_true_eq, decide_eq_false_iff_not, Bool.not_eq_true', Bool.not_eq_false', Int.ofNat_lt, Int.ofNat_le, Int.ofNat_inj, not_true_eq_false, not_false_eq_true]; omega) | (simp <;> fail)))) | (refine WL.cond rfl (fun h => ?_) (fun h => ?_))))
      | (refine kDr ?_; first | (refine LDr.nil ?_) | (refine LDr.fl rfl rfl (.ev tT_ok rfl) ?_) | (refine LDr.gF rfl rfl rfl rfl rfl ?_) | (refine LDr.gU rfl rfl rfl rfl ?_) | (refine LDr.gT rfl rfl rfl rfl rfl (.ev tT_ok rfl) ?_) | (refine kDLoad rfl ?_; first | (refine LDr.fl rfl rfl (AnsL.loadP tT_ok rfl rfl rfl rfl) ?_) | (refine LDr.gT rfl rfl rfl rfl rfl (AnsL.loadP tT_ok rfl rfl rfl rfl) ?_)) | (refine kDLen rfl ?_; first | (refine LDr.fl rfl rfl (AnsL.lenM tT_ok rfl rfl rfl) ?_) | (refine LDr.gT rfl rfl rfl rfl rfl (AnsL.lenM tT_ok rfl rfl rfl) ?_) | (refine LDr.fl rfl rfl (AnsL.lenS tT_ok rfl rfl rfl rfl) ?_) | (refine LDr.gT rfl rfl rfl rfl rfl (AnsL.lenS tT_ok rfl rfl rfl rfl) ?_) | (refine LDr.fl rfl rfl (AnsL.lenG tT_ok rfl rfl rfl) ?_) | (refine LDr.gT rfl rfl rfl rfl rfl (AnsL.lenG tT_ok rfl rfl rfl) ?_)) | (refine kDBin rfl ?_; first | (refine LDr.fl rfl rfl (AnsL.add rfl rfl ?_) ?_; (focus (constructor <;> omega))) | (refine LDr.gT rfl rfl rfl rfl rfl (AnsL.add rfl rfl ?_) ?_; (focus (constructor <;> omega))) | (refine LDr.fl rfl rfl (AnsL.arith rfl rfl rfl) ?_) | (refine LDr.gT rfl rfl rfl rfl rfl (AnsL.arith rfl rfl rfl) ?_)) | (refine kDIdx rfl ?_; first | (refine LDr.fl rfl rfl (AnsL.idxA tT_ok rfl rfl rfl rfl rfl (by omega) rfl rfl) ?_) | (refine LDr.gT rfl rfl rfl rfl rfl (AnsL.idxA tT_ok rfl rfl rfl rfl rfl (by omega) rfl rfl) ?_) | (refine LDr.fl rfl rfl (AnsL.idxZ tT_ok rfl rfl rfl rfl rfl ?_ rfl rfl rfl) ?_; (focus (decide))) | (refine LDr.gT rfl rfl rfl rfl rfl (AnsL.idxZ tT_ok rfl rfl rfl rfl rfl ?_ rfl rfl rfl) ?_; (focus (decide)))) | (refine kDCallN 11 rfl ?_; first | (refine LDr.fl rfl rfl (AnsL.callP rfl rfl rfl (ok11) (hbig _)) ?_) | (refine LDr.gT rfl rfl rfl rfl rfl (AnsL.callP rfl rfl rfl (ok11) (hbig _)) ?_)) | (refine LDr.gD true rfl rfl rfl rfl ?_ ?_; (focus (first | (assumption) | (exact decide_eq_true (by assumption)) | (exact decide_eq_false (by assumption)) | (simp only [decide_eq_true_eq, decide_eq_false_iff_not, Bool.not_eq_true', Bool.not_eq_false', Int.ofNat_lt, Int.ofNat_le, Int.ofNat_inj, not_true_eq_false, not_false_eq_true]; omega) | (simp <;> fail)))) | (refine LDr.gD false rfl rfl rfl rfl ?_ ?_; (focus (first | (assumption) | (exact decide_eq_true (by assumption)) | (exact decide_eq_false (by assumption)) | (simp only [decide_eq_true_eq, decide_eq_false_iff_not, Bool.not_eq_true', Bool.not_eq_false', Int.ofNat_lt, Int.ofNat_le, Int.ofNat_inj, not_true_eq_false, not_false_eq_true]; omega) | (simp <;> fail)))) | (refine LDr.gC rfl rfl rfl rfl (fun h => ?_) (fun h => ?_)) | (refine LDr.eff rfl rfl rfl ?_))
      | (refine lthen_n ?_)
      | (refine lthen_r ?_)
      | (refine lthen_e ?_)
      | (refine lblock_n ?_)
      | (refine lblock_r ?_)
      | (refine lblock_e ?_)
      | (refine lblock_o rfl ?_)
      | (refine lback_r ?_)
      | (refine lback_e ?_)
      | (refine lbackD_r ?_)
      | (refine lbackD_e ?_)
      | (refine lbackH_r ?_)
      | (refine lbackH_e ?_)
      | (refine LPost.r1 (r := .tmp 2) (.inl rfl) (Res1.tmp rfl) ?_)
      | (refine PureR.mk ?_)
      | (refine And.intro ?_ ?_)
      | (exact StsL.nil)
      | (refine StsL.cons ?_ ?_)
      | (refine StL.fl rfl rfl (.ev tT_ok rfl))
      | (refine StL.fl rfl rfl (AnsL.loadP tT_ok rfl rfl rfl rfl))
      | (refine StL.fl rfl rfl (AnsL.lenM tT_ok rfl rfl rfl))
      | (refine StL.fl rfl rfl (AnsL.lenS tT_ok rfl rfl rfl rfl))
      | (refine StL.fl rfl rfl (AnsL.lenG tT_ok rfl rfl rfl))
      | (refine StL.fl rfl rfl (AnsL.add rfl rfl ?_); (focus (constructor <;> omega)))
      | (refine StL.fl rfl rfl (AnsL.sub rfl rfl ?_); (focus (constructor <;> omega)))
      | (refine StL.fl rfl rfl (AnsL.mul rfl rfl ?_); (focus (constructor <;> omega)))
      | (refine StL.fl rfl rfl (AnsL.arith rfl rfl rfl))
      | (refine StL.fl rfl rfl (AnsL.shr rfl rfl rfl))
      | (refine StL.fl rfl rfl (AnsL.cat rfl rfl ?_); (focus (first | omega | (simp; omega) | (simp <;> fail))))
      | (refine StL.fl rfl rfl (AnsL.idxA tT_ok rfl rfl rfl rfl rfl (by omega) rfl rfl))
      | (refine StL.fl rfl rfl (AnsL.idxM tT_ok rfl rfl rfl rfl rfl ?_); (focus (omega)))
      | (refine StL.fl rfl rfl (AnsL.idxZ tT_ok rfl rfl rfl rfl rfl ?_ rfl rfl rfl); (focus (decide)))
      | (refine StL.fl rfl rfl (AnsL.callP rfl rfl rfl (ok11) (hbig _)))
      | (refine StL.gF rfl rfl rfl rfl rfl)
      | (refine StL.gT rfl rfl rfl rfl rfl (.ev tT_ok rfl))
      | (refine StL.gT rfl rfl rfl rfl rfl (AnsL.loadP tT_ok rfl rfl rfl rfl))
      | (refine StL.gT rfl rfl rfl rfl rfl (AnsL.lenM tT_ok rfl rfl rfl))
      | (refine StL.gT rfl rfl rfl rfl rfl (AnsL.lenS tT_ok rfl rfl rfl rfl))
      | (refine StL.gT rfl rfl rfl rfl rfl (AnsL.lenG tT_ok rfl rfl rfl))
      | (refine StL.gT rfl rfl rfl rfl rfl (AnsL.add rfl rfl ?_); (focus (constructor <;> omega)))
      | (refine StL.gT rfl rfl rfl rfl rfl (AnsL.sub rfl rfl ?_); (focus (constructor <;> omega)))
      | (refine StL.gT rfl rfl rfl rfl rfl (AnsL.mul rfl rfl ?_); (focus (constructor <;> omega)))
      | (refine StL.gT rfl rfl rfl rfl rfl (AnsL.arith rfl rfl rfl))
      | (refine StL.gT rfl rfl rfl rfl rfl (AnsL.shr rfl rfl rfl))
      | (refine StL.gT rfl rfl rfl rfl rfl (AnsL.cat rfl rfl ?_); (focus (first | omega | (simp; omega) | (simp <;> fail))))
      | (refine StL.gT rfl rfl rfl rfl rfl (AnsL.idxA tT_ok rfl rfl rfl rfl rfl (by omega) rfl rfl))
      | (refine StL.gT rfl rfl rfl rfl rfl (AnsL.idxM tT_ok rfl rfl rfl rfl rfl ?_); (focus (omega)))
      | (refine StL.gT rfl rfl rfl rfl rfl (AnsL.idxZ tT_ok rfl rfl rfl rfl rfl ?_ rfl rfl rfl); (focus (decide)))
      | (refine StL.gT rfl rfl rfl rfl rfl (AnsL.callP rfl rfl rfl (ok11) (hbig _)))
    have hD := VCalls.pureOf (plainL_cons (plain_ValueSS x) rfl) (plain_ValueSS (distinct x)) (fun t => implDistinctRows_o x (by omega) t)
    obtain ⟨B, hB⟩ : ∃ B, B = distinct x := ⟨_, rfl⟩
    rw [← hB] at hD
    have hwB : slW (slW Val.wt) B ≤ 100 := by
      have := dist_wt (slW Val.wt) x []
      simp only [slW, sumW, List.length_nil, List.map_nil, List.sum_nil] at this hq
      rw [hB]
      simp only [slW, sumW, distinct]
      omega
    have hD2 := VCalls.pureOf (plainL_cons (plain_ValueSS B) rfl) (plain_ValueSS (distinct B)) (fun t => implDistinctRows_o B (by omega) t)
    rw [show distinct B = B by rw [hB, distinct_idem]] at hD2
    have hlx := len_slW (slW Val.wt) x
    have hlB := len_slW (slW Val.wt) B
    repeat' first
      | (refine kOps ?_; first | (refine LOps.nil ?_) | (refine kG ?_; first | (refine LOps.gT rfl rfl rfl ?_) | (refine LOps.gF rfl rfl rfl ?_) | (refine LOps.gU rfl rfl ?_) | (refine LOps.gFN rfl rfl rfl ?_) | (refine LOps.gD true rfl rfl rfl ?_ ?_; (focus (first | (assumption) | (exact decide_eq_true (by assumption)) | (exact decide_eq_false (by assumption)) | (simp only [decide_eq_true_eq, decide_eq_false_iff_not, Bool.not_eq_true', Bool.not_eq_false', Int.ofNat_lt, Int.ofNat_le, Int.ofNat_inj, not_true_eq_false, not_false_eq_true]; omega) | (simp <;> fail)))) | (refine LOps.gD false rfl rfl rfl ?_ ?_; (focus (first | (assumption) | (exact decide_eq_true (by assumption)) | (exact decide_eq_false (by assumption)) | (simp only [decide_eq_true_eq, decide_eq_false_iff_not, Bool.not_eq_true', Bool.not_eq_false', Int.ofNat_lt, Int.ofNat_le, Int.ofNat_inj, not_true_eq_false, not_false_eq_true]; omega) | (simp <;> fail)))) | (refine LOps.gC rfl rfl rfl (fun h => ?_) (fun h => ?_))) | (refine LOps.ev tT_ok rfl ?_) | (refine kLoad ?_; first | (refine LOps.ans (AnsL.loadP tT_ok rfl rfl rfl rfl) ?_)) | (refine kLen ?_; first | (refine LOps.ans (AnsL.lenM tT_ok rfl rfl rfl) ?_) | (refine LOps.ans (AnsL.lenS tT_ok rfl rfl rfl rfl) ?_) | (refine LOps.ans (AnsL.lenG tT_ok rfl rfl rfl) ?_)) | (refine kBin ?_; first | (refine LOps.ans (AnsL.add rfl rfl ?_) ?_; (focus (constructor <;> omega))) | (refine LOps.ans (AnsL.arith rfl rfl rfl) ?_)) | (refine kIdx ?_; first | (refine LOps.ans (AnsL.idxA tT_ok rfl rfl rfl rfl rfl (by omega) rfl rfl) ?_) | (refine LOps.ans (AnsL.idxZ tT_ok rfl rfl rfl rfl rfl ?_ rfl rfl rfl) ?_; (focus (decide)))) | (refine kCallN 20 ?_; first | (refine LOps.ans (AnsL.callP rfl rfl rfl (ok20) (hD _)) ?_)))
      | (refine kWL ?_; first | (refine WL.seq ?_) | (refine WL.region (by kernel_rfl) ?_) | (refine WL.drawn (id := 13) [0, 1, 2, 3, 4, 5, 6, 7, 8, 9, 10, 11, 12, 13] [13] [[], [0], [0, 1], [0, 1], [0, 1, 2, 3], [0, 1, 2, 3, 4], [0, 1], [0, 1], [0, 1, 6, 7], [0, 1, 6, 7, 8], [0, 1, 2, 3, 4, 5, 6, 7, 8, 9], [0, 1, 2, 3, 4, 5, 6, 7, 8, 9, 10], [0, 1, 2, 3, 4, 5, 6, 7, 8, 9, 10, 11], [0, 1, 2, 3, 4, 5, 6, 7, 8, 9, 10, 11, 12]] (by kernel_rfl) (by kernel_rfl) ?_) | (refine WL.drawn (id := 15) [0, 1, 2, 3, 4, 5, 6, 7, 8, 9, 10, 11, 12, 13, 14, 15] [] [[], [], [1], [0, 1, 2], [0, 1, 2, 3], [0, 1, 2, 3, 4], [0, 1, 2, 3, 4], [0, 1, 2, 3, 4, 5, 6], [0, 1, 2, 3, 4, 5, 6, 7], [0, 1, 2, 3, 4], [0, 1, 2, 3, 4], [0, 1, 2, 3, 4, 9, 10], [0, 1, 2, 3, 4, 9, 10, 11], [0, 1, 2, 3, 4, 5, 6, 7, 8, 9, 10, 11, 12], [0, 1, 2, 3, 4, 5, 6, 7, 8, 9, 10, 11, 12, 13], [0, 1, 2, 3, 4, 5, 6, 7, 8, 9, 10, 11, 12, 13, 14]] (by kernel_rfl) (by kernel_rfl) ?_) | (refine WL.block ?_) | (refine WL.exit ?_) | (refine WL.skip ?_) | (refine WL.ret ?_) | (refine kCond ?_; first | (refine WL.condT rfl ?_) | (refine WL.condF rfl ?_) | (refine WL.condT' rfl ?_ ?_; (focus (first | (assumption) | (exact decide_eq_true (by assumption)) | (exact decide_eq_false (by assumption)) | (simp only [decide_eq_true_eq, decide_eq_false_iff_not, Bool.not_eq_true', Bool.not_eq_false', Int.ofNat_lt, Int.ofNat_le, Int.ofNat_inj, not_true_eq_false, not_false_eq_true]; omega) | (simp <;> fail)))) | (refine WL.condF' rfl ?_ ?_; (focus (first | (assumption) | (exact decide_eq_true (by assumption)) | (exact decide_eq_false (by assumption)) | (simp only [decide_eq_true_eq, decide_eq_false_iff_not, Bool.not_eq_true', Bool.not_eq_false', Int.ofNat_lt, Int.ofNat_le, Int.ofNat_inj, not_true_eq_false, not_false_eq_true]; omega) | (simp <;> fail)))) | (refine WL.cond rfl (fun h => ?_) (fun h => ?_))))
      | (refine kDr ?_; first | (refine LDr.nil ?_) | (refine LDr.fl rfl rfl (.ev tT_ok rfl) ?_) | (refine LDr.gF rfl rfl rfl rfl rfl ?_) | (refine LDr.gU rfl rfl rfl rfl ?_) | (refine LDr.gT rfl rfl rfl rfl rfl (.ev tT_ok rfl) ?_) | (refine kDLoad rfl ?_; first | (refine LDr.fl rfl rfl (AnsL.loadP tT_ok rfl rfl rfl rfl) ?_) | (refine LDr.gT rfl rfl rfl rfl rfl (AnsL.loadP tT_ok rfl rfl rfl rfl) ?_)) | (refine kDLen rfl ?_; first | (refine LDr.fl rfl rfl (AnsL.lenM tT_ok rfl rfl rfl) ?_) | (refine LDr.gT rfl rfl rfl rfl rfl (AnsL.lenM tT_ok rfl rfl rfl) ?_) | (refine LDr.fl rfl rfl (AnsL.lenS tT_ok rfl rfl rfl rfl) ?_) | (refine LDr.gT rfl rfl rfl rfl rfl (AnsL.lenS tT_ok rfl rfl rfl rfl) ?_) | (refine LDr.fl rfl rfl (AnsL.lenG tT_ok rfl rfl rfl) ?_) | (refine LDr.gT rfl rfl rfl rfl rfl (AnsL.lenG tT_ok rfl rfl rfl) ?_)) | (refine kDBin rfl ?_; first | (refine LDr.fl rfl rfl (AnsL.add rfl rfl ?_) ?_; (focus (constructor <;> omega))) | (refine LDr.gT rfl rfl rfl rfl rfl (AnsL.add rfl rfl ?_) ?_; (focus (constructor <;> omega))) | (refine LDr.fl rfl rfl (AnsL.arith rfl rfl rfl) ?_) | (refine LDr.gT rfl rfl rfl rfl rfl (AnsL.arith rfl rfl rfl) ?_)) | (refine kDIdx rfl ?_; first | (refine LDr.fl rfl rfl (AnsL.idxA tT_ok rfl rfl rfl rfl rfl (by omega) rfl rfl) ?_) | (refine LDr.gT rfl rfl rfl rfl rfl (AnsL.idxA tT_ok rfl rfl rfl rfl rfl (by omega) rfl rfl) ?_) | (refine LDr.fl rfl rfl (AnsL.idxZ tT_ok rfl rfl rfl rfl rfl ?_ rfl rfl rfl) ?_; (focus (decide))) | (refine LDr.gT rfl rfl rfl rfl rfl (AnsL.idxZ tT_ok rfl rfl rfl rfl rfl ?_ rfl rfl rfl) ?_; (focus (decide)))) | (refine kDCallN 20 rfl ?_; first | (refine LDr.fl rfl rfl (AnsL.callP rfl rfl rfl (ok20) (hD _)) ?_) | (refine LDr.gT rfl rfl rfl rfl rfl (AnsL.callP rfl rfl rfl (ok20) (hD _)) ?_)) | (refine LDr.gD true rfl rfl rfl rfl ?_ ?_; (focus (first | (assumption) | (exact decide_eq_true (by assumption)) | (exact decide_eq_false (by assumption)) | (simp only [decide_eq_true_eq, decide_eq_false_iff_not, Bool.not_eq_true', Bool.not_eq_false', Int.ofNat_lt, Int.ofNat_le, Int.ofNat_inj, not_true_eq_false, not_false_eq_true]; omega) | (simp <;> fail)))) | (refine LDr.gD false rfl rfl rfl rfl ?_ ?_; (focus (first | (assumption) | (exact decide_eq_true (by assumption)) | (exact decide_eq_false (by assumption)) | (simp only [decide_eq_true_eq, decide_eq_false_iff_not, Bool.not_eq_true', Bool.not_eq_false', Int.ofNat_lt, Int.ofNat_le, Int.ofNat_inj, not_true_eq_false, not_false_eq_true]; omega) | (simp <;> fail)))) | (refine LDr.gC rfl rfl rfl rfl (fun h => ?_) (fun h => ?_)) | (refine LDr.eff rfl rfl rfl ?_))
      | (refine lthen_n ?_)
      | (refine lthen_r ?_)
      | (refine lthen_e ?_)
      | (refine lblock_n ?_)
      | (refine lblock_r ?_)
      | (refine lblock_e ?_)
      | (refine lblock_o rfl ?_)
      | (refine lback_r ?_)
      | (refine lback_e ?_)
      | (refine lbackD_r ?_)
      | (refine lbackD_e ?_)
      | (refine lbackH_r ?_)
      | (refine lbackH_e ?_)
      | (refine LPost.r1 (r := .tmp 2) (.inl rfl) (Res1.tmp rfl) ?_)
      | (refine PureR.mk ?_)
      | (refine And.intro ?_ ?_)
      | (exact StsL.nil)
      | (refine StsL.cons ?_ ?_)
      | (refine StL.fl rfl rfl (.ev tT_ok rfl))
      | (refine StL.fl rfl rfl (AnsL.loadP tT_ok rfl rfl rfl rfl))
      | (refine StL.fl rfl rfl (AnsL.lenM tT_ok rfl rfl rfl))
      | (refine StL.fl rfl rfl (AnsL.lenS tT_ok rfl rfl rfl rfl))
      | (refine StL.fl rfl rfl (AnsL.lenG tT_ok rfl rfl rfl))
      | (refine StL.fl rfl rfl (AnsL.add rfl rfl ?_); (focus (constructor <;> omega)))
      | (refine StL.fl rfl rfl (AnsL.sub rfl rfl ?_); (focus (constructor <;> omega)))
      | (refine StL.fl rfl rfl (AnsL.mul rfl rfl ?_); (focus (constructor <;> omega)))
      | (refine StL.fl rfl rfl (AnsL.arith rfl rfl rfl))
      | (refine StL.fl rfl rfl (AnsL.shr rfl rfl rfl))
      | (refine StL.fl rfl rfl (AnsL.cat rfl rfl ?_); (focus (first | omega | (simp; omega) | (simp <;> fail))))
      | (refine StL.fl rfl rfl (AnsL.idxA tT_ok rfl rfl rfl rfl rfl (by omega) rfl rfl))
      | (refine StL.fl rfl rfl (AnsL.idxM tT_ok rfl rfl rfl rfl rfl ?_); (focus (omega)))
      | (refine StL.fl rfl rfl (AnsL.idxZ tT_ok rfl rfl rfl rfl rfl ?_ rfl rfl rfl); (focus (decide)))
      | (refine StL.fl rfl rfl (AnsL.callP rfl rfl rfl (ok20) (hD _)))
      | (refine StL.gF rfl rfl rfl rfl rfl)
      | (refine StL.gT rfl rfl rfl rfl rfl (.ev tT_ok rfl))
      | (refine StL.gT rfl rfl rfl rfl rfl (AnsL.loadP tT_ok rfl rfl rfl rfl))
      | (refine StL.gT rfl rfl rfl rfl rfl (AnsL.lenM tT_ok rfl rfl rfl))
      | (refine StL.gT rfl rfl rfl rfl rfl (AnsL.lenS tT_ok rfl rfl rfl rfl))
      | (refine StL.gT rfl rfl rfl rfl rfl (AnsL.lenG tT_ok rfl rfl rfl))
      | (refine StL.gT rfl rfl rfl rfl rfl (AnsL.add rfl rfl ?_); (focus (constructor <;> omega)))
      | (refine StL.gT rfl rfl rfl rfl rfl (AnsL.sub rfl rfl ?_); (focus (constructor <;> omega)))
      | (refine StL.gT rfl rfl rfl rfl rfl (AnsL.mul rfl rfl ?_); (focus (constructor <;> omega)))
      | (refine StL.gT rfl rfl rfl rfl rfl (AnsL.arith rfl rfl rfl))
      | (refine StL.gT rfl rfl rfl rfl rfl (AnsL.shr rfl rfl rfl))
      | (refine StL.gT rfl rfl rfl rfl rfl (AnsL.cat rfl rfl ?_); (focus (first | omega | (simp; omega) | (simp <;> fail))))
      | (refine StL.gT rfl rfl rfl rfl rfl (AnsL.idxA tT_ok rfl rfl rfl rfl rfl (by omega) rfl rfl))
      | (refine StL.gT rfl rfl rfl rfl rfl (AnsL.idxM tT_ok rfl rfl rfl rfl rfl ?_); (focus (omega)))
      | (refine StL.gT rfl rfl rfl rfl rfl (AnsL.idxZ tT_ok rfl rfl rfl rfl rfl ?_ rfl rfl rfl); (focus (decide)))
      | (refine StL.gT rfl rfl rfl rfl rfl (AnsL.callP rfl rfl rfl (ok20) (hD _)))
    refine WL.loopH (fun i : Nat => x.length - i) (fun i => [(3, .sl 0 (x.map Val.toVS)), (4, .sl 0 (B.map Val.toVS)), (5, .int .i64 (((x.take i).foldl dstep []).length : Nat)), (6, .int .i64 (i : Int))]) (fun _ => [])
      (fun i => i ≤ x.length) 0 (Nat.zero_le _) ⟨rfl, rfl, rfl, rfl, trivial⟩ hh (Sel.refl _) (fun i s hi hh => ?_)
    try dsimp only at hi hh ⊢
    have hdl := dist_len (x.take i) []
    rw [List.length_nil, List.length_take] at hdl
    rcases Nat.lt_or_ge i x.length with hlt | hge
    · have hst := dist_take hlt
      rw [dstep_eq] at hst
      obtain ⟨rest, hr⟩ := dist_pre (x.drop (i + 1)) ((x.take (i + 1)).foldl dstep [])
      rw [← List.foldl_append, List.take_append_drop] at hr
      have hr : B = (x.take (i + 1)).foldl dstep [] ++ rest := by rw [hB]; exact hr
      have hmem := dist_mem_iff (x.take i) x[i]
      have hxi : x[i].length ≤ 1048576 := rows_mem (rows := x) (by omega) (List.getElem_mem hlt)
      repeat' first
        | (refine kOps ?_; first | (refine LOps.nil ?_) | (refine kG ?_; first | (refine LOps.gT rfl rfl rfl ?_) | (refine LOps.gF rfl rfl rfl ?_) | (refine LOps.gU rfl rfl ?_) | (refine LOps.gFN rfl rfl rfl ?_) | (refine LOps.gD true rfl rfl rfl ?_ ?_; (focus (first | (assumption) | (exact decide_eq_true (by assumption)) | (exact decide_eq_false (by assumption)) | (simp only [decide_eq_true_eq, decide_eq_false_iff_not, Bool.not_eq_true', Bool.not_eq_false', Int.ofNat_lt, Int.ofNat_le, Int.ofNat_inj, not_true_eq_false, not_false_eq_true]; omega) | (simp <;> fail)))) | (refine LOps.gD false rfl rfl rfl ?_ ?_; (focus (first | (assumption) | (exact decide_eq_true (by assumption)) | (exact decide_eq_false (by assumption)) | (simp only [decide_eq_true_eq, decide_eq_false_iff_not, Bool.not_eq_true', Bool.not_eq_false', Int.ofNat_lt, Int.ofNat_le, Int.ofNat_inj, not_true_eq_false, not_false_eq_true]; omega) | (simp <;> fail)))) | (refine LOps.gC rfl rfl rfl (fun h => ?_) (fun h => ?_))) | (refine LOps.ev tT_ok rfl ?_) | (refine kLoad ?_; first | (refine LOps.ans (AnsL.loadP tT_ok rfl rfl rfl rfl) ?_)) | (refine kLen ?_; first | (refine LOps.ans (AnsL.lenM tT_ok rfl rfl rfl) ?_) | (refine LOps.ans (AnsL.lenS tT_ok rfl rfl rfl rfl) ?_) | (refine LOps.ans (AnsL.lenG tT_ok rfl rfl rfl) ?_)) | (refine kBin ?_; first | (refine LOps.ans (AnsL.add rfl rfl ?_) ?_; (focus (constructor <;> omega))) | (refine LOps.ans (AnsL.arith rfl rfl rfl) ?_)) | (refine kIdx ?_; first | (refine LOps.ans (AnsL.idxA tT_ok rfl rfl rfl rfl rfl (by omega) rfl rfl) ?_) | (refine LOps.ans (AnsL.idxZ tT_ok rfl rfl rfl rfl rfl ?_ rfl rfl rfl) ?_; (focus (decide)))))
        | (refine kWL ?_; first | (refine WL.seq ?_) | (refine WL.region (by kernel_rfl) ?_) | (refine WL.drawn (id := 13) [0, 1, 2, 3, 4, 5, 6, 7, 8, 9, 10, 11, 12, 13] [13] [[], [0], [0, 1], [0, 1], [0, 1, 2, 3], [0, 1, 2, 3, 4], [0, 1], [0, 1], [0, 1, 6, 7], [0, 1, 6, 7, 8], [0, 1, 2, 3, 4, 5, 6, 7, 8, 9], [0, 1, 2, 3, 4, 5, 6, 7, 8, 9, 10], [0, 1, 2, 3, 4, 5, 6, 7, 8, 9, 10, 11], [0, 1, 2, 3, 4, 5, 6, 7, 8, 9, 10, 11, 12]] (by kernel_rfl) (by kernel_rfl) ?_) | (refine WL.drawn (id := 15) [0, 1, 2, 3, 4, 5, 6, 7, 8, 9, 10, 11, 12, 13, 14, 15] [] [[], [], [1], [0, 1, 2], [0, 1, 2, 3], [0, 1, 2, 3, 4], [0, 1, 2, 3, 4], [0, 1, 2, 3, 4, 5, 6], [0, 1, 2, 3, 4, 5, 6, 7], [0, 1, 2, 3, 4], [0, 1, 2, 3, 4], [0, 1, 2, 3, 4, 9, 10], [0, 1, 2, 3, 4, 9, 10, 11], [0, 1, 2, 3, 4, 5, 6, 7, 8, 9, 10, 11, 12], [0, 1, 2, 3, 4, 5, 6, 7, 8, 9, 10, 11, 12, 13], [0, 1, 2, 3, 4, 5, 6, 7, 8, 9, 10, 11, 12, 13, 14]] (by kernel_rfl) (by kernel_rfl) ?_) | (refine WL.block ?_) | (refine WL.exit ?_) | (refine WL.skip ?_) | (refine WL.ret ?_) | (refine kCond ?_; first | (refine WL.condT rfl ?_) | (refine WL.condF rfl ?_) | (refine WL.condT' rfl ?_ ?_; (focus (first | (assumption) | (exact decide_eq_true (by assumption)) | (exact decide_eq_false (by assumption)) | (simp only [decide_eq_true_eq, decide_eq_false_iff_not, Bool.not_eq_true', Bool.not_eq_false', Int.ofNat_lt, Int.ofNat_le, Int.ofNat_inj, not_true_eq_false, not_false_eq_true]; omega) | (simp <;> fail)))) | (refine WL.condF' rfl ?_ ?_; (focus (first | (assumption) | (exact decide_eq_true (by assumption)) | (exact decide_eq_false (by assumption)) | (simp only [decide_eq_true_eq, decide_eq_false_iff_not, Bool.not_eq_true', Bool.not_eq_false', Int.ofNat_lt, Int.ofNat_le, Int.ofNat_inj, not_true_eq_false, not_false_eq_true]; omega) | (simp <;> fail)))) | (refine WL.cond rfl (fun h => ?_) (fun h => ?_))))
        | (refine kDr ?_; first | (refine LDr.nil ?_) | (refine LDr.fl rfl rfl (.ev tT_ok rfl) ?_) | (refine LDr.gF rfl rfl rfl rfl rfl ?_) | (refine LDr.gU rfl rfl rfl rfl ?_) | (refine LDr.gT rfl rfl rfl rfl rfl (.ev tT_ok rfl) ?_) | (refine kDLoad rfl ?_; first | (refine LDr.fl rfl rfl (AnsL.loadP tT_ok rfl rfl rfl rfl) ?_) | (refine LDr.gT rfl rfl rfl rfl rfl (AnsL.loadP tT_ok rfl rfl rfl rfl) ?_)) | (refine kDLen rfl ?_; first | (refine LDr.fl rfl rfl (AnsL.lenM tT_ok rfl rfl rfl) ?_) | (refine LDr.gT rfl rfl rfl rfl rfl (AnsL.lenM tT_ok rfl rfl rfl) ?_) | (refine LDr.fl rfl rfl (AnsL.lenS tT_ok rfl rfl rfl rfl) ?_) | (refine LDr.gT rfl rfl rfl rfl rfl (AnsL.lenS tT_ok rfl rfl rfl rfl) ?_) | (refine LDr.fl rfl rfl (AnsL.lenG tT_ok rfl rfl rfl) ?_) | (refine LDr.gT rfl rfl rfl rfl rfl (AnsL.lenG tT_ok rfl rfl rfl) ?_)) | (refine kDBin rfl ?_; first | (refine LDr.fl rfl rfl (AnsL.add rfl rfl ?_) ?_; (focus (constructor <;> omega))) | (refine LDr.gT rfl rfl rfl rfl rfl (AnsL.add rfl rfl ?_) ?_; (focus (constructor <;> omega))) | (refine LDr.fl rfl rfl (AnsL.arith rfl rfl rfl) ?_) | (refine LDr.gT rfl rfl rfl rfl rfl (AnsL.arith rfl rfl rfl) ?_)) | (refine kDIdx rfl ?_; first | (refine LDr.fl rfl rfl (AnsL.idxA tT_ok rfl rfl rfl rfl rfl (by omega) rfl rfl) ?_) | (refine LDr.gT rfl rfl rfl rfl rfl (AnsL.idxA tT_ok rfl rfl rfl rfl rfl (by omega) rfl rfl) ?_) | (refine LDr.fl rfl rfl (AnsL.idxZ tT_ok rfl rfl rfl rfl rfl ?_ rfl rfl rfl) ?_; (focus (decide))) | (refine LDr.gT rfl rfl rfl rfl rfl (AnsL.idxZ tT_ok rfl rfl rfl rfl rfl ?_ rfl rfl rfl) ?_; (focus (decide)))) | (refine LDr.gD true rfl rfl rfl rfl ?_ ?_; (focus (first | (assumption) | (exact decide_eq_true (by assumption)) | (exact decide_eq_false (by assumption)) | (simp only [decide_eq_true_eq, decide_eq_false_iff_not, Bool.not_eq_true', Bool.not_eq_false', Int.ofNat_lt, Int.ofNat_le, Int.ofNat_inj, not_true_eq_false, not_false_eq_true]; omega) | (simp <;> fail)))) | (refine LDr.gD false rfl rfl rfl rfl ?_ ?_; (focus (first | (assumption) | (exact decide_eq_true (by assumption)) | (exact decide_eq_false (by assumption)) | (simp only [decide_eq_true_eq, decide_eq_false_iff_not, Bool.not_eq_true', Bool.not_eq_false', Int.ofNat_lt, Int.ofNat_le, Int.ofNat_inj, not_true_eq_false, not_false_eq_true]; omega) | (simp <;> fail)))) | (refine LDr.gC rfl rfl rfl rfl (fun h => ?_) (fun h => ?_)) | (refine LDr.eff rfl rfl rfl ?_))
        | (refine lthen_n ?_)
        | (refine lthen_r ?_)
        | (refine lthen_e ?_)
        | (refine lblock_n ?_)
        | (refine lblock_r ?_)
        | (refine lblock_e ?_)
        | (refine lblock_o rfl ?_)
        | (refine lback_r ?_)
        | (refine lback_e ?_)
        | (refine lbackD_r ?_)
        | (refine lbackD_e ?_)
        | (refine lbackH_r ?_)
        | (refine lbackH_e ?_)
        | (refine LPost.r1 (r := .tmp 2) (.inl rfl) (Res1.tmp rfl) ?_)
        | (refine PureR.mk ?_)
        | (refine And.intro ?_ ?_)
        | (exact StsL.nil)
        | (refine StsL.cons ?_ ?_)
        | (refine StL.fl rfl rfl (.ev tT_ok rfl))
        | (refine StL.fl rfl rfl (AnsL.loadP tT_ok rfl rfl rfl rfl))
        | (refine StL.fl rfl rfl (AnsL.lenM tT_ok rfl rfl rfl))
        | (refine StL.fl rfl rfl (AnsL.lenS tT_ok rfl rfl rfl rfl))
        | (refine StL.fl rfl rfl (AnsL.lenG tT_ok rfl rfl rfl))
        | (refine StL.fl rfl rfl (AnsL.add rfl rfl ?_); (focus (constructor <;> omega)))
        | (refine StL.fl rfl rfl (AnsL.sub rfl rfl ?_); (focus (constructor <;> omega)))
        | (refine StL.fl rfl rfl (AnsL.mul rfl rfl ?_); (focus (constructor <;> omega)))
        | (refine StL.fl rfl rfl (AnsL.arith rfl rfl rfl))
        | (refine StL.fl rfl rfl (AnsL.shr rfl rfl rfl))
        | (refine StL.fl rfl rfl (AnsL.cat rfl rfl ?_); (focus (first | omega | (simp; omega) | (simp <;> fail))))
        | (refine StL.fl rfl rfl (AnsL.idxA tT_ok rfl rfl rfl rfl rfl (by omega) rfl rfl))
        | (refine StL.fl rfl rfl (AnsL.idxM tT_ok rfl rfl rfl rfl rfl ?_); (focus (omega)))
        | (refine StL.fl rfl rfl (AnsL.idxZ tT_ok rfl rfl rfl rfl rfl ?_ rfl rfl rfl); (focus (decide)))
        | (refine StL.gF rfl rfl rfl rfl rfl)
        | (refine StL.gT rfl rfl rfl rfl rfl (.ev tT_ok rfl))
        | (refine StL.gT rfl rfl rfl rfl rfl (AnsL.loadP tT_ok rfl rfl rfl rfl))
        | (refine StL.gT rfl rfl rfl rfl rfl (AnsL.lenM tT_ok rfl rfl rfl))
        | (refine StL.gT rfl rfl rfl rfl rfl (AnsL.lenS tT_ok rfl rfl rfl rfl))
        | (refine StL.gT rfl rfl rfl rfl rfl (AnsL.lenG tT_ok rfl rfl rfl))
        | (refine StL.gT rfl rfl rfl rfl rfl (AnsL.add rfl rfl ?_); (focus (constructor <;> omega)))
        | (refine StL.gT rfl rfl rfl rfl rfl (AnsL.sub rfl rfl ?_); (focus (constructor <;> omega)))
        | (refine StL.gT rfl rfl rfl rfl rfl (AnsL.mul rfl rfl ?_); (focus (constructor <;> omega)))
        | (refine StL.gT rfl rfl rfl rfl rfl (AnsL.arith rfl rfl rfl))
        | (refine StL.gT rfl rfl rfl rfl rfl (AnsL.shr rfl rfl rfl))
        | (refine StL.gT rfl rfl rfl rfl rfl (AnsL.cat rfl rfl ?_); (focus (first | omega | (simp; omega) | (simp <;> fail))))
        | (refine StL.gT rfl rfl rfl rfl rfl (AnsL.idxA tT_ok rfl rfl rfl rfl rfl (by omega) rfl rfl))
        | (refine StL.gT rfl rfl rfl rfl rfl (AnsL.idxM tT_ok rfl rfl rfl rfl rfl ?_); (focus (omega)))
        | (refine StL.gT rfl rfl rfl rfl rfl (AnsL.idxZ tT_ok rfl rfl rfl rfl rfl ?_ rfl rfl rfl); (focus (decide)))
      refine WL.loopH (fun j : Nat => i - j) (fun j => [(3, .sl 0 (x.map Val.toVS)), (4, .sl 0 (B.map Val.toVS)), (5, .int .i64 (((x.take i).foldl dstep []).length : Nat)), (6, .int .i64 (i : Int)), (7, .bool (decide (x[i] ∈ x.take j))), (8, .int .i64 (j : Int))]) (fun _ => [])
        (fun j => j ≤ i) 0 (Nat.zero_le _) ⟨rfl, rfl, rfl, rfl, by simp <;> rfl, rfl, trivial⟩ hh (Sel.refl _) (fun j s hj hh => ?_)
      try dsimp only at hj hh ⊢
      rcases Nat.lt_or_ge j i with hjl | hjg
      · have hjx : j < x.length := by omega
        have hxj : x[j].length ≤ 1048576 := rows_mem (rows := x) (by omega) (List.getElem_mem hjx)
        have hO := fun t => specOrderRow_v x[j] x[i] hxj hxi t
        have h0 := ordL_0 x[j] x[i]
        have hnx : (x[i] ∈ x.take (j + 1)) ↔ (x[i] ∈ x.take j ∨ x[j] = x[i]) := by
          rw [List.take_succ_eq_append_getElem hjx, List.mem_append, List.mem_singleton]
          exact ⟨fun h => h.imp id Eq.symm, fun h => h.imp id Eq.symm⟩
        by_cases hs : x[i] ∈ x.take j
        · rw [decide_eq_true hs]
          repeat' first
            | (refine kOps ?_; first | (refine LOps.nil ?_) | (refine kG ?_; first | (refine LOps.gT rfl rfl rfl ?_) | (refine LOps.gF rfl rfl rfl ?_) | (refine LOps.gU rfl rfl ?_) | (refine LOps.gFN rfl rfl rfl ?_) | (refine LOps.gD true rfl rfl rfl ?_ ?_; (focus (first | (assumption) | (exact decide_eq_true (by assumption)) | (exact decide_eq_false (by assumption)) | (simp only [decide_eq_true_eq, decide_eq_false_iff_not, Bool.not_eq_true', Bool.not_eq_false', Int.ofNat_lt, Int.ofNat_le, Int.ofNat_inj, not_true_eq_false, not_false_eq_true]; omega) | (simp <;> fail)))) | (refine LOps.gD false rfl rfl rfl ?_ ?_; (focus (first | (assumption) | (exact decide_eq_true (by assumption)) | (exact decide_eq_false (by assumption)) | (simp only [decide_eq_true_eq, decide_eq_false_iff_not, Bool.not_eq_true', Bool.not_eq_false', Int.ofNat_lt, Int.ofNat_le, Int.ofNat_inj, not_true_eq_false, not_false_eq_true]; omega) | (simp <;> fail)))) | (refine LOps.gC rfl rfl rfl (fun h => ?_) (fun h => ?_))) | (refine LOps.ev tT_ok rfl ?_) | (refine kLoad ?_; first | (refine LOps.ans (AnsL.loadP tT_ok rfl rfl rfl rfl) ?_)) | (refine kLen ?_; first | (refine LOps.ans (AnsL.lenM tT_ok rfl rfl rfl) ?_) | (refine LOps.ans (AnsL.lenS tT_ok rfl rfl rfl rfl) ?_) | (refine LOps.ans (AnsL.lenG tT_ok rfl rfl rfl) ?_)) | (refine kBin ?_; first | (refine LOps.ans (AnsL.add rfl rfl ?_) ?_; (focus (constructor <;> omega))) | (refine LOps.ans (AnsL.arith rfl rfl rfl) ?_)) | (refine kIdx ?_; first | (refine LOps.ans (AnsL.idxA tT_ok rfl rfl rfl rfl rfl (by omega) rfl rfl) ?_) | (refine LOps.ans (AnsL.idxZ tT_ok rfl rfl rfl rfl rfl ?_ rfl rfl rfl) ?_; (focus (decide)))) | (refine kCallN 21 ?_; first | (refine LOps.ans (AnsL.callP rfl rfl rfl (ok21) (hO _)) ?_)))
            | (refine kWL ?_; first | (refine WL.seq ?_) | (refine WL.region (by kernel_rfl) ?_) | (refine WL.drawn (id := 13) [0, 1, 2, 3, 4, 5, 6, 7, 8, 9, 10, 11, 12, 13] [13] [[], [0], [0, 1], [0, 1], [0, 1, 2, 3], [0, 1, 2, 3, 4], [0, 1], [0, 1], [0, 1, 6, 7], [0, 1, 6, 7, 8], [0, 1, 2, 3, 4, 5, 6, 7, 8, 9], [0, 1, 2, 3, 4, 5, 6, 7, 8, 9, 10], [0, 1, 2, 3, 4, 5, 6, 7, 8, 9, 10, 11], [0, 1, 2, 3, 4, 5, 6, 7, 8, 9, 10, 11, 12]] (by kernel_rfl) (by kernel_rfl) ?_) | (refine WL.drawn (id := 15) [0, 1, 2, 3, 4, 5, 6, 7, 8, 9, 10, 11, 12, 13, 14, 15] [] [[], [], [1], [0, 1, 2], [0, 1, 2, 3], [0, 1, 2, 3, 4], [0, 1, 2, 3, 4], [0, 1, 2, 3, 4, 5, 6], [0, 1, 2, 3, 4, 5, 6, 7], [0, 1, 2, 3, 4], [0, 1, 2, 3, 4], [0, 1, 2, 3, 4, 9, 10], [0, 1, 2, 3, 4, 9, 10, 11], [0, 1, 2, 3, 4, 5, 6, 7, 8, 9, 10, 11, 12], [0, 1, 2, 3, 4, 5, 6, 7, 8, 9, 10, 11, 12, 13], [0, 1, 2, 3, 4, 5, 6, 7, 8, 9, 10, 11, 12, 13, 14]] (by kernel_rfl) (by kernel_rfl) ?_) | (refine WL.block ?_) | (refine WL.exit ?_) | (refine WL.skip ?_) | (refine WL.ret ?_) | (refine kCond ?_; first | (refine WL.condT rfl ?_) | (refine WL.condF rfl ?_) | (refine WL.condT' rfl ?_ ?_; (focus (first | (assumption) | (exact decide_eq_true (by assumption)) | (exact decide_eq_false (by assumption)) | (simp only [decide_eq_true_eq, decide_eq_false_iff_not, Bool.not_eq_true', Bool.not_eq_false', Int.ofNat_lt, Int.ofNat_le, Int.ofNat_inj, not_true_eq_false, not_false_eq_true]; omega) | (simp <;> fail)))) | (refine WL.condF' rfl ?_ ?_; (focus (first | (assumption) | (exact decide_eq_true (by assumption)) | (exact decide_eq_false (by assumption)) | (simp only [decide_eq_true_eq, decide_eq_false_iff_not, Bool.not_eq_true', Bool.not_eq_false', Int.ofNat_lt, Int.ofNat_le, Int.ofNat_inj, not_true_eq_false, not_false_eq_true]; omega) | (simp <;> fail)))) | (refine WL.cond rfl (fun h => ?_) (fun h => ?_))))
            | (refine kDr ?_; first | (refine LDr.nil ?_) | (refine LDr.fl rfl rfl (.ev tT_ok rfl) ?_) | (refine LDr.gF rfl rfl rfl rfl rfl ?_) | (refine LDr.gU rfl rfl rfl rfl ?_) | (refine LDr.gT rfl rfl rfl rfl rfl (.ev tT_ok rfl) ?_) | (refine kDLoad rfl ?_; first | (refine LDr.fl rfl rfl (AnsL.loadP tT_ok rfl rfl rfl rfl) ?_) | (refine LDr.gT rfl rfl rfl rfl rfl (AnsL.loadP tT_ok rfl rfl rfl rfl) ?_)) | (refine kDLen rfl ?_; first | (refine LDr.fl rfl rfl (AnsL.lenM tT_ok rfl rfl rfl) ?_) | (refine LDr.gT rfl rfl rfl rfl rfl (AnsL.lenM tT_ok rfl rfl rfl) ?_) | (refine LDr.fl rfl rfl (AnsL.lenS tT_ok rfl rfl rfl rfl) ?_) | (refine LDr.gT rfl rfl rfl rfl rfl (AnsL.lenS tT_ok rfl rfl rfl rfl) ?_) | (refine LDr.fl rfl rfl (AnsL.lenG tT_ok rfl rfl rfl) ?_) | (refine LDr.gT rfl rfl rfl rfl rfl (AnsL.lenG tT_ok rfl rfl rfl) ?_)) | (refine kDBin rfl ?_; first | (refine LDr.fl rfl rfl (AnsL.add rfl rfl ?_) ?_; (focus (constructor <;> omega))) | (refine LDr.gT rfl rfl rfl rfl rfl (AnsL.add rfl rfl ?_) ?_; (focus (constructor <;> omega))) | (refine LDr.fl rfl rfl (AnsL.arith rfl rfl rfl) ?_) | (refine LDr.gT rfl rfl rfl rfl rfl (AnsL.arith rfl rfl rfl) ?_)) | (refine kDIdx rfl ?_; first | (refine LDr.fl rfl rfl (AnsL.idxA tT_ok rfl rfl rfl rfl rfl (by omega) rfl rfl) ?_) | (refine LDr.gT rfl rfl rfl rfl rfl (AnsL.idxA tT_ok rfl rfl rfl rfl rfl (by omega) rfl rfl) ?_) | (refine LDr.fl rfl rfl (AnsL.idxZ tT_ok rfl rfl rfl rfl rfl ?_ rfl rfl rfl) ?_; (focus (decide))) | (refine LDr.gT rfl rfl rfl rfl rfl (AnsL.idxZ tT_ok rfl rfl rfl rfl rfl ?_ rfl rfl rfl) ?_; (focus (decide)))) | (refine kDCallN 21 rfl ?_; first | (refine LDr.fl rfl rfl (AnsL.callP rfl rfl rfl (ok21) (hO _)) ?_) | (refine LDr.gT rfl rfl rfl rfl rfl (AnsL.callP rfl rfl rfl (ok21) (hO _)) ?_)) | (refine LDr.gD true rfl rfl rfl rfl ?_ ?_; (focus (first | (assumption) | (exact decide_eq_true (by assumption)) | (exact decide_eq_false (by assumption)) | (simp only [decide_eq_true_eq, decide_eq_false_iff_not, Bool.not_eq_true', Bool.not_eq_false', Int.ofNat_lt, Int.ofNat_le, Int.ofNat_inj, not_true_eq_false, not_false_eq_true]; omega) | (simp <;> fail)))) | (refine LDr.gD false rfl rfl rfl rfl ?_ ?_; (focus (first | (assumption) | (exact decide_eq_true (by assumption)) | (exact decide_eq_false (by assumption)) | (simp only [decide_eq_true_eq, decide_eq_false_iff_not, Bool.not_eq_true', Bool.not_eq_false', Int.ofNat_lt, Int.ofNat_le, Int.ofNat_inj, not_true_eq_false, not_false_eq_true]; omega) | (simp <;> fail)))) | (refine LDr.gC rfl rfl rfl rfl (fun h => ?_) (fun h => ?_)) | (refine LDr.eff rfl rfl rfl ?_))
            | (refine lthen_n ?_)
            | (refine lthen_r ?_)
            | (refine lthen_e ?_)
            | (refine lblock_n ?_)
            | (refine lblock_r ?_)
            | (refine lblock_e ?_)
            | (refine lblock_o rfl ?_)
            | (refine lback_r ?_)
            | (refine lback_e ?_)
            | (refine lbackD_r ?_)
            | (refine lbackD_e ?_)
            | (refine lbackH_r ?_)
            | (refine lbackH_e ?_)
            | (refine LPost.r1 (r := .tmp 2) (.inl rfl) (Res1.tmp rfl) ?_)
            | (refine PureR.mk ?_)
            | (refine And.intro ?_ ?_)
            | (exact StsL.nil)
            | (refine StsL.cons ?_ ?_)
            | (refine StL.fl rfl rfl (.ev tT_ok rfl))
            | (refine StL.fl rfl rfl (AnsL.loadP tT_ok rfl rfl rfl rfl))
            | (refine StL.fl rfl rfl (AnsL.lenM tT_ok rfl rfl rfl))
            | (refine StL.fl rfl rfl (AnsL.lenS tT_ok rfl rfl rfl rfl))
            | (refine StL.fl rfl rfl (AnsL.lenG tT_ok rfl rfl rfl))
            | (refine StL.fl rfl rfl (AnsL.add rfl rfl ?_); (focus (constructor <;> omega)))
            | (refine StL.fl rfl rfl (AnsL.sub rfl rfl ?_); (focus (constructor <;> omega)))
            | (refine StL.fl rfl rfl (AnsL.mul rfl rfl ?_); (focus (constructor <;> omega)))
            | (refine StL.fl rfl rfl (AnsL.arith rfl rfl rfl))
            | (refine StL.fl rfl rfl (AnsL.shr rfl rfl rfl))
            | (refine StL.fl rfl rfl (AnsL.cat rfl rfl ?_); (focus (first | omega | (simp; omega) | (simp <;> fail))))
            | (refine StL.fl rfl rfl (AnsL.idxA tT_ok rfl rfl rfl rfl rfl (by omega) rfl rfl))
            | (refine StL.fl rfl rfl (AnsL.idxM tT_ok rfl rfl rfl rfl rfl ?_); (focus (omega)))
            | (refine StL.fl rfl rfl (AnsL.idxZ tT_ok rfl rfl rfl rfl rfl ?_ rfl rfl rfl); (focus (decide)))
            | (refine StL.fl rfl rfl (AnsL.callP rfl rfl rfl (ok21) (hO _)))
            | (refine StL.gF rfl rfl rfl rfl rfl)
            | (refine StL.gT rfl rfl rfl rfl rfl (.ev tT_ok rfl))
            | (refine StL.gT rfl rfl rfl rfl rfl (AnsL.loadP tT_ok rfl rfl rfl rfl))
            | (refine StL.gT rfl rfl rfl rfl rfl (AnsL.lenM tT_ok rfl rfl rfl))
            | (refine StL.gT rfl rfl rfl rfl rfl (AnsL.lenS tT_ok rfl rfl rfl rfl))
            | (refine StL.gT rfl rfl rfl rfl rfl (AnsL.lenG tT_ok rfl rfl rfl))
            | (refine StL.gT rfl rfl rfl rfl rfl (AnsL.add rfl rfl ?_); (focus (constructor <;> omega)))
            | (refine StL.gT rfl rfl rfl rfl rfl (AnsL.sub rfl rfl ?_); (focus (constructor <;> omega)))
            | (refine StL.gT rfl rfl rfl rfl rfl (AnsL.mul rfl rfl ?_); (focus (constructor <;> omega)))
            | (refine StL.gT rfl rfl rfl rfl rfl (AnsL.arith rfl rfl rfl))
            | (refine StL.gT rfl rfl rfl rfl rfl (AnsL.shr rfl rfl rfl))
            | (refine StL.gT rfl rfl rfl rfl rfl (AnsL.cat rfl rfl ?_); (focus (first | omega | (simp; omega) | (simp <;> fail))))
            | (refine StL.gT rfl rfl rfl rfl rfl (AnsL.idxA tT_ok rfl rfl rfl rfl rfl (by omega) rfl rfl))
            | (refine StL.gT rfl rfl rfl rfl rfl (AnsL.idxM tT_ok rfl rfl rfl rfl rfl ?_); (focus (omega)))
            | (refine StL.gT rfl rfl rfl rfl rfl (AnsL.idxZ tT_ok rfl rfl rfl rfl rfl ?_ rfl rfl rfl); (focus (decide)))
            | (refine StL.gT rfl rfl rfl rfl rfl (AnsL.callP rfl rfl rfl (ok21) (hO _)))
          refine lbackH.of (j + 1) ?_ hh (Sel.refl _) hjl ?_
          · try dsimp only
            rw [decide_eq_true (hnx.2 (.inl hs))]
            exact ⟨rfl, rfl, rfl, rfl, rfl, rfl, trivial⟩
          · try dsimp only
            omega
        · rw [decide_eq_false hs]
          by_cases he : x[j] = x[i]
          · rw [h0.2 he] at hO
            repeat' first
              | (refine kOps ?_; first | (refine LOps.nil ?_) | (refine kG ?_; first | (refine LOps.gT rfl rfl rfl ?_) | (refine LOps.gF rfl rfl rfl ?_) | (refine LOps.gU rfl rfl ?_) | (refine LOps.gFN rfl rfl rfl ?_) | (refine LOps.gD true rfl rfl rfl ?_ ?_; (focus (first | (assumption) | (exact decide_eq_true (by assumption)) | (exact decide_eq_false (by assumption)) | (simp only [decide_eq_true_eq, decide_eq_false_iff_not, Bool.not_eq_true', Bool.not_eq_false', Int.ofNat_lt, Int.ofNat_le, Int.ofNat_inj, not_true_eq_false, not_false_eq_true]; omega) | (simp <;> fail)))) | (refine LOps.gD false rfl rfl rfl ?_ ?_; (focus (first | (assumption) | (exact decide_eq_true (by assumption)) | (exact decide_eq_false (by assumption)) | (simp only [decide_eq_true_eq, decide_eq_false_iff_not, Bool.not_eq_true', Bool.not_eq_false', Int.ofNat_lt, Int.ofNat_le, Int.ofNat_inj, not_true_eq_false, not_false_eq_true]; omega) | (simp <;> fail)))) | (refine LOps.gC rfl rfl rfl (fun h => ?_) (fun h => ?_))) | (refine LOps.ev tT_ok rfl ?_) | (refine kLoad ?_; first | (refine LOps.ans (AnsL.loadP tT_ok rfl rfl rfl rfl) ?_)) | (refine kLen ?_; first | (refine LOps.ans (AnsL.lenM tT_ok rfl rfl rfl) ?_) | (refine LOps.ans (AnsL.lenS tT_ok rfl rfl rfl rfl) ?_) | (refine LOps.ans (AnsL.lenG tT_ok rfl rfl rfl) ?_)) | (refine kBin ?_; first | (refine LOps.ans (AnsL.add rfl rfl ?_) ?_; (focus (constructor <;> omega))) | (refine LOps.ans (AnsL.arith rfl rfl rfl) ?_)) | (refine kIdx ?_; first | (refine LOps.ans (AnsL.idxA tT_ok rfl rfl rfl rfl rfl (by omega) rfl rfl) ?_) | (refine LOps.ans (AnsL.idxZ tT_ok rfl rfl rfl rfl rfl ?_ rfl rfl rfl) ?_; (focus (decide)))) | (refine kCallN 21 ?_; first | (refine LOps.ans (AnsL.callP rfl rfl rfl (ok21) (hO _)) ?_)))
              | (refine kWL ?_; first | (refine WL.seq ?_) | (refine WL.region (by kernel_rfl) ?_) | (refine WL.drawn (id := 13) [0, 1, 2, 3, 4, 5, 6, 7, 8, 9, 10, 11, 12, 13] [13] [[], [0], [0, 1], [0, 1], [0, 1, 2, 3], [0, 1, 2, 3, 4], [0, 1], [0, 1], [0, 1, 6, 7], [0, 1, 6, 7, 8], [0, 1, 2, 3, 4, 5, 6, 7, 8, 9], [0, 1, 2, 3, 4, 5, 6, 7, 8, 9, 10], [0, 1, 2, 3, 4, 5, 6, 7, 8, 9, 10, 11], [0, 1, 2, 3, 4, 5, 6, 7, 8, 9, 10, 11, 12]] (by kernel_rfl) (by kernel_rfl) ?_) | (refine WL.drawn (id := 15) [0, 1, 2, 3, 4, 5, 6, 7, 8, 9, 10, 11, 12, 13, 14, 15] [] [[], [], [1], [0, 1, 2], [0, 1, 2, 3], [0, 1, 2, 3, 4], [0, 1, 2, 3, 4], [0, 1, 2, 3, 4, 5, 6], [0, 1, 2, 3, 4, 5, 6, 7], [0, 1, 2, 3, 4], [0, 1, 2, 3, 4], [0, 1, 2, 3, 4, 9, 10], [0, 1, 2, 3, 4, 9, 10, 11], [0, 1, 2, 3, 4, 5, 6, 7, 8, 9, 10, 11, 12], [0, 1, 2, 3, 4, 5, 6, 7, 8, 9, 10, 11, 12, 13], [0, 1, 2, 3, 4, 5, 6, 7, 8, 9, 10, 11, 12, 13, 14]] (by kernel_rfl) (by kernel_rfl) ?_) | (refine WL.block ?_) | (refine WL.exit ?_) | (refine WL.skip ?_) | (refine WL.ret ?_) | (refine kCond ?_; first | (refine WL.condT rfl ?_) | (refine WL.condF rfl ?_) | (refine WL.condT' rfl ?_ ?_; (focus (first | (assumption) | (exact decide_eq_true (by assumption)) | (exact decide_eq_false (by assumption)) | (simp only [decide_eq_true_eq, decide_eq_false_iff_not, Bool.not_eq_true', Bool.not_eq_false', Int.ofNat_lt, Int.ofNat_le, Int.ofNat_inj, not_true_eq_false, not_false_eq_true]; omega) | (simp <;> fail)))) | (refine WL.condF' rfl ?_ ?_; (focus (first | (assumption) | (exact decide_eq_true (by assumption)) | (exact decide_eq_false (by assumption)) | (simp only [decide_eq_true_eq, decide_eq_false_iff_not, Bool.not_eq_true', Bool.not_eq_false', Int.ofNat_lt, Int.ofNat_le, Int.ofNat_inj, not_true_eq_false, not_false_eq_true]; omega) | (simp <;> fail)))) | (refine WL.cond rfl (fun h => ?_) (fun h => ?_))))
              | (refine kDr ?_; first | (refine LDr.nil ?_) | (refine LDr.fl rfl rfl (.ev tT_ok rfl) ?_) | (refine LDr.gF rfl rfl rfl rfl rfl ?_) | (refine LDr.gU rfl rfl rfl rfl ?_) | (refine LDr.gT rfl rfl rfl rfl rfl (.ev tT_ok rfl) ?_) | (refine kDLoad rfl ?_; first | (refine LDr.fl rfl rfl (AnsL.loadP tT_ok rfl rfl rfl rfl) ?_) | (refine LDr.gT rfl rfl rfl rfl rfl (AnsL.loadP tT_ok rfl rfl rfl rfl) ?_)) | (refine kDLen rfl ?_; first | (refine LDr.fl rfl rfl (AnsL.lenM tT_ok rfl rfl rfl) ?_) | (refine LDr.gT rfl rfl rfl rfl rfl (AnsL.lenM tT_ok rfl rfl rfl) ?_) | (refine LDr.fl rfl rfl (AnsL.lenS tT_ok rfl rfl rfl rfl) ?_) | (refine LDr.gT rfl rfl rfl rfl rfl (AnsL.lenS tT_ok rfl rfl rfl rfl) ?_) | (refine LDr.fl rfl rfl (AnsL.lenG tT_ok rfl rfl rfl) ?_) | (refine LDr.gT rfl rfl rfl rfl rfl (AnsL.lenG tT_ok rfl rfl rfl) ?_)) | (refine kDBin rfl ?_; first | (refine LDr.fl rfl rfl (AnsL.add rfl rfl ?_) ?_; (focus (constructor <;> omega))) | (refine LDr.gT rfl rfl rfl rfl rfl (AnsL.add rfl rfl ?_) ?_; (focus (constructor <;> omega))) | (refine LDr.fl rfl rfl (AnsL.arith rfl rfl rfl) ?_) | (refine LDr.gT rfl rfl rfl rfl rfl (AnsL.arith rfl rfl rfl) ?_)) | (refine kDIdx rfl ?_; first | (refine LDr.fl rfl rfl (AnsL.idxA tT_ok rfl rfl rfl rfl rfl (by omega) rfl rfl) ?_) | (refine LDr.gT rfl rfl rfl rfl rfl (AnsL.idxA tT_ok rfl rfl rfl rfl rfl (by omega) rfl rfl) ?_) | (refine LDr.fl rfl rfl (AnsL.idxZ tT_ok rfl rfl rfl rfl rfl ?_ rfl rfl rfl) ?_; (focus (decide))) | (refine LDr.gT rfl rfl rfl rfl rfl (AnsL.idxZ tT_ok rfl rfl rfl rfl rfl ?_ rfl rfl rfl) ?_; (focus (decide)))) | (refine kDCallN 21 rfl ?_; first | (refine LDr.fl rfl rfl (AnsL.callP rfl rfl rfl (ok21) (hO _)) ?_) | (refine LDr.gT rfl rfl rfl rfl rfl (AnsL.callP rfl rfl rfl (ok21) (hO _)) ?_)) | (refine LDr.gD true rfl rfl rfl rfl ?_ ?_; (focus (first | (assumption) | (exact decide_eq_true (by assumption)) | (exact decide_eq_false (by assumption)) | (simp only [decide_eq_true_eq, decide_eq_false_iff_not, Bool.not_eq_true', Bool.not_eq_false', Int.ofNat_lt, Int.ofNat_le, Int.ofNat_inj, not_true_eq_false, not_false_eq_true]; omega) | (simp <;> fail)))) | (refine LDr.gD false rfl rfl rfl rfl ?_ ?_; (focus (first | (assumption) | (exact decide_eq_true (by assumption)) | (exact decide_eq_false (by assumption)) | (simp only [decide_eq_true_eq, decide_eq_false_iff_not, Bool.not_eq_true', Bool.not_eq_false', Int.ofNat_lt, Int.ofNat_le, Int.ofNat_inj, not_true_eq_false, not_false_eq_true]; omega) | (simp <;> fail)))) | (refine LDr.gC rfl rfl rfl rfl (fun h => ?_) (fun h => ?_)) | (refine LDr.eff rfl rfl rfl ?_))
              | (refine lthen_n ?_)
              | (refine lthen_r ?_)
              | (refine lthen_e ?_)
              | (refine lblock_n ?_)
              | (refine lblock_r ?_)
              | (refine lblock_e ?_)
              | (refine lblock_o rfl ?_)
              | (refine lback_r ?_)
              | (refine lback_e ?_)
              | (refine lbackD_r ?_)
              | (refine lbackD_e ?_)
              | (refine lbackH_r ?_)
              | (refine lbackH_e ?_)
              | (refine LPost.r1 (r := .tmp 2) (.inl rfl) (Res1.tmp rfl) ?_)
              | (refine PureR.mk ?_)
              | (refine And.intro ?_ ?_)
              | (exact StsL.nil)
              | (refine StsL.cons ?_ ?_)
              | (refine StL.fl rfl rfl (.ev tT_ok rfl))
              | (refine StL.fl rfl rfl (AnsL.loadP tT_ok rfl rfl rfl rfl))
              | (refine StL.fl rfl rfl (AnsL.lenM tT_ok rfl rfl rfl))
              | (refine StL.fl rfl rfl (AnsL.lenS tT_ok rfl rfl rfl rfl))
              | (refine StL.fl rfl rfl (AnsL.lenG tT_ok rfl rfl rfl))
              | (refine StL.fl rfl rfl (AnsL.add rfl rfl ?_); (focus (constructor <;> omega)))
              | (refine StL.fl rfl rfl (AnsL.sub rfl rfl ?_); (focus (constructor <;> omega)))
              | (refine StL.fl rfl rfl (AnsL.mul rfl rfl ?_); (focus (constructor <;> omega)))
              | (refine StL.fl rfl rfl (AnsL.arith rfl rfl rfl))
              | (refine StL.fl rfl rfl (AnsL.shr rfl rfl rfl))
              | (refine StL.fl rfl rfl (AnsL.cat rfl rfl ?_); (focus (first | omega | (simp; omega) | (simp <;> fail))))
              | (refine StL.fl rfl rfl (AnsL.idxA tT_ok rfl rfl rfl rfl rfl (by omega) rfl rfl))
              | (refine StL.fl rfl rfl (AnsL.idxM tT_ok rfl rfl rfl rfl rfl ?_); (focus (omega)))
              | (refine StL.fl rfl rfl (AnsL.idxZ tT_ok rfl rfl rfl rfl rfl ?_ rfl rfl rfl); (focus (decide)))
              | (refine StL.fl rfl rfl (AnsL.callP rfl rfl rfl (ok21) (hO _)))
              | (refine StL.gF rfl rfl rfl rfl rfl)
              | (refine StL.gT rfl rfl rfl rfl rfl (.ev tT_ok rfl))
              | (refine StL.gT rfl rfl rfl rfl rfl (AnsL.loadP tT_ok rfl rfl rfl rfl))
              | (refine StL.gT rfl rfl rfl rfl rfl (AnsL.lenM tT_ok rfl rfl rfl))
              | (refine StL.gT rfl rfl rfl rfl rfl (AnsL.lenS tT_ok rfl rfl rfl rfl))
              | (refine StL.gT rfl rfl rfl rfl rfl (AnsL.lenG tT_ok rfl rfl rfl))
              | (refine StL.gT rfl rfl rfl rfl rfl (AnsL.add rfl rfl ?_); (focus (constructor <;> omega)))
              | (refine StL.gT rfl rfl rfl rfl rfl (AnsL.sub rfl rfl ?_); (focus (constructor <;> omega)))
              | (refine StL.gT rfl rfl rfl rfl rfl (AnsL.mul rfl rfl ?_); (focus (constructor <;> omega)))
              | (refine StL.gT rfl rfl rfl rfl rfl (AnsL.arith rfl rfl rfl))
              | (refine StL.gT rfl rfl rfl rfl rfl (AnsL.shr rfl rfl rfl))
              | (refine StL.gT rfl rfl rfl rfl rfl (AnsL.cat rfl rfl ?_); (focus (first | omega | (simp; omega) | (simp <;> fail))))
              | (refine StL.gT rfl rfl rfl rfl rfl (AnsL.idxA tT_ok rfl rfl rfl rfl rfl (by omega) rfl rfl))
              | (refine StL.gT rfl rfl rfl rfl rfl (AnsL.idxM tT_ok rfl rfl rfl rfl rfl ?_); (focus (omega)))
              | (refine StL.gT rfl rfl rfl rfl rfl (AnsL.idxZ tT_ok rfl rfl rfl rfl rfl ?_ rfl rfl rfl); (focus (decide)))
              | (refine StL.gT rfl rfl rfl rfl rfl (AnsL.callP rfl rfl rfl (ok21) (hO _)))
            refine lbackH.of (j + 1) ?_ hh (Sel.refl _) hjl ?_
            · try dsimp only
              rw [decide_eq_true (hnx.2 (.inr he))]
              exact ⟨rfl, rfl, rfl, rfl, rfl, rfl, trivial⟩
            · try dsimp only
              omega
          · have hne : ¬ ordL x[j] x[i] = 0 := fun e => he (h0.1 e)
            generalize ordL x[j] x[i] = m at hO hne
            repeat' first
              | (refine kOps ?_; first | (refine LOps.nil ?_) | (refine kG ?_; first | (refine LOps.gT rfl rfl rfl ?_) | (refine LOps.gF rfl rfl rfl ?_) | (refine LOps.gU rfl rfl ?_) | (refine LOps.gFN rfl rfl rfl ?_) | (refine LOps.gD true rfl rfl rfl ?_ ?_; (focus (first | (assumption) | (exact decide_eq_true (by assumption)) | (exact decide_eq_false (by assumption)) | (simp only [decide_eq_true_eq, decide_eq_false_iff_not, Bool.not_eq_true', Bool.not_eq_false', Int.ofNat_lt, Int.ofNat_le, Int.ofNat_inj, not_true_eq_false, not_false_eq_true]; omega) | (simp <;> fail)))) | (refine LOps.gD false rfl rfl rfl ?_ ?_; (focus (first | (assumption) | (exact decide_eq_true (by assumption)) | (exact decide_eq_false (by assumption)) | (simp only [decide_eq_true_eq, decide_eq_false_iff_not, Bool.not_eq_true', Bool.not_eq_false', Int.ofNat_lt, Int.ofNat_le, Int.ofNat_inj, not_true_eq_false, not_false_eq_true]; omega) | (simp <;> fail)))) | (refine LOps.gC rfl rfl rfl (fun h => ?_) (fun h => ?_))) | (refine LOps.ev tT_ok rfl ?_) | (refine kLoad ?_; first | (refine LOps.ans (AnsL.loadP tT_ok rfl rfl rfl rfl) ?_)) | (refine kLen ?_; first | (refine LOps.ans (AnsL.lenM tT_ok rfl rfl rfl) ?_) | (refine LOps.ans (AnsL.lenS tT_ok rfl rfl rfl rfl) ?_) | (refine LOps.ans (AnsL.lenG tT_ok rfl rfl rfl) ?_)) | (refine kBin ?_; first | (refine LOps.ans (AnsL.add rfl rfl ?_) ?_; (focus (constructor <;> omega))) | (refine LOps.ans (AnsL.arith rfl rfl rfl) ?_)) | (refine kIdx ?_; first | (refine LOps.ans (AnsL.idxA tT_ok rfl rfl rfl rfl rfl (by omega) rfl rfl) ?_) | (refine LOps.ans (AnsL.idxZ tT_ok rfl rfl rfl rfl rfl ?_ rfl rfl rfl) ?_; (focus (decide)))) | (refine kCallN 21 ?_; first | (refine LOps.ans (AnsL.callP rfl rfl rfl (ok21) (hO _)) ?_)))
              | (refine kWL ?_; first | (refine WL.seq ?_) | (refine WL.region (by kernel_rfl) ?_) | (refine WL.drawn (id := 13) [0, 1, 2, 3, 4, 5, 6, 7, 8, 9, 10, 11, 12, 13] [13] [[], [0], [0, 1], [0, 1], [0, 1, 2, 3], [0, 1, 2, 3, 4], [0, 1], [0, 1], [0, 1, 6, 7], [0, 1, 6, 7, 8], [0, 1, 2, 3, 4, 5, 6, 7, 8, 9], [0, 1, 2, 3, 4, 5, 6, 7, 8, 9, 10], [0, 1, 2, 3, 4, 5, 6, 7, 8, 9, 10, 11], [0, 1, 2, 3, 4, 5, 6, 7, 8, 9, 10, 11, 12]] (by kernel_rfl) (by kernel_rfl) ?_) | (refine WL.drawn (id := 15) [0, 1, 2, 3, 4, 5, 6, 7, 8, 9, 10, 11, 12, 13, 14, 15] [] [[], [], [1], [0, 1, 2], [0, 1, 2, 3], [0, 1, 2, 3, 4], [0, 1, 2, 3, 4], [0, 1, 2, 3, 4, 5, 6], [0, 1, 2, 3, 4, 5, 6, 7], [0, 1, 2, 3, 4], [0, 1, 2, 3, 4], [0, 1, 2, 3, 4, 9, 10], [0, 1, 2, 3, 4, 9, 10, 11], [0, 1, 2, 3, 4, 5, 6, 7, 8, 9, 10, 11, 12], [0, 1, 2, 3, 4, 5, 6, 7, 8, 9, 10, 11, 12, 13], [0, 1, 2, 3, 4, 5, 6, 7, 8, 9, 10, 11, 12, 13, 14]] (by kernel_rfl) (by kernel_rfl) ?_) | (refine WL.block ?_) | (refine WL.exit ?_) | (refine WL.skip ?_) | (refine WL.ret ?_) | (refine kCond ?_; first | (refine WL.condT rfl ?_) | (refine WL.condF rfl ?_) | (refine WL.condT' rfl ?_ ?_; (focus (first | (assumption) | (exact decide_eq_true (by assumption)) | (exact decide_eq_false (by assumption)) | (simp only [decide_eq_true_eq, decide_eq_false_iff_not, Bool.not_eq_true', Bool.not_eq_false', Int.ofNat_lt, Int.ofNat_le, Int.ofNat_inj, not_true_eq_false, not_false_eq_true]; omega) | (simp <;> fail)))) | (refine WL.condF' rfl ?_ ?_; (focus (first | (assumption) | (exact decide_eq_true (by assumption)) | (exact decide_eq_false (by assumption)) | (simp only [decide_eq_true_eq, decide_eq_false_iff_not, Bool.not_eq_true', Bool.not_eq_false', Int.ofNat_lt, Int.ofNat_le, Int.ofNat_inj, not_true_eq_false, not_false_eq_true]; omega) | (simp <;> fail)))) | (refine WL.cond rfl (fun h => ?_) (fun h => ?_))))
              | (refine kDr ?_; first | (refine LDr.nil ?_) | (refine LDr.fl rfl rfl (.ev tT_ok rfl) ?_) | (refine LDr.gF rfl rfl rfl rfl rfl ?_) | (refine LDr.gU rfl rfl rfl rfl ?_) | (refine LDr.gT rfl rfl rfl rfl rfl (.ev tT_ok rfl) ?_) | (refine kDLoad rfl ?_; first | (refine LDr.fl rfl rfl (AnsL.loadP tT_ok rfl rfl rfl rfl) ?_) | (refine LDr.gT rfl rfl rfl rfl rfl (AnsL.loadP tT_ok rfl rfl rfl rfl) ?_)) | (refine kDLen rfl ?_; first | (refine LDr.fl rfl rfl (AnsL.lenM tT_ok rfl rfl rfl) ?_) | (refine LDr.gT rfl rfl rfl rfl rfl (AnsL.lenM tT_ok rfl rfl rfl) ?_) | (refine LDr.fl rfl rfl (AnsL.lenS tT_ok rfl rfl rfl rfl) ?_) | (refine LDr.gT rfl rfl rfl rfl rfl (AnsL.lenS tT_ok rfl rfl rfl rfl) ?_) | (refine LDr.fl rfl rfl (AnsL.lenG tT_ok rfl rfl rfl) ?_) | (refine LDr.gT rfl rfl rfl rfl rfl (AnsL.lenG tT_ok rfl rfl rfl) ?_)) | (refine kDBin rfl ?_; first | (refine LDr.fl rfl rfl (AnsL.add rfl rfl ?_) ?_; (focus (constructor <;> omega))) | (refine LDr.gT rfl rfl rfl rfl rfl (AnsL.add rfl rfl ?_) ?_; (focus (constructor <;> omega))) | (refine LDr.fl rfl rfl (AnsL.arith rfl rfl rfl) ?_) | (refine LDr.gT rfl rfl rfl rfl rfl (AnsL.arith rfl rfl rfl) ?_)) | (refine kDIdx rfl ?_; first | (refine LDr.fl rfl rfl (AnsL.idxA tT_ok rfl rfl rfl rfl rfl (by omega) rfl rfl) ?_) | (refine LDr.gT rfl rfl rfl rfl rfl (AnsL.idxA tT_ok rfl rfl rfl rfl rfl (by omega) rfl rfl) ?_) | (refine LDr.fl rfl rfl (AnsL.idxZ tT_ok rfl rfl rfl rfl rfl ?_ rfl rfl rfl) ?_; (focus (decide))) | (refine LDr.gT rfl rfl rfl rfl rfl (AnsL.idxZ tT_ok rfl rfl rfl rfl rfl ?_ rfl rfl rfl) ?_; (focus (decide)))) | (refine kDCallN 21 rfl ?_; first | (refine LDr.fl rfl rfl (AnsL.callP rfl rfl rfl (ok21) (hO _)) ?_) | (refine LDr.gT rfl rfl rfl rfl rfl (AnsL.callP rfl rfl rfl (ok21) (hO _)) ?_)) | (refine LDr.gD true rfl rfl rfl rfl ?_ ?_; (focus (first | (assumption) | (exact decide_eq_true (by assumption)) | (exact decide_eq_false (by assumption)) | (simp only [decide_eq_true_eq, decide_eq_false_iff_not, Bool.not_eq_true', Bool.not_eq_false', Int.ofNat_lt, Int.ofNat_le, Int.ofNat_inj, not_true_eq_false, not_false_eq_true]; omega) | (simp <;> fail)))) | (refine LDr.gD false rfl rfl rfl rfl ?_ ?_; (focus (first | (assumption) | (exact decide_eq_true (by assumption)) | (exact decide_eq_false (by assumption)) | (simp only [decide_eq_true_eq, decide_eq_false_iff_not, Bool.not_eq_true', Bool.not_eq_false', Int.ofNat_lt, Int.ofNat_le, Int.ofNat_inj, not_true_eq_false, not_false_eq_true]; omega) | (simp <;> fail)))) | (refine LDr.gC rfl rfl rfl rfl (fun h => ?_) (fun h => ?_)) | (refine LDr.eff rfl rfl rfl ?_))
              | (refine lthen_n ?_)
              | (refine lthen_r ?_)
              | (refine lthen_e ?_)
              | (refine lblock_n ?_)
              | (refine lblock_r ?_)
              | (refine lblock_e ?_)
              | (refine lblock_o rfl ?_)
              | (refine lback_r ?_)
              | (refine lback_e ?_)
              | (refine lbackD_r ?_)
              | (refine lbackD_e ?_)
              | (refine lbackH_r ?_)
              | (refine lbackH_e ?_)
              | (refine LPost.r1 (r := .tmp 2) (.inl rfl) (Res1.tmp rfl) ?_)
              | (refine PureR.mk ?_)
              | (refine And.intro ?_ ?_)
              | (exact StsL.nil)
              | (refine StsL.cons ?_ ?_)
              | (refine StL.fl rfl rfl (.ev tT_ok rfl))
              | (refine StL.fl rfl rfl (AnsL.loadP tT_ok rfl rfl rfl rfl))
              | (refine StL.fl rfl rfl (AnsL.lenM tT_ok rfl rfl rfl))
              | (refine StL.fl rfl rfl (AnsL.lenS tT_ok rfl rfl rfl rfl))
              | (refine StL.fl rfl rfl (AnsL.lenG tT_ok rfl rfl rfl))
              | (refine StL.fl rfl rfl (AnsL.add rfl rfl ?_); (focus (constructor <;> omega)))
              | (refine StL.fl rfl rfl (AnsL.sub rfl rfl ?_); (focus (constructor <;> omega)))
              | (refine StL.fl rfl rfl (AnsL.mul rfl rfl ?_); (focus (constructor <;> omega)))
              | (refine StL.fl rfl rfl (AnsL.arith rfl rfl rfl))
              | (refine StL.fl rfl rfl (AnsL.shr rfl rfl rfl))
              | (refine StL.fl rfl rfl (AnsL.cat rfl rfl ?_); (focus (first | omega | (simp; omega) | (simp <;> fail))))
              | (refine StL.fl rfl rfl (AnsL.idxA tT_ok rfl rfl rfl rfl rfl (by omega) rfl rfl))
              | (refine StL.fl rfl rfl (AnsL.idxM tT_ok rfl rfl rfl rfl rfl ?_); (focus (omega)))
              | (refine StL.fl rfl rfl (AnsL.idxZ tT_ok rfl rfl rfl rfl rfl ?_ rfl rfl rfl); (focus (decide)))
              | (refine StL.fl rfl rfl (AnsL.callP rfl rfl rfl (ok21) (hO _)))
              | (refine StL.gF rfl rfl rfl rfl rfl)
              | (refine StL.gT rfl rfl rfl rfl rfl (.ev tT_ok rfl))
              | (refine StL.gT rfl rfl rfl rfl rfl (AnsL.loadP tT_ok rfl rfl rfl rfl))
              | (refine StL.gT rfl rfl rfl rfl rfl (AnsL.lenM tT_ok rfl rfl rfl))
              | (refine StL.gT rfl rfl rfl rfl rfl (AnsL.lenS tT_ok rfl rfl rfl rfl))
              | (refine StL.gT rfl rfl rfl rfl rfl (AnsL.lenG tT_ok rfl rfl rfl))
              | (refine StL.gT rfl rfl rfl rfl rfl (AnsL.add rfl rfl ?_); (focus (constructor <;> omega)))
              | (refine StL.gT rfl rfl rfl rfl rfl (AnsL.sub rfl rfl ?_); (focus (constructor <;> omega)))
              | (refine StL.gT rfl rfl rfl rfl rfl (AnsL.mul rfl rfl ?_); (focus (constructor <;> omega)))
              | (refine StL.gT rfl rfl rfl rfl rfl (AnsL.arith rfl rfl rfl))
              | (refine StL.gT rfl rfl rfl rfl rfl (AnsL.shr rfl rfl rfl))
              | (refine StL.gT rfl rfl rfl rfl rfl (AnsL.cat rfl rfl ?_); (focus (first | omega | (simp; omega) | (simp <;> fail))))
              | (refine StL.gT rfl rfl rfl rfl rfl (AnsL.idxA tT_ok rfl rfl rfl rfl rfl (by omega) rfl rfl))
              | (refine StL.gT rfl rfl rfl rfl rfl (AnsL.idxM tT_ok rfl rfl rfl rfl rfl ?_); (focus (omega)))
              | (refine StL.gT rfl rfl rfl rfl rfl (AnsL.idxZ tT_ok rfl rfl rfl rfl rfl ?_ rfl rfl rfl); (focus (decide)))
              | (refine StL.gT rfl rfl rfl rfl rfl (AnsL.callP rfl rfl rfl (ok21) (hO _)))
            refine lbackH.of (j + 1) ?_ hh (Sel.refl _) hjl ?_
            · try dsimp only
              rw [decide_eq_false (fun h => by rcases hnx.1 h with h | h <;> contradiction)]
              exact ⟨rfl, rfl, rfl, rfl, by simp [hne] <;> rfl, rfl, trivial⟩
            · try dsimp only
              omega
      · have hji : j = i := by omega
        subst hji
        by_cases hs : x[j] ∈ x.take j
        · rw [decide_eq_true hs]
          rw [if_pos (hmem.2 hs)] at hst
          repeat' first
            | (refine kOps ?_; first | (refine LOps.nil ?_) | (refine kG ?_; first | (refine LOps.gT rfl rfl rfl ?_) | (refine LOps.gF rfl rfl rfl ?_) | (refine LOps.gU rfl rfl ?_) | (refine LOps.gFN rfl rfl rfl ?_) | (refine LOps.gD true rfl rfl rfl ?_ ?_; (focus (first | (assumption) | (exact decide_eq_true (by assumption)) | (exact decide_eq_false (by assumption)) | (simp only [decide_eq_true_eq, decide_eq_false_iff_not, Bool.not_eq_true', Bool.not_eq_false', Int.ofNat_lt, Int.ofNat_le, Int.ofNat_inj, not_true_eq_false, not_false_eq_true]; omega) | (simp <;> fail)))) | (refine LOps.gD false rfl rfl rfl ?_ ?_; (focus (first | (assumption) | (exact decide_eq_true (by assumption)) | (exact decide_eq_false (by assumption)) | (simp only [decide_eq_true_eq, decide_eq_false_iff_not, Bool.not_eq_true', Bool.not_eq_false', Int.ofNat_lt, Int.ofNat_le, Int.ofNat_inj, not_true_eq_false, not_false_eq_true]; omega) | (simp <;> fail)))) | (refine LOps.gC rfl rfl rfl (fun h => ?_) (fun h => ?_))) | (refine LOps.ev tT_ok rfl ?_) | (refine kLoad ?_; first | (refine LOps.ans (AnsL.loadP tT_ok rfl rfl rfl rfl) ?_)) | (refine kLen ?_; first | (refine LOps.ans (AnsL.lenM tT_ok rfl rfl rfl) ?_) | (refine LOps.ans (AnsL.lenS tT_ok rfl rfl rfl rfl) ?_) | (refine LOps.ans (AnsL.lenG tT_ok rfl rfl rfl) ?_)) | (refine kBin ?_; first | (refine LOps.ans (AnsL.add rfl rfl ?_) ?_; (focus (constructor <;> omega))) | (refine LOps.ans (AnsL.arith rfl rfl rfl) ?_)) | (refine kIdx ?_; first | (refine LOps.ans (AnsL.idxA tT_ok rfl rfl rfl rfl rfl (by omega) rfl rfl) ?_) | (refine LOps.ans (AnsL.idxZ tT_ok rfl rfl rfl rfl rfl ?_ rfl rfl rfl) ?_; (focus (decide)))))
            | (refine kWL ?_; first | (refine WL.seq ?_) | (refine WL.region (by kernel_rfl) ?_) | (refine WL.drawn (id := 13) [0, 1, 2, 3, 4, 5, 6, 7, 8, 9, 10, 11, 12, 13] [13] [[], [0], [0, 1], [0, 1], [0, 1, 2, 3], [0, 1, 2, 3, 4], [0, 1], [0, 1], [0, 1, 6, 7], [0, 1, 6, 7, 8], [0, 1, 2, 3, 4, 5, 6, 7, 8, 9], [0, 1, 2, 3, 4, 5, 6, 7, 8, 9, 10], [0, 1, 2, 3, 4, 5, 6, 7, 8, 9, 10, 11], [0, 1, 2, 3, 4, 5, 6, 7, 8, 9, 10, 11, 12]] (by kernel_rfl) (by kernel_rfl) ?_) | (refine WL.drawn (id := 15) [0, 1, 2, 3, 4, 5, 6, 7, 8, 9, 10, 11, 12, 13, 14, 15] [] [[], [], [1], [0, 1, 2], [0, 1, 2, 3], [0, 1, 2, 3, 4], [0, 1, 2, 3, 4], [0, 1, 2, 3, 4, 5, 6], [0, 1, 2, 3, 4, 5, 6, 7], [0, 1, 2, 3, 4], [0, 1, 2, 3, 4], [0, 1, 2, 3, 4, 9, 10], [0, 1, 2, 3, 4, 9, 10, 11], [0, 1, 2, 3, 4, 5, 6, 7, 8, 9, 10, 11, 12], [0, 1, 2, 3, 4, 5, 6, 7, 8, 9, 10, 11, 12, 13], [0, 1, 2, 3, 4, 5, 6, 7, 8, 9, 10, 11, 12, 13, 14]] (by kernel_rfl) (by kernel_rfl) ?_) | (refine WL.block ?_) | (refine WL.exit ?_) | (refine WL.skip ?_) | (refine WL.ret ?_) | (refine kCond ?_; first | (refine WL.condT rfl ?_) | (refine WL.condF rfl ?_) | (refine WL.condT' rfl ?_ ?_; (focus (first | (assumption) | (exact decide_eq_true (by assumption)) | (exact decide_eq_false (by assumption)) | (simp only [decide_eq_true_eq, decide_eq_false_iff_not, Bool.not_eq_true', Bool.not_eq_false', Int.ofNat_lt, Int.ofNat_le, Int.ofNat_inj, not_true_eq_false, not_false_eq_true]; omega) | (simp <;> fail)))) | (refine WL.condF' rfl ?_ ?_; (focus (first | (assumption) | (exact decide_eq_true (by assumption)) | (exact decide_eq_false (by assumption)) | (simp only [decide_eq_true_eq, decide_eq_false_iff_not, Bool.not_eq_true', Bool.not_eq_false', Int.ofNat_lt, Int.ofNat_le, Int.ofNat_inj, not_true_eq_false, not_false_eq_true]; omega) | (simp <;> fail)))) | (refine WL.cond rfl (fun h => ?_) (fun h => ?_))))
            | (refine kDr ?_; first | (refine LDr.nil ?_) | (refine LDr.fl rfl rfl (.ev tT_ok rfl) ?_) | (refine LDr.gF rfl rfl rfl rfl rfl ?_) | (refine LDr.gU rfl rfl rfl rfl ?_) | (refine LDr.gT rfl rfl rfl rfl rfl (.ev tT_ok rfl) ?_) | (refine kDLoad rfl ?_; first | (refine LDr.fl rfl rfl (AnsL.loadP tT_ok rfl rfl rfl rfl) ?_) | (refine LDr.gT rfl rfl rfl rfl rfl (AnsL.loadP tT_ok rfl rfl rfl rfl) ?_)) | (refine kDLen rfl ?_; first | (refine LDr.fl rfl rfl (AnsL.lenM tT_ok rfl rfl rfl) ?_) | (refine LDr.gT rfl rfl rfl rfl rfl (AnsL.lenM tT_ok rfl rfl rfl) ?_) | (refine LDr.fl rfl rfl (AnsL.lenS tT_ok rfl rfl rfl rfl) ?_) | (refine LDr.gT rfl rfl rfl rfl rfl (AnsL.lenS tT_ok rfl rfl rfl rfl) ?_) | (refine LDr.fl rfl rfl (AnsL.lenG tT_ok rfl rfl rfl) ?_) | (refine LDr.gT rfl rfl rfl rfl rfl (AnsL.lenG tT_ok rfl rfl rfl) ?_)) | (refine kDBin rfl ?_; first | (refine LDr.fl rfl rfl (AnsL.add rfl rfl ?_) ?_; (focus (constructor <;> omega))) | (refine LDr.gT rfl rfl rfl rfl rfl (AnsL.add rfl rfl ?_) ?_; (focus (constructor <;> omega))) | (refine LDr.fl rfl rfl (AnsL.arith rfl rfl rfl) ?_) | (refine LDr.gT rfl rfl rfl rfl rfl (AnsL.arith rfl rfl rfl) ?_)) | (refine kDIdx rfl ?_; first | (refine LDr.fl rfl rfl (AnsL.idxA tT_ok rfl rfl rfl rfl rfl (by omega) rfl rfl) ?_) | (refine LDr.gT rfl rfl rfl rfl rfl (AnsL.idxA tT_ok rfl rfl rfl rfl rfl (by omega) rfl rfl) ?_) | (refine LDr.fl rfl rfl (AnsL.idxZ tT_ok rfl rfl rfl rfl rfl ?_ rfl rfl rfl) ?_; (focus (decide))) | (refine LDr.gT rfl rfl rfl rfl rfl (AnsL.idxZ tT_ok rfl rfl rfl rfl rfl ?_ rfl rfl rfl) ?_; (focus (decide)))) | (refine LDr.gD true rfl rfl rfl rfl ?_ ?_; (focus (first | (assumption) | (exact decide_eq_true (by assumption)) | (exact decide_eq_false (by assumption)) | (simp only [decide_eq_true_eq, decide_eq_false_iff_not, Bool.not_eq_true', Bool.not_eq_false', Int.ofNat_lt, Int.ofNat_le, Int.ofNat_inj, not_true_eq_false, not_false_eq_true]; omega) | (simp <;> fail)))) | (refine LDr.gD false rfl rfl rfl rfl ?_ ?_; (focus (first | (assumption) | (exact decide_eq_true (by assumption)) | (exact decide_eq_false (by assumption)) | (simp only [decide_eq_true_eq, decide_eq_false_iff_not, Bool.not_eq_true', Bool.not_eq_false', Int.ofNat_lt, Int.ofNat_le, Int.ofNat_inj, not_true_eq_false, not_false_eq_true]; omega) | (simp <;> fail)))) | (refine LDr.gC rfl rfl rfl rfl (fun h => ?_) (fun h => ?_)) | (refine LDr.eff rfl rfl rfl ?_))
            | (refine lthen_n ?_)
            | (refine lthen_r ?_)
            | (refine lthen_e ?_)
            | (refine lblock_n ?_)
            | (refine lblock_r ?_)
            | (refine lblock_e ?_)
            | (refine lblock_o rfl ?_)
            | (refine lback_r ?_)
            | (refine lback_e ?_)
            | (refine lbackD_r ?_)
            | (refine lbackD_e ?_)
            | (refine lbackH_r ?_)
            | (refine lbackH_e ?_)
            | (refine LPost.r1 (r := .tmp 2) (.inl rfl) (Res1.tmp rfl) ?_)
            | (refine PureR.mk ?_)
            | (refine And.intro ?_ ?_)
            | (exact StsL.nil)
            | (refine StsL.cons ?_ ?_)
            | (refine StL.fl rfl rfl (.ev tT_ok rfl))
            | (refine StL.fl rfl rfl (AnsL.loadP tT_ok rfl rfl rfl rfl))
            | (refine StL.fl rfl rfl (AnsL.lenM tT_ok rfl rfl rfl))
            | (refine StL.fl rfl rfl (AnsL.lenS tT_ok rfl rfl rfl rfl))
            | (refine StL.fl rfl rfl (AnsL.lenG tT_ok rfl rfl rfl))
            | (refine StL.fl rfl rfl (AnsL.add rfl rfl ?_); (focus (constructor <;> omega)))
            | (refine StL.fl rfl rfl (AnsL.sub rfl rfl ?_); (focus (constructor <;> omega)))
            | (refine StL.fl rfl rfl (AnsL.mul rfl rfl ?_); (focus (constructor <;> omega)))
            | (refine StL.fl rfl rfl (AnsL.arith rfl rfl rfl))
            | (refine StL.fl rfl rfl (AnsL.shr rfl rfl rfl))
            | (refine StL.fl rfl rfl (AnsL.cat rfl rfl ?_); (focus (first | omega | (simp; omega) | (simp <;> fail))))
            | (refine StL.fl rfl rfl (AnsL.idxA tT_ok rfl rfl rfl rfl rfl (by omega) rfl rfl))
            | (refine StL.fl rfl rfl (AnsL.idxM tT_ok rfl rfl rfl rfl rfl ?_); (focus (omega)))
            | (refine StL.fl rfl rfl (AnsL.idxZ tT_ok rfl rfl rfl rfl rfl ?_ rfl rfl rfl); (focus (decide)))
            | (refine StL.gF rfl rfl rfl rfl rfl)
            | (refine StL.gT rfl rfl rfl rfl rfl (.ev tT_ok rfl))
            | (refine StL.gT rfl rfl rfl rfl rfl (AnsL.loadP tT_ok rfl rfl rfl rfl))
            | (refine StL.gT rfl rfl rfl rfl rfl (AnsL.lenM tT_ok rfl rfl rfl))
            | (refine StL.gT rfl rfl rfl rfl rfl (AnsL.lenS tT_ok rfl rfl rfl rfl))
            | (refine StL.gT rfl rfl rfl rfl rfl (AnsL.lenG tT_ok rfl rfl rfl))
            | (refine StL.gT rfl rfl rfl rfl rfl (AnsL.add rfl rfl ?_); (focus (constructor <;> omega)))
            | (refine StL.gT rfl rfl rfl rfl rfl (AnsL.sub rfl rfl ?_); (focus (constructor <;> omega)))
            | (refine StL.gT rfl rfl rfl rfl rfl (AnsL.mul rfl rfl ?_); (focus (constructor <;> omega)))
            | (refine StL.gT rfl rfl rfl rfl rfl (AnsL.arith rfl rfl rfl))
            | (refine StL.gT rfl rfl rfl rfl rfl (AnsL.shr rfl rfl rfl))
            | (refine StL.gT rfl rfl rfl rfl rfl (AnsL.cat rfl rfl ?_); (focus (first | omega | (simp; omega) | (simp <;> fail))))
            | (refine StL.gT rfl rfl rfl rfl rfl (AnsL.idxA tT_ok rfl rfl rfl rfl rfl (by omega) rfl rfl))
            | (refine StL.gT rfl rfl rfl rfl rfl (AnsL.idxM tT_ok rfl rfl rfl rfl rfl ?_); (focus (omega)))
            | (refine StL.gT rfl rfl rfl rfl rfl (AnsL.idxZ tT_ok rfl rfl rfl rfl rfl ?_ rfl rfl rfl); (focus (decide)))
          refine lbackH.of (j + 1) ?_ hh (Sel.refl _) hlt ?_
          · try dsimp only
            rw [hst]
            exact ⟨rfl, rfl, rfl, rfl, trivial⟩
          · try dsimp only
            omega
        · rw [decide_eq_false hs]
          rw [if_neg (fun h => hs (hmem.1 h))] at hst
          rw [hst] at hr
          have hkl : ((x.take j).foldl dstep []).length < B.length := by rw [hr]; simp
          have hkB : B[((x.take j).foldl dstep []).length] = x[j] := by simp [hr]
          have hO := fun t => specOrderRow_v x[j] x[j] hxi hxi t
          rw [(ordL_0 x[j] x[j]).2 rfl] at hO
          have hga : (B.map Val.toVS)[((x.take j).foldl dstep []).length]? = some (Val.toVS x[j]) := by simp [hkl, hkB]
          have hst2 : ((x.take (j + 1)).foldl dstep []).length = ((x.take j).foldl dstep []).length + 1 := by rw [hst]; simp
          generalize ((x.take j).foldl dstep []).length = k at hga hkl hst2 hdl ⊢
          repeat' first
            | (refine kOps ?_; first | (refine LOps.nil ?_) | (refine kG ?_; first | (refine LOps.gT rfl rfl rfl ?_) | (refine LOps.gF rfl rfl rfl ?_) | (refine LOps.gU rfl rfl ?_) | (refine LOps.gFN rfl rfl rfl ?_) | (refine LOps.gD true rfl rfl rfl ?_ ?_; (focus (first | (assumption) | (exact decide_eq_true (by assumption)) | (exact decide_eq_false (by assumption)) | (simp only [decide_eq_true_eq, decide_eq_false_iff_not, Bool.not_eq_true', Bool.not_eq_false', Int.ofNat_lt, Int.ofNat_le, Int.ofNat_inj, not_true_eq_false, not_false_eq_true]; omega) | (simp <;> fail)))) | (refine LOps.gD false rfl rfl rfl ?_ ?_; (focus (first | (assumption) | (exact decide_eq_true (by assumption)) | (exact decide_eq_false (by assumption)) | (simp only [decide_eq_true_eq, decide_eq_false_iff_not, Bool.not_eq_true', Bool.not_eq_false', Int.ofNat_lt, Int.ofNat_le, Int.ofNat_inj, not_true_eq_false, not_false_eq_true]; omega) | (simp <;> fail)))) | (refine LOps.gC rfl rfl rfl (fun h => ?_) (fun h => ?_))) | (refine LOps.ev tT_ok rfl ?_) | (refine kLoad ?_; first | (refine LOps.ans (AnsL.loadP tT_ok rfl rfl rfl rfl) ?_)) | (refine kLen ?_; first | (refine LOps.ans (AnsL.lenM tT_ok rfl rfl rfl) ?_) | (refine LOps.ans (AnsL.lenS tT_ok rfl rfl rfl rfl) ?_) | (refine LOps.ans (AnsL.lenG tT_ok rfl rfl rfl) ?_)) | (refine kBin ?_; first | (refine LOps.ans (AnsL.add rfl rfl ?_) ?_; (focus (constructor <;> omega))) | (refine LOps.ans (AnsL.arith rfl rfl rfl) ?_)) | (refine kIdx ?_; first | (refine LOps.ans (AnsL.idx tT_ok rfl rfl rfl rfl rfl hga rfl rfl) ?_) | (refine LOps.ans (AnsL.idxA tT_ok rfl rfl rfl rfl rfl (by omega) rfl rfl) ?_) | (refine LOps.ans (AnsL.idxZ tT_ok rfl rfl rfl rfl rfl ?_ rfl rfl rfl) ?_; (focus (decide)))) | (refine kCallN 21 ?_; first | (refine LOps.ans (AnsL.callP rfl rfl rfl (ok21) (hO _)) ?_)))
            | (refine kWL ?_; first | (refine WL.seq ?_) | (refine WL.region (by kernel_rfl) ?_) | (refine WL.drawn (id := 13) [0, 1, 2, 3, 4, 5, 6, 7, 8, 9, 10, 11, 12, 13] [13] [[], [0], [0, 1], [0, 1], [0, 1, 2, 3], [0, 1, 2, 3, 4], [0, 1], [0, 1], [0, 1, 6, 7], [0, 1, 6, 7, 8], [0, 1, 2, 3, 4, 5, 6, 7, 8, 9], [0, 1, 2, 3, 4, 5, 6, 7, 8, 9, 10], [0, 1, 2, 3, 4, 5, 6, 7, 8, 9, 10, 11], [0, 1, 2, 3, 4, 5, 6, 7, 8, 9, 10, 11, 12]] (by kernel_rfl) (by kernel_rfl) ?_) | (refine WL.drawn (id := 15) [0, 1, 2, 3, 4, 5, 6, 7, 8, 9, 10, 11, 12, 13, 14, 15] [] [[], [], [1], [0, 1, 2], [0, 1, 2, 3], [0, 1, 2, 3, 4], [0, 1, 2, 3, 4], [0, 1, 2, 3, 4, 5, 6], [0, 1, 2, 3, 4, 5, 6, 7], [0, 1, 2, 3, 4], [0, 1, 2, 3, 4], [0, 1, 2, 3, 4, 9, 10], [0, 1, 2, 3, 4, 9, 10, 11], [0, 1, 2, 3, 4, 5, 6, 7, 8, 9, 10, 11, 12], [0, 1, 2, 3, 4, 5, 6, 7, 8, 9, 10, 11, 12, 13], [0, 1, 2, 3, 4, 5, 6, 7, 8, 9, 10, 11, 12, 13, 14]] (by kernel_rfl) (by kernel_rfl) ?_) | (refine WL.block ?_) | (refine WL.exit ?_) | (refine WL.skip ?_) | (refine WL.ret ?_) | (refine kCond ?_; first | (refine WL.condT rfl ?_) | (refine WL.condF rfl ?_) | (refine WL.condT' rfl ?_ ?_; (focus (first | (assumption) | (exact decide_eq_true (by assumption)) | (exact decide_eq_false (by assumption)) | (simp only [decide_eq_true_eq, decide_eq_false_iff_not, Bool.not_eq_true', Bool.not_eq_false', Int.ofNat_lt, Int.ofNat_le, Int.ofNat_inj, not_true_eq_false, not_false_eq_true]; omega) | (simp <;> fail)))) | (refine WL.condF' rfl ?_ ?_; (focus (first | (assumption) | (exact decide_eq_true (by assumption)) | (exact decide_eq_false (by assumption)) | (simp only [decide_eq_true_eq, decide_eq_false_iff_not, Bool.not_eq_true', Bool.not_eq_false', Int.ofNat_lt, Int.ofNat_le, Int.ofNat_inj, not_true_eq_false, not_false_eq_true]; omega) | (simp <;> fail)))) | (refine WL.cond rfl (fun h => ?_) (fun h => ?_))))
            | (refine kDr ?_; first | (refine LDr.nil ?_) | (refine LDr.fl rfl rfl (.ev tT_ok rfl) ?_) | (refine LDr.gF rfl rfl rfl rfl rfl ?_) | (refine LDr.gU rfl rfl rfl rfl ?_) | (refine LDr.gT rfl rfl rfl rfl rfl (.ev tT_ok rfl) ?_) | (refine kDLoad rfl ?_; first | (refine LDr.fl rfl rfl (AnsL.loadP tT_ok rfl rfl rfl rfl) ?_) | (refine LDr.gT rfl rfl rfl rfl rfl (AnsL.loadP tT_ok rfl rfl rfl rfl) ?_)) | (refine kDLen rfl ?_; first | (refine LDr.fl rfl rfl (AnsL.lenM tT_ok rfl rfl rfl) ?_) | (refine LDr.gT rfl rfl rfl rfl rfl (AnsL.lenM tT_ok rfl rfl rfl) ?_) | (refine LDr.fl rfl rfl (AnsL.lenS tT_ok rfl rfl rfl rfl) ?_) | (refine LDr.gT rfl rfl rfl rfl rfl (AnsL.lenS tT_ok rfl rfl rfl rfl) ?_) | (refine LDr.fl rfl rfl (AnsL.lenG tT_ok rfl rfl rfl) ?_) | (refine LDr.gT rfl rfl rfl rfl rfl (AnsL.lenG tT_ok rfl rfl rfl) ?_)) | (refine kDBin rfl ?_; first | (refine LDr.fl rfl rfl (AnsL.add rfl rfl ?_) ?_; (focus (constructor <;> omega))) | (refine LDr.gT rfl rfl rfl rfl rfl (AnsL.add rfl rfl ?_) ?_; (focus (constructor <;> omega))) | (refine LDr.fl rfl rfl (AnsL.arith rfl rfl rfl) ?_) | (refine LDr.gT rfl rfl rfl rfl rfl (AnsL.arith rfl rfl rfl) ?_)) | (refine kDIdx rfl ?_; first | (refine LDr.fl rfl rfl (AnsL.idx tT_ok rfl rfl rfl rfl rfl hga rfl rfl) ?_) | (refine LDr.gT rfl rfl rfl rfl rfl (AnsL.idx tT_ok rfl rfl rfl rfl rfl hga rfl rfl) ?_) | (refine LDr.fl rfl rfl (AnsL.idxA tT_ok rfl rfl rfl rfl rfl (by omega) rfl rfl) ?_) | (refine LDr.gT rfl rfl rfl rfl rfl (AnsL.idxA tT_ok rfl rfl rfl rfl rfl (by omega) rfl rfl) ?_) | (refine LDr.fl rfl rfl (AnsL.idxZ tT_ok rfl rfl rfl rfl rfl ?_ rfl rfl rfl) ?_; (focus (decide))) | (refine LDr.gT rfl rfl rfl rfl rfl (AnsL.idxZ tT_ok rfl rfl rfl rfl rfl ?_ rfl rfl rfl) ?_; (focus (decide)))) | (refine kDCallN 21 rfl ?_; first | (refine LDr.fl rfl rfl (AnsL.callP rfl rfl rfl (ok21) (hO _)) ?_) | (refine LDr.gT rfl rfl rfl rfl rfl (AnsL.callP rfl rfl rfl (ok21) (hO _)) ?_)) | (refine LDr.gD true rfl rfl rfl rfl ?_ ?_; (focus (first | (assumption) | (exact decide_eq_true (by assumption)) | (exact decide_eq_false (by assumption)) | (simp only [decide_eq_true_eq, decide_eq_false_iff_not, Bool.not_eq_true', Bool.not_eq_false', Int.ofNat_lt, Int.ofNat_le, Int.ofNat_inj, not_true_eq_false, not_false_eq_true]; omega) | (simp <;> fail)))) | (refine LDr.gD false rfl rfl rfl rfl ?_ ?_; (focus (first | (assumption) | (exact decide_eq_true (by assumption)) | (exact decide_eq_false (by assumption)) | (simp only [decide_eq_true_eq, decide_eq_false_iff_not, Bool.not_eq_true', Bool.not_eq_false', Int.ofNat_lt, Int.ofNat_le, Int.ofNat_inj, not_true_eq_false, not_false_eq_true]; omega) | (simp <;> fail)))) | (refine LDr.gC rfl rfl rfl rfl (fun h => ?_) (fun h => ?_)) | (refine LDr.eff rfl rfl rfl ?_))
            | (refine lthen_n ?_)
            | (refine lthen_r ?_)
            | (refine lthen_e ?_)
            | (refine lblock_n ?_)
            | (refine lblock_r ?_)
            | (refine lblock_e ?_)
            | (refine lblock_o rfl ?_)
            | (refine lback_r ?_)
            | (refine lback_e ?_)
            | (refine lbackD_r ?_)
            | (refine lbackD_e ?_)
            | (refine lbackH_r ?_)
            | (refine lbackH_e ?_)
            | (refine LPost.r1 (r := .tmp 2) (.inl rfl) (Res1.tmp rfl) ?_)
            | (refine PureR.mk ?_)
            | (refine And.intro ?_ ?_)
            | (exact StsL.nil)
            | (refine StsL.cons ?_ ?_)
            | (refine StL.fl rfl rfl (.ev tT_ok rfl))
            | (refine StL.fl rfl rfl (AnsL.idx tT_ok rfl rfl rfl rfl rfl hga rfl rfl))
            | (refine StL.fl rfl rfl (AnsL.loadP tT_ok rfl rfl rfl rfl))
            | (refine StL.fl rfl rfl (AnsL.lenM tT_ok rfl rfl rfl))
            | (refine StL.fl rfl rfl (AnsL.lenS tT_ok rfl rfl rfl rfl))
            | (refine StL.fl rfl rfl (AnsL.lenG tT_ok rfl rfl rfl))
            | (refine StL.fl rfl rfl (AnsL.add rfl rfl ?_); (focus (constructor <;> omega)))
            | (refine StL.fl rfl rfl (AnsL.sub rfl rfl ?_); (focus (constructor <;> omega)))
            | (refine StL.fl rfl rfl (AnsL.mul rfl rfl ?_); (focus (constructor <;> omega)))
            | (refine StL.fl rfl rfl (AnsL.arith rfl rfl rfl))
            | (refine StL.fl rfl rfl (AnsL.shr rfl rfl rfl))
            | (refine StL.fl rfl rfl (AnsL.cat rfl rfl ?_); (focus (first | omega | (simp; omega) | (simp <;> fail))))
            | (refine StL.fl rfl rfl (AnsL.idxA tT_ok rfl rfl rfl rfl rfl (by omega) rfl rfl))
            | (refine StL.fl rfl rfl (AnsL.idxM tT_ok rfl rfl rfl rfl rfl ?_); (focus (omega)))
            | (refine StL.fl rfl rfl (AnsL.idxZ tT_ok rfl rfl rfl rfl rfl ?_ rfl rfl rfl); (focus (decide)))
            | (refine StL.fl rfl rfl (AnsL.callP rfl rfl rfl (ok21) (hO _)))
            | (refine StL.gF rfl rfl rfl rfl rfl)
            | (refine StL.gT rfl rfl rfl rfl rfl (.ev tT_ok rfl))
            | (refine StL.gT rfl rfl rfl rfl rfl (AnsL.idx tT_ok rfl rfl rfl rfl rfl hga rfl rfl))
            | (refine StL.gT rfl rfl rfl rfl rfl (AnsL.loadP tT_ok rfl rfl rfl rfl))
            | (refine StL.gT rfl rfl rfl rfl rfl (AnsL.lenM tT_ok rfl rfl rfl))
            | (refine StL.gT rfl rfl rfl rfl rfl (AnsL.lenS tT_ok rfl rfl rfl rfl))
            | (refine StL.gT rfl rfl rfl rfl rfl (AnsL.lenG tT_ok rfl rfl rfl))
            | (refine StL.gT rfl rfl rfl rfl rfl (AnsL.add rfl rfl ?_); (focus (constructor <;> omega)))
            | (refine StL.gT rfl rfl rfl rfl rfl (AnsL.sub rfl rfl ?_); (focus (constructor <;> omega)))
            | (refine StL.gT rfl rfl rfl rfl rfl (AnsL.mul rfl rfl ?_); (focus (constructor <;> omega)))
            | (refine StL.gT rfl rfl rfl rfl rfl (AnsL.arith rfl rfl rfl))
            | (refine StL.gT rfl rfl rfl rfl rfl (AnsL.shr rfl rfl rfl))
            | (refine StL.gT rfl rfl rfl rfl rfl (AnsL.cat rfl rfl ?_); (focus (first | omega | (simp; omega) | (simp <;> fail))))
            | (refine StL.gT rfl rfl rfl rfl rfl (AnsL.idxA tT_ok rfl rfl rfl rfl rfl (by omega) rfl rfl))
            | (refine StL.gT rfl rfl rfl rfl rfl (AnsL.idxM tT_ok rfl rfl rfl rfl rfl ?_); (focus (omega)))
            | (refine StL.gT rfl rfl rfl rfl rfl (AnsL.idxZ tT_ok rfl rfl rfl rfl rfl ?_ rfl rfl rfl); (focus (decide)))
            | (refine StL.gT rfl rfl rfl rfl rfl (AnsL.callP rfl rfl rfl (ok21) (hO _)))
          refine lbackH.of (j + 1) ?_ hh (Sel.refl _) hlt ?_
          · try dsimp only
            rw [hst2]
            exact ⟨rfl, rfl, rfl, rfl, trivial⟩
          · try dsimp only
            omega
    · rw [List.take_of_length_le hge]
      have hlen : (x.foldl dstep []).length = B.length := by rw [hB]; rfl
      rw [hlen]
      have hS := fun t => implSameRows_v B B (by omega) (by omega) t
      rw [same_refl] at hS
      repeat' first
        | (refine kOps ?_; first | (refine LOps.nil ?_) | (refine kG ?_; first | (refine LOps.gT rfl rfl rfl ?_) | (refine LOps.gF rfl rfl rfl ?_) | (refine LOps.gU rfl rfl ?_) | (refine LOps.gFN rfl rfl rfl ?_) | (refine LOps.gD true rfl rfl rfl ?_ ?_; (focus (first | (assumption) | (exact decide_eq_true (by assumption)) | (exact decide_eq_false (by assumption)) | (simp only [decide_eq_true_eq, decide_eq_false_iff_not, Bool.not_eq_true', Bool.not_eq_false', Int.ofNat_lt, Int.ofNat_le, Int.ofNat_inj, not_true_eq_false, not_false_eq_true]; omega) | (simp <;> fail)))) | (refine LOps.gD false rfl rfl rfl ?_ ?_; (focus (first | (assumption) | (exact decide_eq_true (by assumption)) | (exact decide_eq_false (by assumption)) | (simp only [decide_eq_true_eq, decide_eq_false_iff_not, Bool.not_eq_true', Bool.not_eq_false', Int.ofNat_lt, Int.ofNat_le, Int.ofNat_inj, not_true_eq_false, not_false_eq_true]; omega) | (simp <;> fail)))) | (refine LOps.gC rfl rfl rfl (fun h => ?_) (fun h => ?_))) | (refine LOps.ev tT_ok rfl ?_) | (refine kLoad ?_; first | (refine LOps.ans (AnsL.loadP tT_ok rfl rfl rfl rfl) ?_)) | (refine kLen ?_; first | (refine LOps.ans (AnsL.lenM tT_ok rfl rfl rfl) ?_) | (refine LOps.ans (AnsL.lenS tT_ok rfl rfl rfl rfl) ?_) | (refine LOps.ans (AnsL.lenG tT_ok rfl rfl rfl) ?_)) | (refine kBin ?_; first | (refine LOps.ans (AnsL.add rfl rfl ?_) ?_; (focus (constructor <;> omega))) | (refine LOps.ans (AnsL.arith rfl rfl rfl) ?_)) | (refine kIdx ?_; first | (refine LOps.ans (AnsL.idxA tT_ok rfl rfl rfl rfl rfl (by omega) rfl rfl) ?_) | (refine LOps.ans (AnsL.idxZ tT_ok rfl rfl rfl rfl rfl ?_ rfl rfl rfl) ?_; (focus (decide)))) | (refine kCallN 20 ?_; first | (refine LOps.ans (AnsL.callP rfl rfl rfl (ok20) (hD2 _)) ?_)) | (refine kCallN 22 ?_; first | (refine LOps.ans (AnsL.callP rfl rfl rfl (ok22) (hS _)) ?_)))
        | (refine kWL ?_; first | (refine WL.seq ?_) | (refine WL.region (by kernel_rfl) ?_) | (refine WL.drawn (id := 13) [0, 1, 2, 3, 4, 5, 6, 7, 8, 9, 10, 11, 12, 13] [13] [[], [0], [0, 1], [0, 1], [0, 1, 2, 3], [0, 1, 2, 3, 4], [0, 1], [0, 1], [0, 1, 6, 7], [0, 1, 6, 7, 8], [0, 1, 2, 3, 4, 5, 6, 7, 8, 9], [0, 1, 2, 3, 4, 5, 6, 7, 8, 9, 10], [0, 1, 2, 3, 4, 5, 6, 7, 8, 9, 10, 11], [0, 1, 2, 3, 4, 5, 6, 7, 8, 9, 10, 11, 12]] (by kernel_rfl) (by kernel_rfl) ?_) | (refine WL.drawn (id := 15) [0, 1, 2, 3, 4, 5, 6, 7, 8, 9, 10, 11, 12, 13, 14, 15] [] [[], [], [1], [0, 1, 2], [0, 1, 2, 3], [0, 1, 2, 3, 4], [0, 1, 2, 3, 4], [0, 1, 2, 3, 4, 5, 6], [0, 1, 2, 3, 4, 5, 6, 7], [0, 1, 2, 3, 4], [0, 1, 2, 3, 4], [0, 1, 2, 3, 4, 9, 10], [0, 1, 2, 3, 4, 9, 10, 11], [0, 1, 2, 3, 4, 5, 6, 7, 8, 9, 10, 11, 12], [0, 1, 2, 3, 4, 5, 6, 7, 8, 9, 10, 11, 12, 13], [0, 1, 2, 3, 4, 5, 6, 7, 8, 9, 10, 11, 12, 13, 14]] (by kernel_rfl) (by kernel_rfl) ?_) | (refine WL.block ?_) | (refine WL.exit ?_) | (refine WL.skip ?_) | (refine WL.ret ?_) | (refine kCond ?_; first | (refine WL.condT rfl ?_) | (refine WL.condF rfl ?_) | (refine WL.condT' rfl ?_ ?_; (focus (first | (assumption) | (exact decide_eq_true (by assumption)) | (exact decide_eq_false (by assumption)) | (simp only [decide_eq_true_eq, decide_eq_false_iff_not, Bool.not_eq_true', Bool.not_eq_false', Int.ofNat_lt, Int.ofNat_le, Int.ofNat_inj, not_true_eq_false, not_false_eq_true]; omega) | (simp <;> fail)))) | (refine WL.condF' rfl ?_ ?_; (focus (first | (assumption) | (exact decide_eq_true (by assumption)) | (exact decide_eq_false (by assumption)) | (simp only [decide_eq_true_eq, decide_eq_false_iff_not, Bool.not_eq_true', Bool.not_eq_false', Int.ofNat_lt, Int.ofNat_le, Int.ofNat_inj, not_true_eq_false, not_false_eq_true]; omega) | (simp <;> fail)))) | (refine WL.cond rfl (fun h => ?_) (fun h => ?_))))
        | (refine kDr ?_; first | (refine LDr.nil ?_) | (refine LDr.fl rfl rfl (.ev tT_ok rfl) ?_) | (refine LDr.gF rfl rfl rfl rfl rfl ?_) | (refine LDr.gU rfl rfl rfl rfl ?_) | (refine LDr.gT rfl rfl rfl rfl rfl (.ev tT_ok rfl) ?_) | (refine kDLoad rfl ?_; first | (refine LDr.fl rfl rfl (AnsL.loadP tT_ok rfl rfl rfl rfl) ?_) | (refine LDr.gT rfl rfl rfl rfl rfl (AnsL.loadP tT_ok rfl rfl rfl rfl) ?_)) | (refine kDLen rfl ?_; first | (refine LDr.fl rfl rfl (AnsL.lenM tT_ok rfl rfl rfl) ?_) | (refine LDr.gT rfl rfl rfl rfl rfl (AnsL.lenM tT_ok rfl rfl rfl) ?_) | (refine LDr.fl rfl rfl (AnsL.lenS tT_ok rfl rfl rfl rfl) ?_) | (refine LDr.gT rfl rfl rfl rfl rfl (AnsL.lenS tT_ok rfl rfl rfl rfl) ?_) | (refine LDr.fl rfl rfl (AnsL.lenG tT_ok rfl rfl rfl) ?_) | (refine LDr.gT rfl rfl rfl rfl rfl (AnsL.lenG tT_ok rfl rfl rfl) ?_)) | (refine kDBin rfl ?_; first | (refine LDr.fl rfl rfl (AnsL.add rfl rfl ?_) ?_; (focus (constructor <;> omega))) | (refine LDr.gT rfl rfl rfl rfl rfl (AnsL.add rfl rfl ?_) ?_; (focus (constructor <;> omega))) | (refine LDr.fl rfl rfl (AnsL.arith rfl rfl rfl) ?_) | (refine LDr.gT rfl rfl rfl rfl rfl (AnsL.arith rfl rfl rfl) ?_)) | (refine kDIdx rfl ?_; first | (refine LDr.fl rfl rfl (AnsL.idxA tT_ok rfl rfl rfl rfl rfl (by omega) rfl rfl) ?_) | (refine LDr.gT rfl rfl rfl rfl rfl (AnsL.idxA tT_ok rfl rfl rfl rfl rfl (by omega) rfl rfl) ?_) | (refine LDr.fl rfl rfl (AnsL.idxZ tT_ok rfl rfl rfl rfl rfl ?_ rfl rfl rfl) ?_; (focus (decide))) | (refine LDr.gT rfl rfl rfl rfl rfl (AnsL.idxZ tT_ok rfl rfl rfl rfl rfl ?_ rfl rfl rfl) ?_; (focus (decide)))) | (refine kDCallN 20 rfl ?_; first | (refine LDr.fl rfl rfl (AnsL.callP rfl rfl rfl (ok20) (hD2 _)) ?_) | (refine LDr.gT rfl rfl rfl rfl rfl (AnsL.callP rfl rfl rfl (ok20) (hD2 _)) ?_)) | (refine kDCallN 22 rfl ?_; first | (refine LDr.fl rfl rfl (AnsL.callP rfl rfl rfl (ok22) (hS _)) ?_) | (refine LDr.gT rfl rfl rfl rfl rfl (AnsL.callP rfl rfl rfl (ok22) (hS _)) ?_)) | (refine LDr.gD true rfl rfl rfl rfl ?_ ?_; (focus (first | (assumption) | (exact decide_eq_true (by assumption)) | (exact decide_eq_false (by assumption)) | (simp only [decide_eq_true_eq, decide_eq_false_iff_not, Bool.not_eq_true', Bool.not_eq_false', Int.ofNat_lt, Int.ofNat_le, Int.ofNat_inj, not_true_eq_false, not_false_eq_true]; omega) | (simp <;> fail)))) | (refine LDr.gD false rfl rfl rfl rfl ?_ ?_; (focus (first | (assumption) | (exact decide_eq_true (by assumption)) | (exact decide_eq_false (by assumption)) | (simp only [decide_eq_true_eq, decide_eq_false_iff_not, Bool.not_eq_true', Bool.not_eq_false', Int.ofNat_lt, Int.ofNat_le, Int.ofNat_inj, not_true_eq_false, not_false_eq_true]; omega) | (simp <;> fail)))) | (refine LDr.gC rfl rfl rfl rfl (fun h => ?_) (fun h => ?_)) | (refine LDr.eff rfl rfl rfl ?_))
        | (refine lthen_n ?_)
        | (refine lthen_r ?_)
        | (refine lthen_e ?_)
        | (refine lblock_n ?_)
        | (refine lblock_r ?_)
        | (refine lblock_e ?_)
        | (refine lblock_o rfl ?_)
        | (refine lback_r ?_)
        | (refine lback_e ?_)
        | (refine lbackD_r ?_)
        | (refine lbackD_e ?_)
        | (refine lbackH_r ?_)
        | (refine lbackH_e ?_)
        | (refine LPost.r1 (r := .tmp 2) (.inl rfl) (Res1.tmp rfl) ?_)
        | (refine PureR.mk ?_)
        | (refine And.intro ?_ ?_)
        | (exact StsL.nil)
        | (refine StsL.cons ?_ ?_)
        | (refine StL.fl rfl rfl (.ev tT_ok rfl))
        | (refine StL.fl rfl rfl (AnsL.loadP tT_ok rfl rfl rfl rfl))
        | (refine StL.fl rfl rfl (AnsL.lenM tT_ok rfl rfl rfl))
        | (refine StL.fl rfl rfl (AnsL.lenS tT_ok rfl rfl rfl rfl))
        | (refine StL.fl rfl rfl (AnsL.lenG tT_ok rfl rfl rfl))
        | (refine StL.fl rfl rfl (AnsL.add rfl rfl ?_); (focus (constructor <;> omega)))
        | (refine StL.fl rfl rfl (AnsL.sub rfl rfl ?_); (focus (constructor <;> omega)))
        | (refine StL.fl rfl rfl (AnsL.mul rfl rfl ?_); (focus (constructor <;> omega)))
        | (refine StL.fl rfl rfl (AnsL.arith rfl rfl rfl))
        | (refine StL.fl rfl rfl (AnsL.shr rfl rfl rfl))
        | (refine StL.fl rfl rfl (AnsL.cat rfl rfl ?_); (focus (first | omega | (simp; omega) | (simp <;> fail))))
        | (refine StL.fl rfl rfl (AnsL.idxA tT_ok rfl rfl rfl rfl rfl (by omega) rfl rfl))
        | (refine StL.fl rfl rfl (AnsL.idxM tT_ok rfl rfl rfl rfl rfl ?_); (focus (omega)))
        | (refine StL.fl rfl rfl (AnsL.idxZ tT_ok rfl rfl rfl rfl rfl ?_ rfl rfl rfl); (focus (decide)))
        | (refine StL.fl rfl rfl (AnsL.callP rfl rfl rfl (ok20) (hD2 _)))
        | (refine StL.fl rfl rfl (AnsL.callP rfl rfl rfl (ok22) (hS _)))
        | (refine StL.gF rfl rfl rfl rfl rfl)
        | (refine StL.gT rfl rfl rfl rfl rfl (.ev tT_ok rfl))
        | (refine StL.gT rfl rfl rfl rfl rfl (AnsL.loadP tT_ok rfl rfl rfl rfl))
        | (refine StL.gT rfl rfl rfl rfl rfl (AnsL.lenM tT_ok rfl rfl rfl))
        | (refine StL.gT rfl rfl rfl rfl rfl (AnsL.lenS tT_ok rfl rfl rfl rfl))
        | (refine StL.gT rfl rfl rfl rfl rfl (AnsL.lenG tT_ok rfl rfl rfl))
        | (refine StL.gT rfl rfl rfl rfl rfl (AnsL.add rfl rfl ?_); (focus (constructor <;> omega)))
        | (refine StL.gT rfl rfl rfl rfl rfl (AnsL.sub rfl rfl ?_); (focus (constructor <;> omega)))
        | (refine StL.gT rfl rfl rfl rfl rfl (AnsL.mul rfl rfl ?_); (focus (constructor <;> omega)))
        | (refine StL.gT rfl rfl rfl rfl rfl (AnsL.arith rfl rfl rfl))
        | (refine StL.gT rfl rfl rfl rfl rfl (AnsL.shr rfl rfl rfl))
        | (refine StL.gT rfl rfl rfl rfl rfl (AnsL.cat rfl rfl ?_); (focus (first | omega | (simp; omega) | (simp <;> fail))))
        | (refine StL.gT rfl rfl rfl rfl rfl (AnsL.idxA tT_ok rfl rfl rfl rfl rfl (by omega) rfl rfl))
        | (refine StL.gT rfl rfl rfl rfl rfl (AnsL.idxM tT_ok rfl rfl rfl rfl rfl ?_); (focus (omega)))
        | (refine StL.gT rfl rfl rfl rfl rfl (AnsL.idxZ tT_ok rfl rfl rfl rfl rfl ?_ rfl rfl rfl); (focus (decide)))
        | (refine StL.gT rfl rfl rfl rfl rfl (AnsL.callP rfl rfl rfl (ok20) (hD2 _)))
        | (refine StL.gT rfl rfl rfl rfl rfl (AnsL.callP rfl rfl rfl (ok22) (hS _)))
      all_goals simp
  · skip
    repeat' first
      | (refine kOps ?_; first | (refine LOps.nil ?_) | (refine kG ?_; first | (refine LOps.gT rfl rfl rfl ?_) | (refine LOps.gF rfl rfl rfl ?_) | (refine LOps.gU rfl rfl ?_) | (refine LOps.gFN rfl rfl rfl ?_) | (refine LOps.gD true rfl rfl rfl ?_ ?_; (focus (first | (assumption) | (exact decide_eq_true (by assumption)) | (exact decide_eq_false (by assumption)) | (simp only [decide_eq_true_eq, decide_eq_false_iff_not, Bool.not_eq_true', Bool.not_eq_false', Int.ofNat_lt, Int.ofNat_le, Int.ofNat_inj, not_true_eq_false, not_false_eq_true]; omega) | (simp <;> fail)))) | (refine LOps.gD false rfl rfl rfl ?_ ?_; (focus (first | (assumption) | (exact decide_eq_true (by assumption)) | (exact decide_eq_false (by assumption)) | (simp only [decide_eq_true_eq, decide_eq_false_iff_not, Bool.not_eq_true', Bool.not_eq_false', Int.ofNat_lt, Int.ofNat_le, Int.ofNat_inj, not_true_eq_false, not_false_eq_true]; omega) | (simp <;> fail)))) | (refine LOps.gC rfl rfl rfl (fun h => ?_) (fun h => ?_))) | (refine LOps.ev tT_ok rfl ?_) | (refine kLoad ?_; first | (refine LOps.ans (AnsL.loadP tT_ok rfl rfl rfl rfl) ?_)) | (refine kLen ?_; first | (refine LOps.ans (AnsL.lenM tT_ok rfl rfl rfl) ?_) | (refine LOps.ans (AnsL.lenS tT_ok rfl rfl rfl rfl) ?_) | (refine LOps.ans (AnsL.lenG tT_ok rfl rfl rfl) ?_)) | (refine kBin ?_; first | (refine LOps.ans (AnsL.add rfl rfl ?_) ?_; (focus (constructor <;> omega))) | (refine LOps.ans (AnsL.arith rfl rfl rfl) ?_)) | (refine kIdx ?_; first | (refine LOps.ans (AnsL.idxA tT_ok rfl rfl rfl rfl rfl (by omega) rfl rfl) ?_) | (refine LOps.ans (AnsL.idxZ tT_ok rfl rfl rfl rfl rfl ?_ rfl rfl rfl) ?_; (focus (decide)))) | (refine kCallN 11 ?_; first | (refine LOps.ans (AnsL.callP rfl rfl rfl (ok11) (hbig _)) ?_)))
      | (refine kWL ?_; first | (refine WL.seq ?_) | (refine WL.region (by kernel_rfl) ?_) | (refine WL.drawn (id := 13) [0, 1, 2, 3, 4, 5, 6, 7, 8, 9, 10, 11, 12, 13] [13] [[], [0], [0, 1], [0, 1], [0, 1, 2, 3], [0, 1, 2, 3, 4], [0, 1], [0, 1], [0, 1, 6, 7], [0, 1, 6, 7, 8], [0, 1, 2, 3, 4, 5, 6, 7, 8, 9], [0, 1, 2, 3, 4, 5, 6, 7, 8, 9, 10], [0, 1, 2, 3, 4, 5, 6, 7, 8, 9, 10, 11], [0, 1, 2, 3, 4, 5, 6, 7, 8, 9, 10, 11, 12]] (by kernel_rfl) (by kernel_rfl) ?_) | (refine WL.drawn (id := 15) [0, 1, 2, 3, 4, 5, 6, 7, 8, 9, 10, 11, 12, 13, 14, 15] [] [[], [], [1], [0, 1, 2], [0, 1, 2, 3], [0, 1, 2, 3, 4], [0, 1, 2, 3, 4], [0, 1, 2, 3, 4, 5, 6], [0, 1, 2, 3, 4, 5, 6, 7], [0, 1, 2, 3, 4], [0, 1, 2, 3, 4], [0, 1, 2, 3, 4, 9, 10], [0, 1, 2, 3, 4, 9, 10, 11], [0, 1, 2, 3, 4, 5, 6, 7, 8, 9, 10, 11, 12], [0, 1, 2, 3, 4, 5, 6, 7, 8, 9, 10, 11, 12, 13], [0, 1, 2, 3, 4, 5, 6, 7, 8, 9, 10, 11, 12, 13, 14]] (by kernel_rfl) (by kernel_rfl) ?_) | (refine WL.block ?_) | (refine WL.exit ?_) | (refine WL.skip ?_) | (refine WL.ret ?_) | (refine kCond ?_; first | (refine WL.condT rfl ?_) | (refine WL.condF rfl ?_) | (refine WL.condT' rfl ?_ ?_; (focus (first | (assumption) | (exact decide_eq_true (by assumption)) | (exact decide_eq_false (by assumption)) | (simp only [decide_eq_true_eq, decide_eq_false_iff_not, Bool.not_eq_true', Bool.not_eq_false', Int.ofNat_lt, Int.ofNat_le, Int.ofNat_inj, not_true_eq_false, not_false_eq_true]; omega) | (simp <;> fail)))) | (refine WL.condF' rfl ?_ ?_; (focus (first | (assumption) | (exact decide_eq_true (by assumption)) | (exact decide_eq_false (by assumption)) | (simp only [decide_eq_true_eq, decide_eq_false_iff_not, Bool.not_eq_true', Bool.not_eq_false', Int.ofNat_lt, Int.ofNat_le, Int.ofNat_inj, not_true_eq_false, not_false_eq_true]; omega) | (simp <;> fail)))) | (refine WL.cond rfl (fun h => ?_) (fun h => ?_))))
      | (refine kDr ?_; first | (refine LDr.nil ?_) | (refine LDr.fl rfl rfl (.ev tT_ok rfl) ?_) | (refine LDr.gF rfl rfl rfl rfl rfl ?_) | (refine LDr.gU rfl rfl rfl rfl ?_) | (refine LDr.gT rfl rfl rfl rfl rfl (.ev tT_ok rfl) ?_) | (refine kDLoad rfl ?_; first | (refine LDr.fl rfl rfl (AnsL.loadP tT_ok rfl rfl rfl rfl) ?_) | (refine LDr.gT rfl rfl rfl rfl rfl (AnsL.loadP tT_ok rfl rfl rfl rfl) ?_)) | (refine kDLen rfl ?_; first | (refine LDr.fl rfl rfl (AnsL.lenM tT_ok rfl rfl rfl) ?_) | (refine LDr.gT rfl rfl rfl rfl rfl (AnsL.lenM tT_ok rfl rfl rfl) ?_) | (refine LDr.fl rfl rfl (AnsL.lenS tT_ok rfl rfl rfl rfl) ?_) | (refine LDr.gT rfl rfl rfl rfl rfl (AnsL.lenS tT_ok rfl rfl rfl rfl) ?_) | (refine LDr.fl rfl rfl (AnsL.lenG tT_ok rfl rfl rfl) ?_) | (refine LDr.gT rfl rfl rfl rfl rfl (AnsL.lenG tT_ok rfl rfl rfl) ?_)) | (refine kDBin rfl ?_; first | (refine LDr.fl rfl rfl (AnsL.add rfl rfl ?_) ?_; (focus (constructor <;> omega))) | (refine LDr.gT rfl rfl rfl rfl rfl (AnsL.add rfl rfl ?_) ?_; (focus (constructor <;> omega))) | (refine LDr.fl rfl rfl (AnsL.arith rfl rfl rfl) ?_) | (refine LDr.gT rfl rfl rfl rfl rfl (AnsL.arith rfl rfl rfl) ?_)) | (refine kDIdx rfl ?_; first | (refine LDr.fl rfl rfl (AnsL.idxA tT_ok rfl rfl rfl rfl rfl (by omega) rfl rfl) ?_) | (refine LDr.gT rfl rfl rfl rfl rfl (AnsL.idxA tT_ok rfl rfl rfl rfl rfl (by omega) rfl rfl) ?_) | (refine LDr.fl rfl rfl (AnsL.idxZ tT_ok rfl rfl rfl rfl rfl ?_ rfl rfl rfl) ?_; (focus (decide))) | (refine LDr.gT rfl rfl rfl rfl rfl (AnsL.idxZ tT_ok rfl rfl rfl rfl rfl ?_ rfl rfl rfl) ?_; (focus (decide)))) | (refine kDCallN 11 rfl ?_; first | (refine LDr.fl rfl rfl (AnsL.callP rfl rfl rfl (ok11) (hbig _)) ?_) | (refine LDr.gT rfl rfl rfl rfl rfl (AnsL.callP rfl rfl rfl (ok11) (hbig _)) ?_)) | (refine LDr.gD true rfl rfl rfl rfl ?_ ?_; (focus (first | (assumption) | (exact decide_eq_true (by assumption)) | (exact decide_eq_false (by assumption)) | (simp only [decide_eq_true_eq, decide_eq_false_iff_not, Bool.not_eq_true', Bool.not_eq_false', Int.ofNat_lt, Int.ofNat_le, Int.ofNat_inj, not_true_eq_false, not_false_eq_true]; omega) | (simp <;> fail)))) | (refine LDr.gD false rfl rfl rfl rfl ?_ ?_; (focus (first | (assumption) | (exact decide_eq_true (by assumption)) | (exact decide_eq_false (by assumption)) | (simp only [decide_eq_true_eq, decide_eq_false_iff_not, Bool.not_eq_true', Bool.not_eq_false', Int.ofNat_lt, Int.ofNat_le, Int.ofNat_inj, not_true_eq_false, not_false_eq_true]; omega) | (simp <;> fail)))) | (refine LDr.gC rfl rfl rfl rfl (fun h => ?_) (fun h => ?_)) | (refine LDr.eff rfl rfl rfl ?_))
      | (refine lthen_n ?_)
      | (refine lthen_r ?_)
      | (refine lthen_e ?_)
      | (refine lblock_n ?_)
      | (refine lblock_r ?_)
      | (refine lblock_e ?_)
      | (refine lblock_o rfl ?_)
      | (refine lback_r ?_)
      | (refine lback_e ?_)
      | (refine lbackD_r ?_)
      | (refine lbackD_e ?_)
      | (refine lbackH_r ?_)
      | (refine lbackH_e ?_)
      | (refine LPost.r1 (r := .tmp 2) (.inl rfl) (Res1.tmp rfl) ?_)
      | (refine PureR.mk ?_)
      | (refine And.intro ?_ ?_)
      | (exact StsL.nil)
      | (refine StsL.cons ?_ ?_)
      | (refine StL.fl rfl rfl (.ev tT_ok rfl))
      | (refine StL.fl rfl rfl (AnsL.loadP tT_ok rfl rfl rfl rfl))
      | (refine StL.fl rfl rfl (AnsL.lenM tT_ok rfl rfl rfl))
      | (refine StL.fl rfl rfl (AnsL.lenS tT_ok rfl rfl rfl rfl))
      | (refine StL.fl rfl rfl (AnsL.lenG tT_ok rfl rfl rfl))
      | (refine StL.fl rfl rfl (AnsL.add rfl rfl ?_); (focus (constructor <;> omega)))
      | (refine StL.fl rfl rfl (AnsL.sub rfl rfl ?_); (focus (constructor <;> omega)))
      | (refine StL.fl rfl rfl (AnsL.mul rfl rfl ?_); (focus (constructor <;> omega)))
      | (refine StL.fl rfl rfl (AnsL.arith rfl rfl rfl))
      | (refine StL.fl rfl rfl (AnsL.shr rfl rfl rfl))
      | (refine StL.fl rfl rfl (AnsL.cat rfl rfl ?_); (focus (first | omega | (simp; omega) | (simp <;> fail))))
      | (refine StL.fl rfl rfl (AnsL.idxA tT_ok rfl rfl rfl rfl rfl (by omega) rfl rfl))
      | (refine StL.fl rfl rfl (AnsL.idxM tT_ok rfl rfl rfl rfl rfl ?_); (focus (omega)))
      | (refine StL.fl rfl rfl (AnsL.idxZ tT_ok rfl rfl rfl rfl rfl ?_ rfl rfl rfl); (focus (decide)))
      | (refine StL.fl rfl rfl (AnsL.callP rfl rfl rfl (ok11) (hbig _)))
      | (refine StL.gF rfl rfl rfl rfl rfl)
      | (refine StL.gT rfl rfl rfl rfl rfl (.ev tT_ok rfl))
      | (refine StL.gT rfl rfl rfl rfl rfl (AnsL.loadP tT_ok rfl rfl rfl rfl))
      | (refine StL.gT rfl rfl rfl rfl rfl (AnsL.lenM tT_ok rfl rfl rfl))
      | (refine StL.gT rfl rfl rfl rfl rfl (AnsL.lenS tT_ok rfl rfl rfl rfl))
      | (refine StL.gT rfl rfl rfl rfl rfl (AnsL.lenG tT_ok rfl rfl rfl))
      | (refine StL.gT rfl rfl rfl rfl rfl (AnsL.add rfl rfl ?_); (focus (constructor <;> omega)))
      | (refine StL.gT rfl rfl rfl rfl rfl (AnsL.sub rfl rfl ?_); (focus (constructor <;> omega)))
      | (refine StL.gT rfl rfl rfl rfl rfl (AnsL.mul rfl rfl ?_); (focus (constructor <;> omega)))
      | (refine StL.gT rfl rfl rfl rfl rfl (AnsL.arith rfl rfl rfl))
      | (refine StL.gT rfl rfl rfl rfl rfl (AnsL.shr rfl rfl rfl))
      | (refine StL.gT rfl rfl rfl rfl rfl (AnsL.cat rfl rfl ?_); (focus (first | omega | (simp; omega) | (simp <;> fail))))
      | (refine StL.gT rfl rfl rfl rfl rfl (AnsL.idxA tT_ok rfl rfl rfl rfl rfl (by omega) rfl rfl))
      | (refine StL.gT rfl rfl rfl rfl rfl (AnsL.idxM tT_ok rfl rfl rfl rfl rfl ?_); (focus (omega)))
      | (refine StL.gT rfl rfl rfl rfl rfl (AnsL.idxZ tT_ok rfl rfl rfl rfl rfl ?_ rfl rfl rfl); (focus (decide)))
      | (refine StL.gT rfl rfl rfl rfl rfl (AnsL.callP rfl rfl rfl (ok11) (hbig _)))
    rfl

end Go.Proofs.Ytehmlklfbllgcaa
