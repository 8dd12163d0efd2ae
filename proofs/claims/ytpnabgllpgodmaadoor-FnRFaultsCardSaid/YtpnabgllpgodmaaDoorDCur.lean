/-
  The cursor and the small draws. Own work; no condition.
-/
import Derived.Test.YtpnabgllpgodmaaDoorVDraw
import Derived.Test.YtpnabgllpgodmaaDoorDOwn
namespace Go.Proofs.YtpnabgllpgodmaaDoor
open Go
set_option linter.unusedSimpArgs false
set_option linter.unusedVariables false

theorem tmod_lo {a n : Int} (h : 0 ≤ a) : 0 ≤ a.tmod n := Int.tmod_nonneg _ h
theorem tmod_hi {a n : Int} (_h : 0 ≤ a) (hn : 0 < n) : a.tmod n ≤ n - 1 := by
  have := Int.tmod_lt_of_pos a hn
  omega
theorem specl1Byte_d {b : V} (hb : Bytes b) : Drw Tryd.prog 24 b [] iV (fun x => 0 ≤ x ∧ x ≤ 255) := by
  intro s H l i h hi hh
  obtain ⟨k, rfl⟩ := Int.eq_ofNat_of_zero_le hi
  rcases hb with rfl | ⟨bs, rfl, hlen⟩
  · have h0 : ¬ ((k : Int) < 0) := by omega
    refine LCalls.body0 Tryd.func24 rfl (by kernel_rfl) ?_
    repeat' first
      | (refine kStore ?_ ; first | (refine LOps.storeH tT_ok 0 hh rfl rfl rfl rfl rfl rfl rfl rfl rfl ?_ ; intro s hh) | (refine LOps.storeH tT_ok 1 hh rfl rfl rfl rfl rfl rfl rfl rfl rfl ?_ ; intro s hh) | (refine LOps.storeH tT_ok 2 hh rfl rfl rfl rfl rfl rfl rfl rfl rfl ?_ ; intro s hh) | (refine LOps.storeH tT_ok 3 hh rfl rfl rfl rfl rfl rfl rfl rfl rfl ?_ ; intro s hh) | (refine LOps.storeH tT_ok 4 hh rfl rfl rfl rfl rfl rfl rfl rfl rfl ?_ ; intro s hh) | (refine LOps.storeH tT_ok 5 hh rfl rfl rfl rfl rfl rfl rfl rfl rfl ?_ ; intro s hh) | (refine LOps.storeH tT_ok 6 hh rfl rfl rfl rfl rfl rfl rfl rfl rfl ?_ ; intro s hh) | (refine LOps.storeH tT_ok 7 hh rfl rfl rfl rfl rfl rfl rfl rfl rfl ?_ ; intro s hh) | (refine LOps.storeHW tT_ok 0 hh rfl rfl rfl rfl rfl rfl rfl ?_ ; intro s hh) | (refine LOps.storeHW tT_ok 1 hh rfl rfl rfl rfl rfl rfl rfl ?_ ; intro s hh) | (refine LOps.storeHW tT_ok 2 hh rfl rfl rfl rfl rfl rfl rfl ?_ ; intro s hh) | (refine LOps.storeHW tT_ok 3 hh rfl rfl rfl rfl rfl rfl rfl ?_ ; intro s hh) | (refine LOps.storeHW tT_ok 4 hh rfl rfl rfl rfl rfl rfl rfl ?_ ; intro s hh) | (refine LOps.storeHW tT_ok 5 hh rfl rfl rfl rfl rfl rfl rfl ?_ ; intro s hh) | (refine LOps.storeHW tT_ok 6 hh rfl rfl rfl rfl rfl rfl rfl ?_ ; intro s hh) | (refine LOps.storeHW tT_ok 7 hh rfl rfl rfl rfl rfl rfl rfl ?_ ; intro s hh) | (refine LOps.storeHS tT_ok 0 hh rfl rfl rfl rfl rfl rfl rfl rfl ?_ ; intro s hh) | (refine LOps.storeHS tT_ok 1 hh rfl rfl rfl rfl rfl rfl rfl rfl ?_ ; intro s hh) | (refine LOps.storeHS tT_ok 2 hh rfl rfl rfl rfl rfl rfl rfl rfl ?_ ; intro s hh) | (refine LOps.storeHS tT_ok 3 hh rfl rfl rfl rfl rfl rfl rfl rfl ?_ ; intro s hh) | (refine LOps.storeHS tT_ok 4 hh rfl rfl rfl rfl rfl rfl rfl rfl ?_ ; intro s hh) | (refine LOps.storeHS tT_ok 5 hh rfl rfl rfl rfl rfl rfl rfl rfl ?_ ; intro s hh) | (refine LOps.storeHS tT_ok 6 hh rfl rfl rfl rfl rfl rfl rfl rfl ?_ ; intro s hh) | (refine LOps.storeHS tT_ok 7 hh rfl rfl rfl rfl rfl rfl rfl rfl ?_ ; intro s hh) | (refine LOps.storeH tT_ok 0 hh rfl rfl rfl rfl rfl ?_ rfl rfl rfl ?_ ; (focus (repeat' first | (exact rfl) | (refine ones_cons (thw_one _ _ _) ?_) | (refine ones_cons rfl ?_))) ; intro s hh) | (refine LOps.storeH tT_ok 1 hh rfl rfl rfl rfl rfl ?_ rfl rfl rfl ?_ ; (focus (repeat' first | (exact rfl) | (refine ones_cons (thw_one _ _ _) ?_) | (refine ones_cons rfl ?_))) ; intro s hh) | (refine LOps.storeH tT_ok 2 hh rfl rfl rfl rfl rfl ?_ rfl rfl rfl ?_ ; (focus (repeat' first | (exact rfl) | (refine ones_cons (thw_one _ _ _) ?_) | (refine ones_cons rfl ?_))) ; intro s hh) | (refine LOps.storeH tT_ok 3 hh rfl rfl rfl rfl rfl ?_ rfl rfl rfl ?_ ; (focus (repeat' first | (exact rfl) | (refine ones_cons (thw_one _ _ _) ?_) | (refine ones_cons rfl ?_))) ; intro s hh) | (refine LOps.storeH tT_ok 4 hh rfl rfl rfl rfl rfl ?_ rfl rfl rfl ?_ ; (focus (repeat' first | (exact rfl) | (refine ones_cons (thw_one _ _ _) ?_) | (refine ones_cons rfl ?_))) ; intro s hh) | (refine LOps.storeH tT_ok 5 hh rfl rfl rfl rfl rfl ?_ rfl rfl rfl ?_ ; (focus (repeat' first | (exact rfl) | (refine ones_cons (thw_one _ _ _) ?_) | (refine ones_cons rfl ?_))) ; intro s hh) | (refine LOps.storeH tT_ok 6 hh rfl rfl rfl rfl rfl ?_ rfl rfl rfl ?_ ; (focus (repeat' first | (exact rfl) | (refine ones_cons (thw_one _ _ _) ?_) | (refine ones_cons rfl ?_))) ; intro s hh) | (refine LOps.storeH tT_ok 7 hh rfl rfl rfl rfl rfl ?_ rfl rfl rfl ?_ ; (focus (repeat' first | (exact rfl) | (refine ones_cons (thw_one _ _ _) ?_) | (refine ones_cons rfl ?_))) ; intro s hh))
      | (refine kOps ?_; first | (refine LOps.nil ?_) | (refine kStore ?_; refine LOps.storeP tT_ok rfl rfl rfl rfl rfl rfl rfl rfl rfl ?_) | (refine LOps.ev tT_ok rfl ?_) | (refine kLoad ?_; first | (refine LOps.ans (AnsL.loadHW tT_ok 0 hh rfl rfl rfl rfl) ?_) | (refine LOps.ans (AnsL.loadHW tT_ok 1 hh rfl rfl rfl rfl) ?_) | (refine LOps.ans (AnsL.loadHW tT_ok 2 hh rfl rfl rfl rfl) ?_) | (refine LOps.ans (AnsL.loadHW tT_ok 3 hh rfl rfl rfl rfl) ?_) | (refine LOps.ans (AnsL.loadHW tT_ok 4 hh rfl rfl rfl rfl) ?_) | (refine LOps.ans (AnsL.loadHW tT_ok 5 hh rfl rfl rfl rfl) ?_) | (refine LOps.ans (AnsL.loadHW tT_ok 6 hh rfl rfl rfl rfl) ?_) | (refine LOps.ans (AnsL.loadHW tT_ok 7 hh rfl rfl rfl rfl) ?_) | (refine LOps.ans (AnsL.loadH tT_ok 0 hh rfl rfl rfl rfl) ?_) | (refine LOps.ans (AnsL.loadH tT_ok 1 hh rfl rfl rfl rfl) ?_) | (refine LOps.ans (AnsL.loadH tT_ok 2 hh rfl rfl rfl rfl) ?_) | (refine LOps.ans (AnsL.loadH tT_ok 3 hh rfl rfl rfl rfl) ?_) | (refine LOps.ans (AnsL.loadH tT_ok 4 hh rfl rfl rfl rfl) ?_) | (refine LOps.ans (AnsL.loadH tT_ok 5 hh rfl rfl rfl rfl) ?_) | (refine LOps.ans (AnsL.loadH tT_ok 6 hh rfl rfl rfl rfl) ?_) | (refine LOps.ans (AnsL.loadH tT_ok 7 hh rfl rfl rfl rfl) ?_) | (refine LOps.ans (AnsL.loadP tT_ok rfl rfl rfl rfl) ?_)) | (refine kLen ?_; first | (refine LOps.ans (AnsL.lenM tT_ok rfl rfl rfl) ?_) | (refine LOps.ans (AnsL.lenS tT_ok rfl rfl rfl rfl) ?_) | (refine LOps.ans (AnsL.lenG tT_ok rfl rfl rfl) ?_)) | (refine kBin ?_; first | (refine LOps.ans (AnsL.add rfl rfl ?_) ?_; (focus (constructor <;> omega))) | (refine LOps.ans (AnsL.mul rfl rfl ?_) ?_; (focus (constructor <;> omega))) | (refine LOps.ans (AnsL.arith rfl rfl rfl) ?_) | (refine LOps.ans (AnsL.shr rfl rfl rfl) ?_)) | (refine kIdx ?_; first | (refine LOps.ans (AnsL.idxA tT_ok rfl rfl rfl rfl rfl (by omega) rfl rfl) ?_) | (refine LOps.ans (AnsL.idxM tT_ok rfl rfl rfl rfl rfl ?_) ?_; (focus (omega))) | (refine LOps.ans (AnsL.idxZ tT_ok rfl rfl rfl rfl rfl ?_ rfl rfl rfl) ?_; (focus (decide)))))
      | (refine kWL ?_; first | (refine WL.seq ?_) | (refine WL.region (by kernel_rfl) ?_) | (refine WL.drawn (id := 2) [0, 1, 2, 3, 4, 5, 6, 7, 8, 9, 10, 11, 12] [] [[], [0], [0, 1], [0, 1, 2], [0, 1, 2, 3], [], [5], [5, 6], [5, 6, 7], [5, 6, 7, 8], [0, 1, 2, 3, 4, 5, 6, 7, 8, 9], [0, 1, 2, 3, 4, 5, 6, 7, 8, 9, 10], [0, 1, 2, 3, 4, 5, 6, 7, 8, 9, 10, 11]] (by kernel_rfl) (by kernel_rfl) ?_) | (refine WL.drawn (id := 3) [0, 1, 2, 3, 4, 5, 6, 7, 8, 9] [] [[], [0], [0, 1], [0, 1, 2], [], [4], [4, 5], [4, 5, 6], [4, 5, 6, 7], [0, 1, 2, 3, 4, 5, 6, 7, 8]] (by kernel_rfl) (by kernel_rfl) ?_) | (refine WL.drawn (id := 4) [0, 1, 2, 3, 4, 5, 6, 7, 8, 9, 10, 11, 12, 13, 14] [14] [[], [], [1], [1, 2], [1, 2, 3], [], [5], [5, 6], [5, 6, 7], [1, 2, 3, 4, 5, 6, 7, 8], [1, 2, 3, 4, 5, 6, 7, 8, 9], [1, 2, 3, 4, 5, 6, 7, 8, 9, 10], [0, 1, 2, 3, 4, 5, 6, 7, 8, 9, 10, 11], [0, 1, 2, 3, 4, 5, 6, 7, 8, 9, 10, 11, 12], [0, 1, 2, 3, 4, 5, 6, 7, 8, 9, 10, 11, 12, 13]] (by kernel_rfl) (by kernel_rfl) ?_) | (refine WL.skip ?_) | (refine WL.ret ?_) | (refine kCond ?_; first | (refine WL.condT rfl ?_) | (refine WL.condF rfl ?_) | (refine WL.condT' rfl ?_ ?_; (focus (first | (assumption) | (exact decide_eq_true (by assumption)) | (exact decide_eq_false (by assumption)) | (simp only [decide_eq_true_eq, decide_eq_false_iff_not, Bool.not_eq_true', Bool.not_eq_false', Int.ofNat_lt, Int.ofNat_le, Int.ofNat_inj, not_true_eq_false, not_false_eq_true]; omega) | (simp <;> fail)))) | (refine WL.condF' rfl ?_ ?_; (focus (first | (assumption) | (exact decide_eq_true (by assumption)) | (exact decide_eq_false (by assumption)) | (simp only [decide_eq_true_eq, decide_eq_false_iff_not, Bool.not_eq_true', Bool.not_eq_false', Int.ofNat_lt, Int.ofNat_le, Int.ofNat_inj, not_true_eq_false, not_false_eq_true]; omega) | (simp <;> fail)))) | (refine WL.cond rfl (fun h => ?_) (fun h => ?_))))
      | (refine kDr ?_; first | (refine LDr.nil ?_) | (refine LDr.fl rfl rfl (.ev tT_ok rfl) ?_) | (refine kDLoad rfl ?_; first | (refine LDr.fl rfl rfl (AnsL.loadHW tT_ok 0 hh rfl rfl rfl rfl) ?_) | (refine LDr.fl rfl rfl (AnsL.loadHW tT_ok 1 hh rfl rfl rfl rfl) ?_) | (refine LDr.fl rfl rfl (AnsL.loadHW tT_ok 2 hh rfl rfl rfl rfl) ?_) | (refine LDr.fl rfl rfl (AnsL.loadHW tT_ok 3 hh rfl rfl rfl rfl) ?_) | (refine LDr.fl rfl rfl (AnsL.loadHW tT_ok 4 hh rfl rfl rfl rfl) ?_) | (refine LDr.fl rfl rfl (AnsL.loadHW tT_ok 5 hh rfl rfl rfl rfl) ?_) | (refine LDr.fl rfl rfl (AnsL.loadHW tT_ok 6 hh rfl rfl rfl rfl) ?_) | (refine LDr.fl rfl rfl (AnsL.loadHW tT_ok 7 hh rfl rfl rfl rfl) ?_) | (refine LDr.fl rfl rfl (AnsL.loadH tT_ok 0 hh rfl rfl rfl rfl) ?_) | (refine LDr.fl rfl rfl (AnsL.loadH tT_ok 1 hh rfl rfl rfl rfl) ?_) | (refine LDr.fl rfl rfl (AnsL.loadH tT_ok 2 hh rfl rfl rfl rfl) ?_) | (refine LDr.fl rfl rfl (AnsL.loadH tT_ok 3 hh rfl rfl rfl rfl) ?_) | (refine LDr.fl rfl rfl (AnsL.loadH tT_ok 4 hh rfl rfl rfl rfl) ?_) | (refine LDr.fl rfl rfl (AnsL.loadH tT_ok 5 hh rfl rfl rfl rfl) ?_) | (refine LDr.fl rfl rfl (AnsL.loadH tT_ok 6 hh rfl rfl rfl rfl) ?_) | (refine LDr.fl rfl rfl (AnsL.loadH tT_ok 7 hh rfl rfl rfl rfl) ?_) | (refine LDr.fl rfl rfl (AnsL.loadP tT_ok rfl rfl rfl rfl) ?_)) | (refine kDLen rfl ?_; first | (refine LDr.fl rfl rfl (AnsL.lenM tT_ok rfl rfl rfl) ?_) | (refine LDr.fl rfl rfl (AnsL.lenS tT_ok rfl rfl rfl rfl) ?_) | (refine LDr.fl rfl rfl (AnsL.lenG tT_ok rfl rfl rfl) ?_)) | (refine kDBin rfl ?_; first | (refine LDr.fl rfl rfl (AnsL.add rfl rfl ?_) ?_; (focus (constructor <;> omega))) | (refine LDr.fl rfl rfl (AnsL.mul rfl rfl ?_) ?_; (focus (constructor <;> omega))) | (refine LDr.fl rfl rfl (AnsL.arith rfl rfl rfl) ?_) | (refine LDr.fl rfl rfl (AnsL.shr rfl rfl rfl) ?_)) | (refine kDIdx rfl ?_; first | (refine LDr.fl rfl rfl (AnsL.idxA tT_ok rfl rfl rfl rfl rfl (by omega) rfl rfl) ?_) | (refine LDr.fl rfl rfl (AnsL.idxM tT_ok rfl rfl rfl rfl rfl ?_) ?_; (focus (omega))) | (refine LDr.fl rfl rfl (AnsL.idxZ tT_ok rfl rfl rfl rfl rfl ?_ rfl rfl rfl) ?_; (focus (decide)))) | (refine LDr.eff rfl rfl rfl ?_))
      | (refine lthen_n ?_)
      | (refine lthen_r ?_)
      | (refine lback_r ?_)
      | (refine lback_e ?_)
      | (refine lbackD_r ?_)
      | (refine lbackD_e ?_)
      | (refine lbackH_r ?_)
      | (refine lbackH_e ?_)
      | (refine LPost.r1 (r := .tmp 2) (.inl rfl) (Res1.tmp rfl) ?_)
      | (refine PureR.mk ?_)
      | (refine And.intro ?_ ?_)
      | (exact StsL.nil)
      | (refine StsL.cons ?_ ?_)
      | (refine StL.fl rfl rfl (.ev tT_ok rfl))
      | (refine StL.fl rfl rfl (AnsL.loadHW tT_ok 0 hh rfl rfl rfl rfl))
      | (refine StL.fl rfl rfl (AnsL.loadHW tT_ok 1 hh rfl rfl rfl rfl))
      | (refine StL.fl rfl rfl (AnsL.loadHW tT_ok 2 hh rfl rfl rfl rfl))
      | (refine StL.fl rfl rfl (AnsL.loadHW tT_ok 3 hh rfl rfl rfl rfl))
      | (refine StL.fl rfl rfl (AnsL.loadHW tT_ok 4 hh rfl rfl rfl rfl))
      | (refine StL.fl rfl rfl (AnsL.loadHW tT_ok 5 hh rfl rfl rfl rfl))
      | (refine StL.fl rfl rfl (AnsL.loadHW tT_ok 6 hh rfl rfl rfl rfl))
      | (refine StL.fl rfl rfl (AnsL.loadHW tT_ok 7 hh rfl rfl rfl rfl))
      | (refine StL.fl rfl rfl (AnsL.loadH tT_ok 0 hh rfl rfl rfl rfl))
      | (refine StL.fl rfl rfl (AnsL.loadH tT_ok 1 hh rfl rfl rfl rfl))
      | (refine StL.fl rfl rfl (AnsL.loadH tT_ok 2 hh rfl rfl rfl rfl))
      | (refine StL.fl rfl rfl (AnsL.loadH tT_ok 3 hh rfl rfl rfl rfl))
      | (refine StL.fl rfl rfl (AnsL.loadH tT_ok 4 hh rfl rfl rfl rfl))
      | (refine StL.fl rfl rfl (AnsL.loadH tT_ok 5 hh rfl rfl rfl rfl))
      | (refine StL.fl rfl rfl (AnsL.loadH tT_ok 6 hh rfl rfl rfl rfl))
      | (refine StL.fl rfl rfl (AnsL.loadH tT_ok 7 hh rfl rfl rfl rfl))
      | (refine StL.fl rfl rfl (AnsL.loadP tT_ok rfl rfl rfl rfl))
      | (refine StL.fl rfl rfl (AnsL.lenM tT_ok rfl rfl rfl))
      | (refine StL.fl rfl rfl (AnsL.lenS tT_ok rfl rfl rfl rfl))
      | (refine StL.fl rfl rfl (AnsL.lenG tT_ok rfl rfl rfl))
      | (refine StL.fl rfl rfl (AnsL.add rfl rfl ?_); (focus (constructor <;> omega)))
      | (refine StL.fl rfl rfl (AnsL.sub rfl rfl ?_); (focus (constructor <;> omega)))
      | (refine StL.fl rfl rfl (AnsL.mul rfl rfl ?_); (focus (constructor <;> omega)))
      | (refine StL.fl rfl rfl (AnsL.arith rfl rfl rfl))
      | (refine StL.fl rfl rfl (AnsL.shr rfl rfl rfl))
      | (refine StL.fl rfl rfl (AnsL.cat rfl rfl ?_); (focus (first | omega | (simp; omega) | (simp <;> fail))))
      | (refine StL.fl rfl rfl (AnsL.idxA tT_ok rfl rfl rfl rfl rfl (by omega) rfl rfl))
      | (refine StL.fl rfl rfl (AnsL.idxM tT_ok rfl rfl rfl rfl rfl ?_); (focus (omega)))
      | (refine StL.fl rfl rfl (AnsL.idxZ tT_ok rfl rfl rfl rfl rfl ?_ rfl rfl rfl); (focus (decide)))
      | (refine StL.gF rfl rfl rfl rfl rfl)
    all_goals
      apply Drw.fin (hh := hh)
      case hv => first | exact Val.agg_eq _ _ _ | rfl
      case hs => (first | (refine Sel.cons 0 rfl rfl ?_) | (refine Sel.cons 1 rfl rfl ?_) | (refine Sel.cons 2 rfl rfl ?_) | (refine Sel.cons 3 rfl rfl ?_) | (refine Sel.cons 4 rfl rfl ?_) | (refine Sel.cons 5 rfl rfl ?_) | (refine Sel.cons 6 rfl rfl ?_) | (refine Sel.cons 7 rfl rfl ?_)); (repeat' first | (exact Sel.refl _) | (refine Sel.drop ?_))
      case hi => first | assumption | omega | (simp; omega)
      case hp => exact band_255 _
  · by_cases hlt : k < bs.length
    · have hga : (bs.map byteV)[k]? = some (byteV bs[k]) := by rw [List.getElem?_map, List.getElem?_eq_getElem hlt]; rfl
      have hmx : (maxLen : Int) = 9223372036854775807 := rfl
      generalize bs[k] = y at hga
      refine LCalls.body0 Tryd.func24 rfl (by kernel_rfl) ?_
      repeat' first
        | (refine kStore ?_ ; first | (refine LOps.storeH tT_ok 0 hh rfl rfl rfl rfl rfl rfl rfl rfl rfl ?_ ; intro s hh) | (refine LOps.storeH tT_ok 1 hh rfl rfl rfl rfl rfl rfl rfl rfl rfl ?_ ; intro s hh) | (refine LOps.storeH tT_ok 2 hh rfl rfl rfl rfl rfl rfl rfl rfl rfl ?_ ; intro s hh) | (refine LOps.storeH tT_ok 3 hh rfl rfl rfl rfl rfl rfl rfl rfl rfl ?_ ; intro s hh) | (refine LOps.storeH tT_ok 4 hh rfl rfl rfl rfl rfl rfl rfl rfl rfl ?_ ; intro s hh) | (refine LOps.storeH tT_ok 5 hh rfl rfl rfl rfl rfl rfl rfl rfl rfl ?_ ; intro s hh) | (refine LOps.storeH tT_ok 6 hh rfl rfl rfl rfl rfl rfl rfl rfl rfl ?_ ; intro s hh) | (refine LOps.storeH tT_ok 7 hh rfl rfl rfl rfl rfl rfl rfl rfl rfl ?_ ; intro s hh) | (refine LOps.storeHW tT_ok 0 hh rfl rfl rfl rfl rfl rfl rfl ?_ ; intro s hh) | (refine LOps.storeHW tT_ok 1 hh rfl rfl rfl rfl rfl rfl rfl ?_ ; intro s hh) | (refine LOps.storeHW tT_ok 2 hh rfl rfl rfl rfl rfl rfl rfl ?_ ; intro s hh) | (refine LOps.storeHW tT_ok 3 hh rfl rfl rfl rfl rfl rfl rfl ?_ ; intro s hh) | (refine LOps.storeHW tT_ok 4 hh rfl rfl rfl rfl rfl rfl rfl ?_ ; intro s hh) | (refine LOps.storeHW tT_ok 5 hh rfl rfl rfl rfl rfl rfl rfl ?_ ; intro s hh) | (refine LOps.storeHW tT_ok 6 hh rfl rfl rfl rfl rfl rfl rfl ?_ ; intro s hh) | (refine LOps.storeHW tT_ok 7 hh rfl rfl rfl rfl rfl rfl rfl ?_ ; intro s hh) | (refine LOps.storeHS tT_ok 0 hh rfl rfl rfl rfl rfl rfl rfl rfl ?_ ; intro s hh) | (refine LOps.storeHS tT_ok 1 hh rfl rfl rfl rfl rfl rfl rfl rfl ?_ ; intro s hh) | (refine LOps.storeHS tT_ok 2 hh rfl rfl rfl rfl rfl rfl rfl rfl ?_ ; intro s hh) | (refine LOps.storeHS tT_ok 3 hh rfl rfl rfl rfl rfl rfl rfl rfl ?_ ; intro s hh) | (refine LOps.storeHS tT_ok 4 hh rfl rfl rfl rfl rfl rfl rfl rfl ?_ ; intro s hh) | (refine LOps.storeHS tT_ok 5 hh rfl rfl rfl rfl rfl rfl rfl rfl ?_ ; intro s hh) | (refine LOps.storeHS tT_ok 6 hh rfl rfl rfl rfl rfl rfl rfl rfl ?_ ; intro s hh) | (refine LOps.storeHS tT_ok 7 hh rfl rfl rfl rfl rfl rfl rfl rfl ?_ ; intro s hh) | (refine LOps.storeH tT_ok 0 hh rfl rfl rfl rfl rfl ?_ rfl rfl rfl ?_ ; (focus (repeat' first | (exact rfl) | (refine ones_cons (thw_one _ _ _) ?_) | (refine ones_cons rfl ?_))) ; intro s hh) | (refine LOps.storeH tT_ok 1 hh rfl rfl rfl rfl rfl ?_ rfl rfl rfl ?_ ; (focus (repeat' first | (exact rfl) | (refine ones_cons (thw_one _ _ _) ?_) | (refine ones_cons rfl ?_))) ; intro s hh) | (refine LOps.storeH tT_ok 2 hh rfl rfl rfl rfl rfl ?_ rfl rfl rfl ?_ ; (focus (repeat' first | (exact rfl) | (refine ones_cons (thw_one _ _ _) ?_) | (refine ones_cons rfl ?_))) ; intro s hh) | (refine LOps.storeH tT_ok 3 hh rfl rfl rfl rfl rfl ?_ rfl rfl rfl ?_ ; (focus (repeat' first | (exact rfl) | (refine ones_cons (thw_one _ _ _) ?_) | (refine ones_cons rfl ?_))) ; intro s hh) | (refine LOps.storeH tT_ok 4 hh rfl rfl rfl rfl rfl ?_ rfl rfl rfl ?_ ; (focus (repeat' first | (exact rfl) | (refine ones_cons (thw_one _ _ _) ?_) | (refine ones_cons rfl ?_))) ; intro s hh) | (refine LOps.storeH tT_ok 5 hh rfl rfl rfl rfl rfl ?_ rfl rfl rfl ?_ ; (focus (repeat' first | (exact rfl) | (refine ones_cons (thw_one _ _ _) ?_) | (refine ones_cons rfl ?_))) ; intro s hh) | (refine LOps.storeH tT_ok 6 hh rfl rfl rfl rfl rfl ?_ rfl rfl rfl ?_ ; (focus (repeat' first | (exact rfl) | (refine ones_cons (thw_one _ _ _) ?_) | (refine ones_cons rfl ?_))) ; intro s hh) | (refine LOps.storeH tT_ok 7 hh rfl rfl rfl rfl rfl ?_ rfl rfl rfl ?_ ; (focus (repeat' first | (exact rfl) | (refine ones_cons (thw_one _ _ _) ?_) | (refine ones_cons rfl ?_))) ; intro s hh))
        | (refine kOps ?_; first | (refine LOps.nil ?_) | (refine kStore ?_; refine LOps.storeP tT_ok rfl rfl rfl rfl rfl rfl rfl rfl rfl ?_) | (refine LOps.ev tT_ok rfl ?_) | (refine kLoad ?_; first | (refine LOps.ans (AnsL.loadHW tT_ok 0 hh rfl rfl rfl rfl) ?_) | (refine LOps.ans (AnsL.loadHW tT_ok 1 hh rfl rfl rfl rfl) ?_) | (refine LOps.ans (AnsL.loadHW tT_ok 2 hh rfl rfl rfl rfl) ?_) | (refine LOps.ans (AnsL.loadHW tT_ok 3 hh rfl rfl rfl rfl) ?_) | (refine LOps.ans (AnsL.loadHW tT_ok 4 hh rfl rfl rfl rfl) ?_) | (refine LOps.ans (AnsL.loadHW tT_ok 5 hh rfl rfl rfl rfl) ?_) | (refine LOps.ans (AnsL.loadHW tT_ok 6 hh rfl rfl rfl rfl) ?_) | (refine LOps.ans (AnsL.loadHW tT_ok 7 hh rfl rfl rfl rfl) ?_) | (refine LOps.ans (AnsL.loadH tT_ok 0 hh rfl rfl rfl rfl) ?_) | (refine LOps.ans (AnsL.loadH tT_ok 1 hh rfl rfl rfl rfl) ?_) | (refine LOps.ans (AnsL.loadH tT_ok 2 hh rfl rfl rfl rfl) ?_) | (refine LOps.ans (AnsL.loadH tT_ok 3 hh rfl rfl rfl rfl) ?_) | (refine LOps.ans (AnsL.loadH tT_ok 4 hh rfl rfl rfl rfl) ?_) | (refine LOps.ans (AnsL.loadH tT_ok 5 hh rfl rfl rfl rfl) ?_) | (refine LOps.ans (AnsL.loadH tT_ok 6 hh rfl rfl rfl rfl) ?_) | (refine LOps.ans (AnsL.loadH tT_ok 7 hh rfl rfl rfl rfl) ?_) | (refine LOps.ans (AnsL.loadP tT_ok rfl rfl rfl rfl) ?_)) | (refine kLen ?_; first | (refine LOps.ans (AnsL.lenM tT_ok rfl rfl rfl) ?_) | (refine LOps.ans (AnsL.lenS tT_ok rfl rfl rfl rfl) ?_) | (refine LOps.ans (AnsL.lenG tT_ok rfl rfl rfl) ?_)) | (refine kBin ?_; first | (refine LOps.ans (AnsL.add rfl rfl ?_) ?_; (focus (constructor <;> omega))) | (refine LOps.ans (AnsL.mul rfl rfl ?_) ?_; (focus (constructor <;> omega))) | (refine LOps.ans (AnsL.arith rfl rfl rfl) ?_) | (refine LOps.ans (AnsL.shr rfl rfl rfl) ?_)) | (refine kIdx ?_; first | (refine LOps.ans (AnsL.idx tT_ok rfl rfl rfl rfl rfl hga rfl rfl) ?_) | (refine LOps.ans (AnsL.idxA tT_ok rfl rfl rfl rfl rfl (by omega) rfl rfl) ?_) | (refine LOps.ans (AnsL.idxM tT_ok rfl rfl rfl rfl rfl ?_) ?_; (focus (omega))) | (refine LOps.ans (AnsL.idxZ tT_ok rfl rfl rfl rfl rfl ?_ rfl rfl rfl) ?_; (focus (decide)))))
        | (refine kWL ?_; first | (refine WL.seq ?_) | (refine WL.region (by kernel_rfl) ?_) | (refine WL.drawn (id := 2) [0, 1, 2, 3, 4, 5, 6, 7, 8, 9, 10, 11, 12] [] [[], [0], [0, 1], [0, 1, 2], [0, 1, 2, 3], [], [5], [5, 6], [5, 6, 7], [5, 6, 7, 8], [0, 1, 2, 3, 4, 5, 6, 7, 8, 9], [0, 1, 2, 3, 4, 5, 6, 7, 8, 9, 10], [0, 1, 2, 3, 4, 5, 6, 7, 8, 9, 10, 11]] (by kernel_rfl) (by kernel_rfl) ?_) | (refine WL.drawn (id := 3) [0, 1, 2, 3, 4, 5, 6, 7, 8, 9] [] [[], [0], [0, 1], [0, 1, 2], [], [4], [4, 5], [4, 5, 6], [4, 5, 6, 7], [0, 1, 2, 3, 4, 5, 6, 7, 8]] (by kernel_rfl) (by kernel_rfl) ?_) | (refine WL.drawn (id := 4) [0, 1, 2, 3, 4, 5, 6, 7, 8, 9, 10, 11, 12, 13, 14] [14] [[], [], [1], [1, 2], [1, 2, 3], [], [5], [5, 6], [5, 6, 7], [1, 2, 3, 4, 5, 6, 7, 8], [1, 2, 3, 4, 5, 6, 7, 8, 9], [1, 2, 3, 4, 5, 6, 7, 8, 9, 10], [0, 1, 2, 3, 4, 5, 6, 7, 8, 9, 10, 11], [0, 1, 2, 3, 4, 5, 6, 7, 8, 9, 10, 11, 12], [0, 1, 2, 3, 4, 5, 6, 7, 8, 9, 10, 11, 12, 13]] (by kernel_rfl) (by kernel_rfl) ?_) | (refine WL.skip ?_) | (refine WL.ret ?_) | (refine kCond ?_; first | (refine WL.condT rfl ?_) | (refine WL.condF rfl ?_) | (refine WL.condT' rfl ?_ ?_; (focus (first | (assumption) | (exact decide_eq_true (by assumption)) | (exact decide_eq_false (by assumption)) | (simp only [decide_eq_true_eq, decide_eq_false_iff_not, Bool.not_eq_true', Bool.not_eq_false', Int.ofNat_lt, Int.ofNat_le, Int.ofNat_inj, not_true_eq_false, not_false_eq_true]; omega) | (simp <;> fail)))) | (refine WL.condF' rfl ?_ ?_; (focus (first | (assumption) | (exact decide_eq_true (by assumption)) | (exact decide_eq_false (by assumption)) | (simp only [decide_eq_true_eq, decide_eq_false_iff_not, Bool.not_eq_true', Bool.not_eq_false', Int.ofNat_lt, Int.ofNat_le, Int.ofNat_inj, not_true_eq_false, not_false_eq_true]; omega) | (simp <;> fail)))) | (refine WL.cond rfl (fun h => ?_) (fun h => ?_))))
        | (refine kDr ?_; first | (refine LDr.nil ?_) | (refine LDr.fl rfl rfl (.ev tT_ok rfl) ?_) | (refine kDLoad rfl ?_; first | (refine LDr.fl rfl rfl (AnsL.loadHW tT_ok 0 hh rfl rfl rfl rfl) ?_) | (refine LDr.fl rfl rfl (AnsL.loadHW tT_ok 1 hh rfl rfl rfl rfl) ?_) | (refine LDr.fl rfl rfl (AnsL.loadHW tT_ok 2 hh rfl rfl rfl rfl) ?_) | (refine LDr.fl rfl rfl (AnsL.loadHW tT_ok 3 hh rfl rfl rfl rfl) ?_) | (refine LDr.fl rfl rfl (AnsL.loadHW tT_ok 4 hh rfl rfl rfl rfl) ?_) | (refine LDr.fl rfl rfl (AnsL.loadHW tT_ok 5 hh rfl rfl rfl rfl) ?_) | (refine LDr.fl rfl rfl (AnsL.loadHW tT_ok 6 hh rfl rfl rfl rfl) ?_) | (refine LDr.fl rfl rfl (AnsL.loadHW tT_ok 7 hh rfl rfl rfl rfl) ?_) | (refine LDr.fl rfl rfl (AnsL.loadH tT_ok 0 hh rfl rfl rfl rfl) ?_) | (refine LDr.fl rfl rfl (AnsL.loadH tT_ok 1 hh rfl rfl rfl rfl) ?_) | (refine LDr.fl rfl rfl (AnsL.loadH tT_ok 2 hh rfl rfl rfl rfl) ?_) | (refine LDr.fl rfl rfl (AnsL.loadH tT_ok 3 hh rfl rfl rfl rfl) ?_) | (refine LDr.fl rfl rfl (AnsL.loadH tT_ok 4 hh rfl rfl rfl rfl) ?_) | (refine LDr.fl rfl rfl (AnsL.loadH tT_ok 5 hh rfl rfl rfl rfl) ?_) | (refine LDr.fl rfl rfl (AnsL.loadH tT_ok 6 hh rfl rfl rfl rfl) ?_) | (refine LDr.fl rfl rfl (AnsL.loadH tT_ok 7 hh rfl rfl rfl rfl) ?_) | (refine LDr.fl rfl rfl (AnsL.loadP tT_ok rfl rfl rfl rfl) ?_)) | (refine kDLen rfl ?_; first | (refine LDr.fl rfl rfl (AnsL.lenM tT_ok rfl rfl rfl) ?_) | (refine LDr.fl rfl rfl (AnsL.lenS tT_ok rfl rfl rfl rfl) ?_) | (refine LDr.fl rfl rfl (AnsL.lenG tT_ok rfl rfl rfl) ?_)) | (refine kDBin rfl ?_; first | (refine LDr.fl rfl rfl (AnsL.add rfl rfl ?_) ?_; (focus (constructor <;> omega))) | (refine LDr.fl rfl rfl (AnsL.mul rfl rfl ?_) ?_; (focus (constructor <;> omega))) | (refine LDr.fl rfl rfl (AnsL.arith rfl rfl rfl) ?_) | (refine LDr.fl rfl rfl (AnsL.shr rfl rfl rfl) ?_)) | (refine kDIdx rfl ?_; first | (refine LDr.fl rfl rfl (AnsL.idx tT_ok rfl rfl rfl rfl rfl hga rfl rfl) ?_) | (refine LDr.fl rfl rfl (AnsL.idxA tT_ok rfl rfl rfl rfl rfl (by omega) rfl rfl) ?_) | (refine LDr.fl rfl rfl (AnsL.idxM tT_ok rfl rfl rfl rfl rfl ?_) ?_; (focus (omega))) | (refine LDr.fl rfl rfl (AnsL.idxZ tT_ok rfl rfl rfl rfl rfl ?_ rfl rfl rfl) ?_; (focus (decide)))) | (refine LDr.eff rfl rfl rfl ?_))
        | (refine lthen_n ?_)
        | (refine lthen_r ?_)
        | (refine lback_r ?_)
        | (refine lback_e ?_)
        | (refine lbackD_r ?_)
        | (refine lbackD_e ?_)
        | (refine lbackH_r ?_)
        | (refine lbackH_e ?_)
        | (refine LPost.r1 (r := .tmp 2) (.inl rfl) (Res1.tmp rfl) ?_)
        | (refine PureR.mk ?_)
        | (refine And.intro ?_ ?_)
        | (exact StsL.nil)
        | (refine StsL.cons ?_ ?_)
        | (refine StL.fl rfl rfl (.ev tT_ok rfl))
        | (refine StL.fl rfl rfl (AnsL.loadHW tT_ok 0 hh rfl rfl rfl rfl))
        | (refine StL.fl rfl rfl (AnsL.loadHW tT_ok 1 hh rfl rfl rfl rfl))
        | (refine StL.fl rfl rfl (AnsL.loadHW tT_ok 2 hh rfl rfl rfl rfl))
        | (refine StL.fl rfl rfl (AnsL.loadHW tT_ok 3 hh rfl rfl rfl rfl))
        | (refine StL.fl rfl rfl (AnsL.loadHW tT_ok 4 hh rfl rfl rfl rfl))
        | (refine StL.fl rfl rfl (AnsL.loadHW tT_ok 5 hh rfl rfl rfl rfl))
        | (refine StL.fl rfl rfl (AnsL.loadHW tT_ok 6 hh rfl rfl rfl rfl))
        | (refine StL.fl rfl rfl (AnsL.loadHW tT_ok 7 hh rfl rfl rfl rfl))
        | (refine StL.fl rfl rfl (AnsL.loadH tT_ok 0 hh rfl rfl rfl rfl))
        | (refine StL.fl rfl rfl (AnsL.loadH tT_ok 1 hh rfl rfl rfl rfl))
        | (refine StL.fl rfl rfl (AnsL.loadH tT_ok 2 hh rfl rfl rfl rfl))
        | (refine StL.fl rfl rfl (AnsL.loadH tT_ok 3 hh rfl rfl rfl rfl))
        | (refine StL.fl rfl rfl (AnsL.loadH tT_ok 4 hh rfl rfl rfl rfl))
        | (refine StL.fl rfl rfl (AnsL.loadH tT_ok 5 hh rfl rfl rfl rfl))
        | (refine StL.fl rfl rfl (AnsL.loadH tT_ok 6 hh rfl rfl rfl rfl))
        | (refine StL.fl rfl rfl (AnsL.loadH tT_ok 7 hh rfl rfl rfl rfl))
        | (refine StL.fl rfl rfl (AnsL.idx tT_ok rfl rfl rfl rfl rfl hga rfl rfl))
        | (refine StL.fl rfl rfl (AnsL.loadP tT_ok rfl rfl rfl rfl))
        | (refine StL.fl rfl rfl (AnsL.lenM tT_ok rfl rfl rfl))
        | (refine StL.fl rfl rfl (AnsL.lenS tT_ok rfl rfl rfl rfl))
        | (refine StL.fl rfl rfl (AnsL.lenG tT_ok rfl rfl rfl))
        | (refine StL.fl rfl rfl (AnsL.add rfl rfl ?_); (focus (constructor <;> omega)))
        | (refine StL.fl rfl rfl (AnsL.sub rfl rfl ?_); (focus (constructor <;> omega)))
        | (refine StL.fl rfl rfl (AnsL.mul rfl rfl ?_); (focus (constructor <;> omega)))
        | (refine StL.fl rfl rfl (AnsL.arith rfl rfl rfl))
        | (refine StL.fl rfl rfl (AnsL.shr rfl rfl rfl))
        | (refine StL.fl rfl rfl (AnsL.cat rfl rfl ?_); (focus (first | omega | (simp; omega) | (simp <;> fail))))
        | (refine StL.fl rfl rfl (AnsL.idxA tT_ok rfl rfl rfl rfl rfl (by omega) rfl rfl))
        | (refine StL.fl rfl rfl (AnsL.idxM tT_ok rfl rfl rfl rfl rfl ?_); (focus (omega)))
        | (refine StL.fl rfl rfl (AnsL.idxZ tT_ok rfl rfl rfl rfl rfl ?_ rfl rfl rfl); (focus (decide)))
        | (refine StL.gF rfl rfl rfl rfl rfl)
      all_goals
        apply Drw.fin (hh := hh)
        case hv => first | exact Val.agg_eq _ _ _ | rfl
        case hs => (first | (refine Sel.cons 0 rfl rfl ?_) | (refine Sel.cons 1 rfl rfl ?_) | (refine Sel.cons 2 rfl rfl ?_) | (refine Sel.cons 3 rfl rfl ?_) | (refine Sel.cons 4 rfl rfl ?_) | (refine Sel.cons 5 rfl rfl ?_) | (refine Sel.cons 6 rfl rfl ?_) | (refine Sel.cons 7 rfl rfl ?_)); (repeat' first | (exact Sel.refl _) | (refine Sel.drop ?_))
        case hi => first | assumption | omega | (simp; omega)
        case hp => exact band_255 _
    · refine LCalls.body0 Tryd.func24 rfl (by kernel_rfl) ?_
      repeat' first
        | (refine kStore ?_ ; first | (refine LOps.storeH tT_ok 0 hh rfl rfl rfl rfl rfl rfl rfl rfl rfl ?_ ; intro s hh) | (refine LOps.storeH tT_ok 1 hh rfl rfl rfl rfl rfl rfl rfl rfl rfl ?_ ; intro s hh) | (refine LOps.storeH tT_ok 2 hh rfl rfl rfl rfl rfl rfl rfl rfl rfl ?_ ; intro s hh) | (refine LOps.storeH tT_ok 3 hh rfl rfl rfl rfl rfl rfl rfl rfl rfl ?_ ; intro s hh) | (refine LOps.storeH tT_ok 4 hh rfl rfl rfl rfl rfl rfl rfl rfl rfl ?_ ; intro s hh) | (refine LOps.storeH tT_ok 5 hh rfl rfl rfl rfl rfl rfl rfl rfl rfl ?_ ; intro s hh) | (refine LOps.storeH tT_ok 6 hh rfl rfl rfl rfl rfl rfl rfl rfl rfl ?_ ; intro s hh) | (refine LOps.storeH tT_ok 7 hh rfl rfl rfl rfl rfl rfl rfl rfl rfl ?_ ; intro s hh) | (refine LOps.storeHW tT_ok 0 hh rfl rfl rfl rfl rfl rfl rfl ?_ ; intro s hh) | (refine LOps.storeHW tT_ok 1 hh rfl rfl rfl rfl rfl rfl rfl ?_ ; intro s hh) | (refine LOps.storeHW tT_ok 2 hh rfl rfl rfl rfl rfl rfl rfl ?_ ; intro s hh) | (refine LOps.storeHW tT_ok 3 hh rfl rfl rfl rfl rfl rfl rfl ?_ ; intro s hh) | (refine LOps.storeHW tT_ok 4 hh rfl rfl rfl rfl rfl rfl rfl ?_ ; intro s hh) | (refine LOps.storeHW tT_ok 5 hh rfl rfl rfl rfl rfl rfl rfl ?_ ; intro s hh) | (refine LOps.storeHW tT_ok 6 hh rfl rfl rfl rfl rfl rfl rfl ?_ ; intro s hh) | (refine LOps.storeHW tT_ok 7 hh rfl rfl rfl rfl rfl rfl rfl ?_ ; intro s hh) | (refine LOps.storeHS tT_ok 0 hh rfl rfl rfl rfl rfl rfl rfl rfl ?_ ; intro s hh) | (refine LOps.storeHS tT_ok 1 hh rfl rfl rfl rfl rfl rfl rfl rfl ?_ ; intro s hh) | (refine LOps.storeHS tT_ok 2 hh rfl rfl rfl rfl rfl rfl rfl rfl ?_ ; intro s hh) | (refine LOps.storeHS tT_ok 3 hh rfl rfl rfl rfl rfl rfl rfl rfl ?_ ; intro s hh) | (refine LOps.storeHS tT_ok 4 hh rfl rfl rfl rfl rfl rfl rfl rfl ?_ ; intro s hh) | (refine LOps.storeHS tT_ok 5 hh rfl rfl rfl rfl rfl rfl rfl rfl ?_ ; intro s hh) | (refine LOps.storeHS tT_ok 6 hh rfl rfl rfl rfl rfl rfl rfl rfl ?_ ; intro s hh) | (refine LOps.storeHS tT_ok 7 hh rfl rfl rfl rfl rfl rfl rfl rfl ?_ ; intro s hh) | (refine LOps.storeH tT_ok 0 hh rfl rfl rfl rfl rfl ?_ rfl rfl rfl ?_ ; (focus (repeat' first | (exact rfl) | (refine ones_cons (thw_one _ _ _) ?_) | (refine ones_cons rfl ?_))) ; intro s hh) | (refine LOps.storeH tT_ok 1 hh rfl rfl rfl rfl rfl ?_ rfl rfl rfl ?_ ; (focus (repeat' first | (exact rfl) | (refine ones_cons (thw_one _ _ _) ?_) | (refine ones_cons rfl ?_))) ; intro s hh) | (refine LOps.storeH tT_ok 2 hh rfl rfl rfl rfl rfl ?_ rfl rfl rfl ?_ ; (focus (repeat' first | (exact rfl) | (refine ones_cons (thw_one _ _ _) ?_) | (refine ones_cons rfl ?_))) ; intro s hh) | (refine LOps.storeH tT_ok 3 hh rfl rfl rfl rfl rfl ?_ rfl rfl rfl ?_ ; (focus (repeat' first | (exact rfl) | (refine ones_cons (thw_one _ _ _) ?_) | (refine ones_cons rfl ?_))) ; intro s hh) | (refine LOps.storeH tT_ok 4 hh rfl rfl rfl rfl rfl ?_ rfl rfl rfl ?_ ; (focus (repeat' first | (exact rfl) | (refine ones_cons (thw_one _ _ _) ?_) | (refine ones_cons rfl ?_))) ; intro s hh) | (refine LOps.storeH tT_ok 5 hh rfl rfl rfl rfl rfl ?_ rfl rfl rfl ?_ ; (focus (repeat' first | (exact rfl) | (refine ones_cons (thw_one _ _ _) ?_) | (refine ones_cons rfl ?_))) ; intro s hh) | (refine LOps.storeH tT_ok 6 hh rfl rfl rfl rfl rfl ?_ rfl rfl rfl ?_ ; (focus (repeat' first | (exact rfl) | (refine ones_cons (thw_one _ _ _) ?_) | (refine ones_cons rfl ?_))) ; intro s hh) | (refine LOps.storeH tT_ok 7 hh rfl rfl rfl rfl rfl ?_ rfl rfl rfl ?_ ; (focus (repeat' first | (exact rfl) | (refine ones_cons (thw_one _ _ _) ?_) | (refine ones_cons rfl ?_))) ; intro s hh))
        | (refine kOps ?_; first | (refine LOps.nil ?_) | (refine kStore ?_; refine LOps.storeP tT_ok rfl rfl rfl rfl rfl rfl rfl rfl rfl ?_) | (refine LOps.ev tT_ok rfl ?_) | (refine kLoad ?_; first | (refine LOps.ans (AnsL.loadHW tT_ok 0 hh rfl rfl rfl rfl) ?_) | (refine LOps.ans (AnsL.loadHW tT_ok 1 hh rfl rfl rfl rfl) ?_) | (refine LOps.ans (AnsL.loadHW tT_ok 2 hh rfl rfl rfl rfl) ?_) | (refine LOps.ans (AnsL.loadHW tT_ok 3 hh rfl rfl rfl rfl) ?_) | (refine LOps.ans (AnsL.loadHW tT_ok 4 hh rfl rfl rfl rfl) ?_) | (refine LOps.ans (AnsL.loadHW tT_ok 5 hh rfl rfl rfl rfl) ?_) | (refine LOps.ans (AnsL.loadHW tT_ok 6 hh rfl rfl rfl rfl) ?_) | (refine LOps.ans (AnsL.loadHW tT_ok 7 hh rfl rfl rfl rfl) ?_) | (refine LOps.ans (AnsL.loadH tT_ok 0 hh rfl rfl rfl rfl) ?_) | (refine LOps.ans (AnsL.loadH tT_ok 1 hh rfl rfl rfl rfl) ?_) | (refine LOps.ans (AnsL.loadH tT_ok 2 hh rfl rfl rfl rfl) ?_) | (refine LOps.ans (AnsL.loadH tT_ok 3 hh rfl rfl rfl rfl) ?_) | (refine LOps.ans (AnsL.loadH tT_ok 4 hh rfl rfl rfl rfl) ?_) | (refine LOps.ans (AnsL.loadH tT_ok 5 hh rfl rfl rfl rfl) ?_) | (refine LOps.ans (AnsL.loadH tT_ok 6 hh rfl rfl rfl rfl) ?_) | (refine LOps.ans (AnsL.loadH tT_ok 7 hh rfl rfl rfl rfl) ?_) | (refine LOps.ans (AnsL.loadP tT_ok rfl rfl rfl rfl) ?_)) | (refine kLen ?_; first | (refine LOps.ans (AnsL.lenM tT_ok rfl rfl rfl) ?_) | (refine LOps.ans (AnsL.lenS tT_ok rfl rfl rfl rfl) ?_) | (refine LOps.ans (AnsL.lenG tT_ok rfl rfl rfl) ?_)) | (refine kBin ?_; first | (refine LOps.ans (AnsL.add rfl rfl ?_) ?_; (focus (constructor <;> omega))) | (refine LOps.ans (AnsL.mul rfl rfl ?_) ?_; (focus (constructor <;> omega))) | (refine LOps.ans (AnsL.arith rfl rfl rfl) ?_) | (refine LOps.ans (AnsL.shr rfl rfl rfl) ?_)) | (refine kIdx ?_; first | (refine LOps.ans (AnsL.idxA tT_ok rfl rfl rfl rfl rfl (by omega) rfl rfl) ?_) | (refine LOps.ans (AnsL.idxM tT_ok rfl rfl rfl rfl rfl ?_) ?_; (focus (omega))) | (refine LOps.ans (AnsL.idxZ tT_ok rfl rfl rfl rfl rfl ?_ rfl rfl rfl) ?_; (focus (decide)))))
        | (refine kWL ?_; first | (refine WL.seq ?_) | (refine WL.region (by kernel_rfl) ?_) | (refine WL.drawn (id := 2) [0, 1, 2, 3, 4, 5, 6, 7, 8, 9, 10, 11, 12] [] [[], [0], [0, 1], [0, 1, 2], [0, 1, 2, 3], [], [5], [5, 6], [5, 6, 7], [5, 6, 7, 8], [0, 1, 2, 3, 4, 5, 6, 7, 8, 9], [0, 1, 2, 3, 4, 5, 6, 7, 8, 9, 10], [0, 1, 2, 3, 4, 5, 6, 7, 8, 9, 10, 11]] (by kernel_rfl) (by kernel_rfl) ?_) | (refine WL.drawn (id := 3) [0, 1, 2, 3, 4, 5, 6, 7, 8, 9] [] [[], [0], [0, 1], [0, 1, 2], [], [4], [4, 5], [4, 5, 6], [4, 5, 6, 7], [0, 1, 2, 3, 4, 5, 6, 7, 8]] (by kernel_rfl) (by kernel_rfl) ?_) | (refine WL.drawn (id := 4) [0, 1, 2, 3, 4, 5, 6, 7, 8, 9, 10, 11, 12, 13, 14] [14] [[], [], [1], [1, 2], [1, 2, 3], [], [5], [5, 6], [5, 6, 7], [1, 2, 3, 4, 5, 6, 7, 8], [1, 2, 3, 4, 5, 6, 7, 8, 9], [1, 2, 3, 4, 5, 6, 7, 8, 9, 10], [0, 1, 2, 3, 4, 5, 6, 7, 8, 9, 10, 11], [0, 1, 2, 3, 4, 5, 6, 7, 8, 9, 10, 11, 12], [0, 1, 2, 3, 4, 5, 6, 7, 8, 9, 10, 11, 12, 13]] (by kernel_rfl) (by kernel_rfl) ?_) | (refine WL.skip ?_) | (refine WL.ret ?_) | (refine kCond ?_; first | (refine WL.condT rfl ?_) | (refine WL.condF rfl ?_) | (refine WL.condT' rfl ?_ ?_; (focus (first | (assumption) | (exact decide_eq_true (by assumption)) | (exact decide_eq_false (by assumption)) | (simp only [decide_eq_true_eq, decide_eq_false_iff_not, Bool.not_eq_true', Bool.not_eq_false', Int.ofNat_lt, Int.ofNat_le, Int.ofNat_inj, not_true_eq_false, not_false_eq_true]; omega) | (simp <;> fail)))) | (refine WL.condF' rfl ?_ ?_; (focus (first | (assumption) | (exact decide_eq_true (by assumption)) | (exact decide_eq_false (by assumption)) | (simp only [decide_eq_true_eq, decide_eq_false_iff_not, Bool.not_eq_true', Bool.not_eq_false', Int.ofNat_lt, Int.ofNat_le, Int.ofNat_inj, not_true_eq_false, not_false_eq_true]; omega) | (simp <;> fail)))) | (refine WL.cond rfl (fun h => ?_) (fun h => ?_))))
        | (refine kDr ?_; first | (refine LDr.nil ?_) | (refine LDr.fl rfl rfl (.ev tT_ok rfl) ?_) | (refine kDLoad rfl ?_; first | (refine LDr.fl rfl rfl (AnsL.loadHW tT_ok 0 hh rfl rfl rfl rfl) ?_) | (refine LDr.fl rfl rfl (AnsL.loadHW tT_ok 1 hh rfl rfl rfl rfl) ?_) | (refine LDr.fl rfl rfl (AnsL.loadHW tT_ok 2 hh rfl rfl rfl rfl) ?_) | (refine LDr.fl rfl rfl (AnsL.loadHW tT_ok 3 hh rfl rfl rfl rfl) ?_) | (refine LDr.fl rfl rfl (AnsL.loadHW tT_ok 4 hh rfl rfl rfl rfl) ?_) | (refine LDr.fl rfl rfl (AnsL.loadHW tT_ok 5 hh rfl rfl rfl rfl) ?_) | (refine LDr.fl rfl rfl (AnsL.loadHW tT_ok 6 hh rfl rfl rfl rfl) ?_) | (refine LDr.fl rfl rfl (AnsL.loadHW tT_ok 7 hh rfl rfl rfl rfl) ?_) | (refine LDr.fl rfl rfl (AnsL.loadH tT_ok 0 hh rfl rfl rfl rfl) ?_) | (refine LDr.fl rfl rfl (AnsL.loadH tT_ok 1 hh rfl rfl rfl rfl) ?_) | (refine LDr.fl rfl rfl (AnsL.loadH tT_ok 2 hh rfl rfl rfl rfl) ?_) | (refine LDr.fl rfl rfl (AnsL.loadH tT_ok 3 hh rfl rfl rfl rfl) ?_) | (refine LDr.fl rfl rfl (AnsL.loadH tT_ok 4 hh rfl rfl rfl rfl) ?_) | (refine LDr.fl rfl rfl (AnsL.loadH tT_ok 5 hh rfl rfl rfl rfl) ?_) | (refine LDr.fl rfl rfl (AnsL.loadH tT_ok 6 hh rfl rfl rfl rfl) ?_) | (refine LDr.fl rfl rfl (AnsL.loadH tT_ok 7 hh rfl rfl rfl rfl) ?_) | (refine LDr.fl rfl rfl (AnsL.loadP tT_ok rfl rfl rfl rfl) ?_)) | (refine kDLen rfl ?_; first | (refine LDr.fl rfl rfl (AnsL.lenM tT_ok rfl rfl rfl) ?_) | (refine LDr.fl rfl rfl (AnsL.lenS tT_ok rfl rfl rfl rfl) ?_) | (refine LDr.fl rfl rfl (AnsL.lenG tT_ok rfl rfl rfl) ?_)) | (refine kDBin rfl ?_; first | (refine LDr.fl rfl rfl (AnsL.add rfl rfl ?_) ?_; (focus (constructor <;> omega))) | (refine LDr.fl rfl rfl (AnsL.mul rfl rfl ?_) ?_; (focus (constructor <;> omega))) | (refine LDr.fl rfl rfl (AnsL.arith rfl rfl rfl) ?_) | (refine LDr.fl rfl rfl (AnsL.shr rfl rfl rfl) ?_)) | (refine kDIdx rfl ?_; first | (refine LDr.fl rfl rfl (AnsL.idxA tT_ok rfl rfl rfl rfl rfl (by omega) rfl rfl) ?_) | (refine LDr.fl rfl rfl (AnsL.idxM tT_ok rfl rfl rfl rfl rfl ?_) ?_; (focus (omega))) | (refine LDr.fl rfl rfl (AnsL.idxZ tT_ok rfl rfl rfl rfl rfl ?_ rfl rfl rfl) ?_; (focus (decide)))) | (refine LDr.eff rfl rfl rfl ?_))
        | (refine lthen_n ?_)
        | (refine lthen_r ?_)
        | (refine lback_r ?_)
        | (refine lback_e ?_)
        | (refine lbackD_r ?_)
        | (refine lbackD_e ?_)
        | (refine lbackH_r ?_)
        | (refine lbackH_e ?_)
        | (refine LPost.r1 (r := .tmp 2) (.inl rfl) (Res1.tmp rfl) ?_)
        | (refine PureR.mk ?_)
        | (refine And.intro ?_ ?_)
        | (exact StsL.nil)
        | (refine StsL.cons ?_ ?_)
        | (refine StL.fl rfl rfl (.ev tT_ok rfl))
        | (refine StL.fl rfl rfl (AnsL.loadHW tT_ok 0 hh rfl rfl rfl rfl))
        | (refine StL.fl rfl rfl (AnsL.loadHW tT_ok 1 hh rfl rfl rfl rfl))
        | (refine StL.fl rfl rfl (AnsL.loadHW tT_ok 2 hh rfl rfl rfl rfl))
        | (refine StL.fl rfl rfl (AnsL.loadHW tT_ok 3 hh rfl rfl rfl rfl))
        | (refine StL.fl rfl rfl (AnsL.loadHW tT_ok 4 hh rfl rfl rfl rfl))
        | (refine StL.fl rfl rfl (AnsL.loadHW tT_ok 5 hh rfl rfl rfl rfl))
        | (refine StL.fl rfl rfl (AnsL.loadHW tT_ok 6 hh rfl rfl rfl rfl))
        | (refine StL.fl rfl rfl (AnsL.loadHW tT_ok 7 hh rfl rfl rfl rfl))
        | (refine StL.fl rfl rfl (AnsL.loadH tT_ok 0 hh rfl rfl rfl rfl))
        | (refine StL.fl rfl rfl (AnsL.loadH tT_ok 1 hh rfl rfl rfl rfl))
        | (refine StL.fl rfl rfl (AnsL.loadH tT_ok 2 hh rfl rfl rfl rfl))
        | (refine StL.fl rfl rfl (AnsL.loadH tT_ok 3 hh rfl rfl rfl rfl))
        | (refine StL.fl rfl rfl (AnsL.loadH tT_ok 4 hh rfl rfl rfl rfl))
        | (refine StL.fl rfl rfl (AnsL.loadH tT_ok 5 hh rfl rfl rfl rfl))
        | (refine StL.fl rfl rfl (AnsL.loadH tT_ok 6 hh rfl rfl rfl rfl))
        | (refine StL.fl rfl rfl (AnsL.loadH tT_ok 7 hh rfl rfl rfl rfl))
        | (refine StL.fl rfl rfl (AnsL.loadP tT_ok rfl rfl rfl rfl))
        | (refine StL.fl rfl rfl (AnsL.lenM tT_ok rfl rfl rfl))
        | (refine StL.fl rfl rfl (AnsL.lenS tT_ok rfl rfl rfl rfl))
        | (refine StL.fl rfl rfl (AnsL.lenG tT_ok rfl rfl rfl))
        | (refine StL.fl rfl rfl (AnsL.add rfl rfl ?_); (focus (constructor <;> omega)))
        | (refine StL.fl rfl rfl (AnsL.sub rfl rfl ?_); (focus (constructor <;> omega)))
        | (refine StL.fl rfl rfl (AnsL.mul rfl rfl ?_); (focus (constructor <;> omega)))
        | (refine StL.fl rfl rfl (AnsL.arith rfl rfl rfl))
        | (refine StL.fl rfl rfl (AnsL.shr rfl rfl rfl))
        | (refine StL.fl rfl rfl (AnsL.cat rfl rfl ?_); (focus (first | omega | (simp; omega) | (simp <;> fail))))
        | (refine StL.fl rfl rfl (AnsL.idxA tT_ok rfl rfl rfl rfl rfl (by omega) rfl rfl))
        | (refine StL.fl rfl rfl (AnsL.idxM tT_ok rfl rfl rfl rfl rfl ?_); (focus (omega)))
        | (refine StL.fl rfl rfl (AnsL.idxZ tT_ok rfl rfl rfl rfl rfl ?_ rfl rfl rfl); (focus (decide)))
        | (refine StL.gF rfl rfl rfl rfl rfl)
      all_goals
        apply Drw.fin (hh := hh)
        case hv => first | exact Val.agg_eq _ _ _ | rfl
        case hs => (first | (refine Sel.cons 0 rfl rfl ?_) | (refine Sel.cons 1 rfl rfl ?_) | (refine Sel.cons 2 rfl rfl ?_) | (refine Sel.cons 3 rfl rfl ?_) | (refine Sel.cons 4 rfl rfl ?_) | (refine Sel.cons 5 rfl rfl ?_) | (refine Sel.cons 6 rfl rfl ?_) | (refine Sel.cons 7 rfl rfl ?_)); (repeat' first | (exact Sel.refl _) | (refine Sel.drop ?_))
        case hi => first | assumption | omega | (simp; omega)
        case hp => exact band_255 _

def isI : V → Bool
  | .int .i64 _ => true
  | _ => false
def isS : V → Bool
  | .str _ => true
  | _ => false
def getI (vs : List V) (n : Int) : Int := match vs[n.toNat]? with
  | some (.int .i64 z) => z
  | _ => 0
def getS (vs : List V) (n : Int) : List UInt8 := match vs[n.toNat]? with
  | some (.str z) => z
  | _ => []
theorem getI_eq {vs : List V} {n : Int} (hv : vs.all isI = true) (h0 : 0 ≤ n) (h1 : n ≤ vs.length - 1) : vs[n.toNat]? = some (.int .i64 (getI vs n)) := by
  have hlt : n.toNat < vs.length := by omega
  have h := List.all_eq_true.1 hv _ (List.getElem_mem hlt)
  unfold getI
  rw [List.getElem?_eq_getElem hlt]
  generalize vs[n.toNat] = v at h
  unfold isI at h
  split at h
  · rfl
  · cases h
theorem getS_eq {vs : List V} {n : Int} (hv : vs.all isS = true) (h0 : 0 ≤ n) (h1 : n ≤ vs.length - 1) : vs[n.toNat]? = some (.str (getS vs n)) := by
  have hlt : n.toNat < vs.length := by omega
  have h := List.all_eq_true.1 hv _ (List.getElem_mem hlt)
  unfold getS
  rw [List.getElem?_eq_getElem hlt]
  generalize vs[n.toNat] = v at h
  unfold isS at h
  split at h
  · rfl
  · cases h
theorem specl1Below_d {b : V} (hb : Bytes b) {n : Int} (hn : 0 < n) : Drw Tryd.prog 16 b [.int .i64 n] iV (fun x => 0 ≤ x ∧ x ≤ n - 1) := by
  intro s H l i h hi hh
  have h0 : ¬ (n ≤ 0) := by omega
  by_cases c : n ≤ 256
  · refine LCalls.body0 Tryd.func16 rfl (by kernel_rfl) ?_
    repeat' first
      | (refine kCallN 24 ?_ ; first | (refine LOps.drawH 0 rfl rfl ok24 hh rfl rfl ?_ (specl1Byte_d hb) ?_ ; (focus (first | assumption | omega)) ; intro s x i h hq hi hh ; try dsimp only) | (refine LOps.drawH 1 rfl rfl ok24 hh rfl rfl ?_ (specl1Byte_d hb) ?_ ; (focus (first | assumption | omega)) ; intro s x i h hq hi hh ; try dsimp only) | (refine LOps.drawH 2 rfl rfl ok24 hh rfl rfl ?_ (specl1Byte_d hb) ?_ ; (focus (first | assumption | omega)) ; intro s x i h hq hi hh ; try dsimp only) | (refine LOps.drawH 3 rfl rfl ok24 hh rfl rfl ?_ (specl1Byte_d hb) ?_ ; (focus (first | assumption | omega)) ; intro s x i h hq hi hh ; try dsimp only) | (refine LOps.drawH 4 rfl rfl ok24 hh rfl rfl ?_ (specl1Byte_d hb) ?_ ; (focus (first | assumption | omega)) ; intro s x i h hq hi hh ; try dsimp only) | (refine LOps.drawH 5 rfl rfl ok24 hh rfl rfl ?_ (specl1Byte_d hb) ?_ ; (focus (first | assumption | omega)) ; intro s x i h hq hi hh ; try dsimp only) | (refine LOps.drawH 6 rfl rfl ok24 hh rfl rfl ?_ (specl1Byte_d hb) ?_ ; (focus (first | assumption | omega)) ; intro s x i h hq hi hh ; try dsimp only) | (refine LOps.drawH 7 rfl rfl ok24 hh rfl rfl ?_ (specl1Byte_d hb) ?_ ; (focus (first | assumption | omega)) ; intro s x i h hq hi hh ; try dsimp only))
      | (refine kOps ?_; first | (refine LOps.nil ?_) | (refine LOps.ev tT_ok rfl ?_) | (refine kBin ?_; first | (refine LOps.ans (AnsL.rem rfl rfl hn) ?_) | (refine LOps.ans (AnsL.add rfl rfl ?_) ?_; (focus (constructor <;> omega))) | (refine LOps.ans (AnsL.mul rfl rfl ?_) ?_; (focus (constructor <;> omega))) | (refine LOps.ans (AnsL.arith rfl rfl rfl) ?_)))
      | (refine kWL ?_; first | (refine WL.seq ?_) | (refine WL.region (by kernel_rfl) ?_) | (refine WL.skip ?_) | (refine WL.ret ?_) | (refine kCond ?_; first | (refine WL.condT rfl ?_) | (refine WL.condF rfl ?_) | (refine WL.condT' rfl ?_ ?_; (focus (first | (assumption) | (exact decide_eq_true (by assumption)) | (exact decide_eq_false (by assumption)) | (simp only [decide_eq_true_eq, decide_eq_false_iff_not, Bool.not_eq_true', Bool.not_eq_false', Int.ofNat_lt, Int.ofNat_le, Int.ofNat_inj, not_true_eq_false, not_false_eq_true]; omega) | (simp <;> fail)))) | (refine WL.condF' rfl ?_ ?_; (focus (first | (assumption) | (exact decide_eq_true (by assumption)) | (exact decide_eq_false (by assumption)) | (simp only [decide_eq_true_eq, decide_eq_false_iff_not, Bool.not_eq_true', Bool.not_eq_false', Int.ofNat_lt, Int.ofNat_le, Int.ofNat_inj, not_true_eq_false, not_false_eq_true]; omega) | (simp <;> fail)))) | (refine WL.cond rfl (fun h => ?_) (fun h => ?_))))
      | (refine lthen_n ?_)
      | (refine lthen_r ?_)
      | (refine lback_r ?_)
      | (refine lback_e ?_)
      | (refine lbackD_r ?_)
      | (refine lbackD_e ?_)
      | (refine lbackH_r ?_)
      | (refine lbackH_e ?_)
      | (refine LPost.r1 (r := .tmp 4) (.inl rfl) (Res1.tmp rfl) ?_)
      | (refine PureR.mk ?_)
    all_goals
      apply Drw.fin (hh := hh)
      case hv => first | exact Val.agg_eq _ _ _ | rfl
      case hs => (first | (refine Sel.cons 0 rfl rfl ?_) | (refine Sel.cons 1 rfl rfl ?_) | (refine Sel.cons 2 rfl rfl ?_) | (refine Sel.cons 3 rfl rfl ?_) | (refine Sel.cons 4 rfl rfl ?_) | (refine Sel.cons 5 rfl rfl ?_) | (refine Sel.cons 6 rfl rfl ?_) | (refine Sel.cons 7 rfl rfl ?_)); (repeat' first | (exact Sel.refl _) | (refine Sel.drop ?_))
      case hi => first | assumption | omega | (simp; omega)
      case hp => exact ⟨tmod_lo (by omega), tmod_hi (by omega) hn⟩
  · refine LCalls.body0 Tryd.func16 rfl (by kernel_rfl) ?_
    repeat' first
      | (refine kCallN 24 ?_ ; first | (refine LOps.drawH 0 rfl rfl ok24 hh rfl rfl ?_ (specl1Byte_d hb) ?_ ; (focus (first | assumption | omega)) ; intro s x i h hq hi hh ; try dsimp only) | (refine LOps.drawH 1 rfl rfl ok24 hh rfl rfl ?_ (specl1Byte_d hb) ?_ ; (focus (first | assumption | omega)) ; intro s x i h hq hi hh ; try dsimp only) | (refine LOps.drawH 2 rfl rfl ok24 hh rfl rfl ?_ (specl1Byte_d hb) ?_ ; (focus (first | assumption | omega)) ; intro s x i h hq hi hh ; try dsimp only) | (refine LOps.drawH 3 rfl rfl ok24 hh rfl rfl ?_ (specl1Byte_d hb) ?_ ; (focus (first | assumption | omega)) ; intro s x i h hq hi hh ; try dsimp only) | (refine LOps.drawH 4 rfl rfl ok24 hh rfl rfl ?_ (specl1Byte_d hb) ?_ ; (focus (first | assumption | omega)) ; intro s x i h hq hi hh ; try dsimp only) | (refine LOps.drawH 5 rfl rfl ok24 hh rfl rfl ?_ (specl1Byte_d hb) ?_ ; (focus (first | assumption | omega)) ; intro s x i h hq hi hh ; try dsimp only) | (refine LOps.drawH 6 rfl rfl ok24 hh rfl rfl ?_ (specl1Byte_d hb) ?_ ; (focus (first | assumption | omega)) ; intro s x i h hq hi hh ; try dsimp only) | (refine LOps.drawH 7 rfl rfl ok24 hh rfl rfl ?_ (specl1Byte_d hb) ?_ ; (focus (first | assumption | omega)) ; intro s x i h hq hi hh ; try dsimp only))
      | (refine kOps ?_; first | (refine LOps.nil ?_) | (refine LOps.ev tT_ok rfl ?_) | (refine kBin ?_; first | (refine LOps.ans (AnsL.rem rfl rfl hn) ?_) | (refine LOps.ans (AnsL.add rfl rfl ?_) ?_; (focus (constructor <;> omega))) | (refine LOps.ans (AnsL.mul rfl rfl ?_) ?_; (focus (constructor <;> omega))) | (refine LOps.ans (AnsL.arith rfl rfl rfl) ?_)))
      | (refine kWL ?_; first | (refine WL.seq ?_) | (refine WL.region (by kernel_rfl) ?_) | (refine WL.skip ?_) | (refine WL.ret ?_) | (refine kCond ?_; first | (refine WL.condT rfl ?_) | (refine WL.condF rfl ?_) | (refine WL.condT' rfl ?_ ?_; (focus (first | (assumption) | (exact decide_eq_true (by assumption)) | (exact decide_eq_false (by assumption)) | (simp only [decide_eq_true_eq, decide_eq_false_iff_not, Bool.not_eq_true', Bool.not_eq_false', Int.ofNat_lt, Int.ofNat_le, Int.ofNat_inj, not_true_eq_false, not_false_eq_true]; omega) | (simp <;> fail)))) | (refine WL.condF' rfl ?_ ?_; (focus (first | (assumption) | (exact decide_eq_true (by assumption)) | (exact decide_eq_false (by assumption)) | (simp only [decide_eq_true_eq, decide_eq_false_iff_not, Bool.not_eq_true', Bool.not_eq_false', Int.ofNat_lt, Int.ofNat_le, Int.ofNat_inj, not_true_eq_false, not_false_eq_true]; omega) | (simp <;> fail)))) | (refine WL.cond rfl (fun h => ?_) (fun h => ?_))))
      | (refine lthen_n ?_)
      | (refine lthen_r ?_)
      | (refine lback_r ?_)
      | (refine lback_e ?_)
      | (refine lbackD_r ?_)
      | (refine lbackD_e ?_)
      | (refine lbackH_r ?_)
      | (refine lbackH_e ?_)
      | (refine LPost.r1 (r := .tmp 4) (.inl rfl) (Res1.tmp rfl) ?_)
      | (refine PureR.mk ?_)
    all_goals
      apply Drw.fin (hh := hh)
      case hv => first | exact Val.agg_eq _ _ _ | rfl
      case hs => (first | (refine Sel.cons 0 rfl rfl ?_) | (refine Sel.cons 1 rfl rfl ?_) | (refine Sel.cons 2 rfl rfl ?_) | (refine Sel.cons 3 rfl rfl ?_) | (refine Sel.cons 4 rfl rfl ?_) | (refine Sel.cons 5 rfl rfl ?_) | (refine Sel.cons 6 rfl rfl ?_) | (refine Sel.cons 7 rfl rfl ?_)); (repeat' first | (exact Sel.refl _) | (refine Sel.drop ?_))
      case hi => first | assumption | omega | (simp; omega)
      case hp => exact ⟨tmod_lo (by omega), tmod_hi (by omega) hn⟩
theorem specl1Pick_d {b : V} (hb : Bytes b) {k : Nat} {vs : List V} (hv : vs.all isS = true) (hl : 0 < vs.length) : Drw Tryd.prog 17 b [.sl k vs] V.str (fun x => V.str x ∈ vs) := by
  intro s H l i h hi hh
  refine LCalls.body0 Tryd.func17 rfl (by kernel_rfl) ?_
  repeat' first
    | (refine kCallN 16 ?_ ; first | (refine LOps.drawH 0 rfl rfl ok16 hh rfl rfl ?_ (specl1Below_d hb (by omega)) ?_ ; (focus (first | assumption | omega)) ; intro s x i h hq hi hh ; try dsimp only) | (refine LOps.drawH 1 rfl rfl ok16 hh rfl rfl ?_ (specl1Below_d hb (by omega)) ?_ ; (focus (first | assumption | omega)) ; intro s x i h hq hi hh ; try dsimp only) | (refine LOps.drawH 2 rfl rfl ok16 hh rfl rfl ?_ (specl1Below_d hb (by omega)) ?_ ; (focus (first | assumption | omega)) ; intro s x i h hq hi hh ; try dsimp only) | (refine LOps.drawH 3 rfl rfl ok16 hh rfl rfl ?_ (specl1Below_d hb (by omega)) ?_ ; (focus (first | assumption | omega)) ; intro s x i h hq hi hh ; try dsimp only) | (refine LOps.drawH 4 rfl rfl ok16 hh rfl rfl ?_ (specl1Below_d hb (by omega)) ?_ ; (focus (first | assumption | omega)) ; intro s x i h hq hi hh ; try dsimp only) | (refine LOps.drawH 5 rfl rfl ok16 hh rfl rfl ?_ (specl1Below_d hb (by omega)) ?_ ; (focus (first | assumption | omega)) ; intro s x i h hq hi hh ; try dsimp only) | (refine LOps.drawH 6 rfl rfl ok16 hh rfl rfl ?_ (specl1Below_d hb (by omega)) ?_ ; (focus (first | assumption | omega)) ; intro s x i h hq hi hh ; try dsimp only) | (refine LOps.drawH 7 rfl rfl ok16 hh rfl rfl ?_ (specl1Below_d hb (by omega)) ?_ ; (focus (first | assumption | omega)) ; intro s x i h hq hi hh ; try dsimp only))
    | (refine kOps ?_; first | (refine LOps.nil ?_) | (refine LOps.ev tT_ok rfl ?_) | (refine kLoad ?_; first | (refine LOps.ans (AnsL.loadHW tT_ok 0 hh rfl rfl rfl rfl) ?_) | (refine LOps.ans (AnsL.loadHW tT_ok 1 hh rfl rfl rfl rfl) ?_) | (refine LOps.ans (AnsL.loadHW tT_ok 2 hh rfl rfl rfl rfl) ?_) | (refine LOps.ans (AnsL.loadHW tT_ok 3 hh rfl rfl rfl rfl) ?_) | (refine LOps.ans (AnsL.loadHW tT_ok 4 hh rfl rfl rfl rfl) ?_) | (refine LOps.ans (AnsL.loadHW tT_ok 5 hh rfl rfl rfl rfl) ?_) | (refine LOps.ans (AnsL.loadHW tT_ok 6 hh rfl rfl rfl rfl) ?_) | (refine LOps.ans (AnsL.loadHW tT_ok 7 hh rfl rfl rfl rfl) ?_) | (refine LOps.ans (AnsL.loadH tT_ok 0 hh rfl rfl rfl rfl) ?_) | (refine LOps.ans (AnsL.loadH tT_ok 1 hh rfl rfl rfl rfl) ?_) | (refine LOps.ans (AnsL.loadH tT_ok 2 hh rfl rfl rfl rfl) ?_) | (refine LOps.ans (AnsL.loadH tT_ok 3 hh rfl rfl rfl rfl) ?_) | (refine LOps.ans (AnsL.loadH tT_ok 4 hh rfl rfl rfl rfl) ?_) | (refine LOps.ans (AnsL.loadH tT_ok 5 hh rfl rfl rfl rfl) ?_) | (refine LOps.ans (AnsL.loadH tT_ok 6 hh rfl rfl rfl rfl) ?_) | (refine LOps.ans (AnsL.loadH tT_ok 7 hh rfl rfl rfl rfl) ?_) | (refine LOps.ans (AnsL.loadP tT_ok rfl rfl rfl rfl) ?_)) | (refine kLen ?_; first | (refine LOps.ans (AnsL.lenM tT_ok rfl rfl rfl) ?_) | (refine LOps.ans (AnsL.lenS tT_ok rfl rfl rfl rfl) ?_) | (refine LOps.ans (AnsL.lenG tT_ok rfl rfl rfl) ?_)) | (refine kIdx ?_; first | (refine LOps.ans (AnsL.idxZ tT_ok rfl rfl rfl rfl rfl ?_ (getS_eq hv ?_ ?_) rfl rfl) ?_; (focus (omega)); (focus (omega)); (focus (omega))) | (refine LOps.ans (AnsL.idxA tT_ok rfl rfl rfl rfl rfl (by omega) rfl rfl) ?_) | (refine LOps.ans (AnsL.idxZ tT_ok rfl rfl rfl rfl rfl ?_ rfl rfl rfl) ?_; (focus (decide)))))
    | (refine kWL ?_; first | (refine WL.seq ?_) | (refine WL.region (by kernel_rfl) ?_) | (refine WL.skip ?_) | (refine WL.ret ?_) | (refine kCond ?_; first | (refine WL.condT rfl ?_) | (refine WL.condF rfl ?_) | (refine WL.condT' rfl ?_ ?_; (focus (first | (assumption) | (exact decide_eq_true (by assumption)) | (exact decide_eq_false (by assumption)) | (simp only [decide_eq_true_eq, decide_eq_false_iff_not, Bool.not_eq_true', Bool.not_eq_false', Int.ofNat_lt, Int.ofNat_le, Int.ofNat_inj, not_true_eq_false, not_false_eq_true]; omega) | (simp <;> fail)))) | (refine WL.condF' rfl ?_ ?_; (focus (first | (assumption) | (exact decide_eq_true (by assumption)) | (exact decide_eq_false (by assumption)) | (simp only [decide_eq_true_eq, decide_eq_false_iff_not, Bool.not_eq_true', Bool.not_eq_false', Int.ofNat_lt, Int.ofNat_le, Int.ofNat_inj, not_true_eq_false, not_false_eq_true]; omega) | (simp <;> fail)))) | (refine WL.cond rfl (fun h => ?_) (fun h => ?_))))
    | (refine lthen_n ?_)
    | (refine lthen_r ?_)
    | (refine lback_r ?_)
    | (refine lback_e ?_)
    | (refine lbackD_r ?_)
    | (refine lbackD_e ?_)
    | (refine lbackH_r ?_)
    | (refine lbackH_e ?_)
    | (refine LPost.r1 (r := .tmp 4) (.inl rfl) (Res1.tmp rfl) ?_)
    | (refine PureR.mk ?_)
  all_goals
    apply Drw.fin (hh := hh)
    case hv => first | exact Val.agg_eq _ _ _ | rfl
    case hs => (first | (refine Sel.cons 0 rfl rfl ?_) | (refine Sel.cons 1 rfl rfl ?_) | (refine Sel.cons 2 rfl rfl ?_) | (refine Sel.cons 3 rfl rfl ?_) | (refine Sel.cons 4 rfl rfl ?_) | (refine Sel.cons 5 rfl rfl ?_) | (refine Sel.cons 6 rfl rfl ?_) | (refine Sel.cons 7 rfl rfl ?_)); (repeat' first | (exact Sel.refl _) | (refine Sel.drop ?_))
    case hi => first | assumption | omega | (simp; omega)
    case hp => exact List.mem_of_getElem? (getS_eq hv (by omega) (by omega))
theorem specl1New_d {b : V} (hb : Bytes b) : DrwNew Tryd.prog 15 b := by
  intro s H hh
  rcases hb with rfl | ⟨bs, rfl, hlen⟩
  · refine LCalls.body0 Tryd.func15 rfl (by kernel_rfl) ?_
    repeat' first
      | (refine kBox ?_ ; first | (refine LOps.boxH hh rfl rfl ?_ ; intro s n hh) | (refine LOps.boxHW hh rfl rfl ?_ ; intro s n hh))
      | (refine kOps ?_; first | (refine LOps.nil ?_) | (refine kG ?_; first | (refine LOps.gT rfl rfl rfl ?_) | (refine LOps.gF rfl rfl rfl ?_) | (refine LOps.gU rfl rfl ?_) | (refine LOps.gFN rfl rfl rfl ?_) | (refine LOps.gD true rfl rfl rfl ?_ ?_; (focus (first | (assumption) | (exact decide_eq_true (by assumption)) | (exact decide_eq_false (by assumption)) | (simp only [decide_eq_true_eq, decide_eq_false_iff_not, Bool.not_eq_true', Bool.not_eq_false', Int.ofNat_lt, Int.ofNat_le, Int.ofNat_inj, not_true_eq_false, not_false_eq_true]; omega) | (simp <;> fail)))) | (refine LOps.gD false rfl rfl rfl ?_ ?_; (focus (first | (assumption) | (exact decide_eq_true (by assumption)) | (exact decide_eq_false (by assumption)) | (simp only [decide_eq_true_eq, decide_eq_false_iff_not, Bool.not_eq_true', Bool.not_eq_false', Int.ofNat_lt, Int.ofNat_le, Int.ofNat_inj, not_true_eq_false, not_false_eq_true]; omega) | (simp <;> fail)))) | (refine LOps.gC rfl rfl rfl (fun h => ?_) (fun h => ?_))) | (refine LOps.ev tT_ok rfl ?_) | (refine kBox ?_; refine LOps.box rfl rfl rfl rfl ?_) | (refine kLoad ?_; first | (refine LOps.ans (AnsL.loadHW tT_ok 0 hh rfl rfl rfl rfl) ?_) | (refine LOps.ans (AnsL.loadHW tT_ok 1 hh rfl rfl rfl rfl) ?_) | (refine LOps.ans (AnsL.loadHW tT_ok 2 hh rfl rfl rfl rfl) ?_) | (refine LOps.ans (AnsL.loadHW tT_ok 3 hh rfl rfl rfl rfl) ?_) | (refine LOps.ans (AnsL.loadHW tT_ok 4 hh rfl rfl rfl rfl) ?_) | (refine LOps.ans (AnsL.loadHW tT_ok 5 hh rfl rfl rfl rfl) ?_) | (refine LOps.ans (AnsL.loadHW tT_ok 6 hh rfl rfl rfl rfl) ?_) | (refine LOps.ans (AnsL.loadHW tT_ok 7 hh rfl rfl rfl rfl) ?_) | (refine LOps.ans (AnsL.loadH tT_ok 0 hh rfl rfl rfl rfl) ?_) | (refine LOps.ans (AnsL.loadH tT_ok 1 hh rfl rfl rfl rfl) ?_) | (refine LOps.ans (AnsL.loadH tT_ok 2 hh rfl rfl rfl rfl) ?_) | (refine LOps.ans (AnsL.loadH tT_ok 3 hh rfl rfl rfl rfl) ?_) | (refine LOps.ans (AnsL.loadH tT_ok 4 hh rfl rfl rfl rfl) ?_) | (refine LOps.ans (AnsL.loadH tT_ok 5 hh rfl rfl rfl rfl) ?_) | (refine LOps.ans (AnsL.loadH tT_ok 6 hh rfl rfl rfl rfl) ?_) | (refine LOps.ans (AnsL.loadH tT_ok 7 hh rfl rfl rfl rfl) ?_) | (refine LOps.ans (AnsL.loadP tT_ok rfl rfl rfl rfl) ?_)) | (refine kLen ?_; first | (refine LOps.ans (AnsL.lenM tT_ok rfl rfl rfl) ?_) | (refine LOps.ans (AnsL.lenS tT_ok rfl rfl rfl rfl) ?_) | (refine LOps.ans (AnsL.lenG tT_ok rfl rfl rfl) ?_)) | (refine kBin ?_; first | (refine LOps.ans (AnsL.add rfl rfl ?_) ?_; (focus (constructor <;> omega))) | (refine LOps.ans (AnsL.mul rfl rfl ?_) ?_; (focus (constructor <;> omega))) | (refine LOps.ans (AnsL.arith rfl rfl rfl) ?_)) | (refine kIdx ?_; first | (refine LOps.ans (AnsL.idxA tT_ok rfl rfl rfl rfl rfl (by omega) rfl rfl) ?_) | (refine LOps.ans (AnsL.idxM tT_ok rfl rfl rfl rfl rfl ?_) ?_; (focus (omega))) | (refine LOps.ans (AnsL.idxZ tT_ok rfl rfl rfl rfl rfl ?_ rfl rfl rfl) ?_; (focus (decide)))))
      | (refine kWL ?_; first | (refine WL.seq ?_) | (refine WL.region (by kernel_rfl) ?_) | (refine WL.block ?_) | (refine WL.exit ?_) | (refine WL.skip ?_) | (refine WL.ret ?_) | (refine kCond ?_; first | (refine WL.condT rfl ?_) | (refine WL.condF rfl ?_) | (refine WL.condT' rfl ?_ ?_; (focus (first | (assumption) | (exact decide_eq_true (by assumption)) | (exact decide_eq_false (by assumption)) | (simp only [decide_eq_true_eq, decide_eq_false_iff_not, Bool.not_eq_true', Bool.not_eq_false', Int.ofNat_lt, Int.ofNat_le, Int.ofNat_inj, not_true_eq_false, not_false_eq_true]; omega) | (simp <;> fail)))) | (refine WL.condF' rfl ?_ ?_; (focus (first | (assumption) | (exact decide_eq_true (by assumption)) | (exact decide_eq_false (by assumption)) | (simp only [decide_eq_true_eq, decide_eq_false_iff_not, Bool.not_eq_true', Bool.not_eq_false', Int.ofNat_lt, Int.ofNat_le, Int.ofNat_inj, not_true_eq_false, not_false_eq_true]; omega) | (simp <;> fail)))) | (refine WL.cond rfl (fun h => ?_) (fun h => ?_))))
      | (refine lthen_n ?_)
      | (refine lthen_r ?_)
      | (refine lthen_e ?_)
      | (refine lblock_n ?_)
      | (refine lblock_r ?_)
      | (refine lblock_e ?_)
      | (refine lblock_o rfl ?_)
      | (refine lback_r ?_)
      | (refine lback_e ?_)
      | (refine lbackD_r ?_)
      | (refine lbackD_e ?_)
      | (refine lbackH_r ?_)
      | (refine lbackH_e ?_)
      | (refine LPost.r1 (r := .tmp 2) (.inl rfl) (Res1.tmp rfl) ?_)
      | (refine PureR.mk ?_)
    refine WL.loopH (fun _ : Unit => 0) (fun _ => [(0, .nilsl), (3, .int .i64 28322), (4, .int .i64 0)]) (fun _ => H) (fun _ => True) () trivial ⟨rfl, rfl, rfl, trivial⟩ hh (Sel.refl _) (fun x s hI hh => ?_)
    repeat' first
      | (refine kBox ?_ ; first | (refine LOps.boxH hh rfl rfl ?_ ; intro s n hh) | (refine LOps.boxHW hh rfl rfl ?_ ; intro s n hh))
      | (refine kOps ?_; first | (refine LOps.nil ?_) | (refine kG ?_; first | (refine LOps.gT rfl rfl rfl ?_) | (refine LOps.gF rfl rfl rfl ?_) | (refine LOps.gU rfl rfl ?_) | (refine LOps.gFN rfl rfl rfl ?_) | (refine LOps.gD true rfl rfl rfl ?_ ?_; (focus (first | (assumption) | (exact decide_eq_true (by assumption)) | (exact decide_eq_false (by assumption)) | (simp only [decide_eq_true_eq, decide_eq_false_iff_not, Bool.not_eq_true', Bool.not_eq_false', Int.ofNat_lt, Int.ofNat_le, Int.ofNat_inj, not_true_eq_false, not_false_eq_true]; omega) | (simp <;> fail)))) | (refine LOps.gD false rfl rfl rfl ?_ ?_; (focus (first | (assumption) | (exact decide_eq_true (by assumption)) | (exact decide_eq_false (by assumption)) | (simp only [decide_eq_true_eq, decide_eq_false_iff_not, Bool.not_eq_true', Bool.not_eq_false', Int.ofNat_lt, Int.ofNat_le, Int.ofNat_inj, not_true_eq_false, not_false_eq_true]; omega) | (simp <;> fail)))) | (refine LOps.gC rfl rfl rfl (fun h => ?_) (fun h => ?_))) | (refine LOps.ev tT_ok rfl ?_) | (refine kBox ?_; refine LOps.box rfl rfl rfl rfl ?_) | (refine kLoad ?_; first | (refine LOps.ans (AnsL.loadHW tT_ok 0 hh rfl rfl rfl rfl) ?_) | (refine LOps.ans (AnsL.loadHW tT_ok 1 hh rfl rfl rfl rfl) ?_) | (refine LOps.ans (AnsL.loadHW tT_ok 2 hh rfl rfl rfl rfl) ?_) | (refine LOps.ans (AnsL.loadHW tT_ok 3 hh rfl rfl rfl rfl) ?_) | (refine LOps.ans (AnsL.loadHW tT_ok 4 hh rfl rfl rfl rfl) ?_) | (refine LOps.ans (AnsL.loadHW tT_ok 5 hh rfl rfl rfl rfl) ?_) | (refine LOps.ans (AnsL.loadHW tT_ok 6 hh rfl rfl rfl rfl) ?_) | (refine LOps.ans (AnsL.loadHW tT_ok 7 hh rfl rfl rfl rfl) ?_) | (refine LOps.ans (AnsL.loadH tT_ok 0 hh rfl rfl rfl rfl) ?_) | (refine LOps.ans (AnsL.loadH tT_ok 1 hh rfl rfl rfl rfl) ?_) | (refine LOps.ans (AnsL.loadH tT_ok 2 hh rfl rfl rfl rfl) ?_) | (refine LOps.ans (AnsL.loadH tT_ok 3 hh rfl rfl rfl rfl) ?_) | (refine LOps.ans (AnsL.loadH tT_ok 4 hh rfl rfl rfl rfl) ?_) | (refine LOps.ans (AnsL.loadH tT_ok 5 hh rfl rfl rfl rfl) ?_) | (refine LOps.ans (AnsL.loadH tT_ok 6 hh rfl rfl rfl rfl) ?_) | (refine LOps.ans (AnsL.loadH tT_ok 7 hh rfl rfl rfl rfl) ?_) | (refine LOps.ans (AnsL.loadP tT_ok rfl rfl rfl rfl) ?_)) | (refine kLen ?_; first | (refine LOps.ans (AnsL.lenM tT_ok rfl rfl rfl) ?_) | (refine LOps.ans (AnsL.lenS tT_ok rfl rfl rfl rfl) ?_) | (refine LOps.ans (AnsL.lenG tT_ok rfl rfl rfl) ?_)) | (refine kBin ?_; first | (refine LOps.ans (AnsL.add rfl rfl ?_) ?_; (focus (constructor <;> omega))) | (refine LOps.ans (AnsL.mul rfl rfl ?_) ?_; (focus (constructor <;> omega))) | (refine LOps.ans (AnsL.arith rfl rfl rfl) ?_)) | (refine kIdx ?_; first | (refine LOps.ans (AnsL.idxA tT_ok rfl rfl rfl rfl rfl (by omega) rfl rfl) ?_) | (refine LOps.ans (AnsL.idxM tT_ok rfl rfl rfl rfl rfl ?_) ?_; (focus (omega))) | (refine LOps.ans (AnsL.idxZ tT_ok rfl rfl rfl rfl rfl ?_ rfl rfl rfl) ?_; (focus (decide)))))
      | (refine kWL ?_; first | (refine WL.seq ?_) | (refine WL.region (by kernel_rfl) ?_) | (refine WL.block ?_) | (refine WL.exit ?_) | (refine WL.skip ?_) | (refine WL.ret ?_) | (refine kCond ?_; first | (refine WL.condT rfl ?_) | (refine WL.condF rfl ?_) | (refine WL.condT' rfl ?_ ?_; (focus (first | (assumption) | (exact decide_eq_true (by assumption)) | (exact decide_eq_false (by assumption)) | (simp only [decide_eq_true_eq, decide_eq_false_iff_not, Bool.not_eq_true', Bool.not_eq_false', Int.ofNat_lt, Int.ofNat_le, Int.ofNat_inj, not_true_eq_false, not_false_eq_true]; omega) | (simp <;> fail)))) | (refine WL.condF' rfl ?_ ?_; (focus (first | (assumption) | (exact decide_eq_true (by assumption)) | (exact decide_eq_false (by assumption)) | (simp only [decide_eq_true_eq, decide_eq_false_iff_not, Bool.not_eq_true', Bool.not_eq_false', Int.ofNat_lt, Int.ofNat_le, Int.ofNat_inj, not_true_eq_false, not_false_eq_true]; omega) | (simp <;> fail)))) | (refine WL.cond rfl (fun h => ?_) (fun h => ?_))))
      | (refine lthen_n ?_)
      | (refine lthen_r ?_)
      | (refine lthen_e ?_)
      | (refine lblock_n ?_)
      | (refine lblock_r ?_)
      | (refine lblock_e ?_)
      | (refine lblock_o rfl ?_)
      | (refine lback_r ?_)
      | (refine lback_e ?_)
      | (refine lbackD_r ?_)
      | (refine lbackD_e ?_)
      | (refine lbackH_r ?_)
      | (refine lbackH_e ?_)
      | (refine LPost.r1 (r := .tmp 2) (.inl rfl) (Res1.tmp rfl) ?_)
      | (refine PureR.mk ?_)
    exact ⟨_, _, _, rfl, rfl, hh⟩
  · refine LCalls.body0 Tryd.func15 rfl (by kernel_rfl) ?_
    repeat' first
      | (refine kBox ?_ ; first | (refine LOps.boxH hh rfl rfl ?_ ; intro s n hh) | (refine LOps.boxHW hh rfl rfl ?_ ; intro s n hh))
      | (refine kOps ?_; first | (refine LOps.nil ?_) | (refine kG ?_; first | (refine LOps.gT rfl rfl rfl ?_) | (refine LOps.gF rfl rfl rfl ?_) | (refine LOps.gU rfl rfl ?_) | (refine LOps.gFN rfl rfl rfl ?_) | (refine LOps.gD true rfl rfl rfl ?_ ?_; (focus (first | (assumption) | (exact decide_eq_true (by assumption)) | (exact decide_eq_false (by assumption)) | (simp only [decide_eq_true_eq, decide_eq_false_iff_not, Bool.not_eq_true', Bool.not_eq_false', Int.ofNat_lt, Int.ofNat_le, Int.ofNat_inj, not_true_eq_false, not_false_eq_true]; omega) | (simp <;> fail)))) | (refine LOps.gD false rfl rfl rfl ?_ ?_; (focus (first | (assumption) | (exact decide_eq_true (by assumption)) | (exact decide_eq_false (by assumption)) | (simp only [decide_eq_true_eq, decide_eq_false_iff_not, Bool.not_eq_true', Bool.not_eq_false', Int.ofNat_lt, Int.ofNat_le, Int.ofNat_inj, not_true_eq_false, not_false_eq_true]; omega) | (simp <;> fail)))) | (refine LOps.gC rfl rfl rfl (fun h => ?_) (fun h => ?_))) | (refine LOps.ev tT_ok rfl ?_) | (refine kBox ?_; refine LOps.box rfl rfl rfl rfl ?_) | (refine kLoad ?_; first | (refine LOps.ans (AnsL.loadHW tT_ok 0 hh rfl rfl rfl rfl) ?_) | (refine LOps.ans (AnsL.loadHW tT_ok 1 hh rfl rfl rfl rfl) ?_) | (refine LOps.ans (AnsL.loadHW tT_ok 2 hh rfl rfl rfl rfl) ?_) | (refine LOps.ans (AnsL.loadHW tT_ok 3 hh rfl rfl rfl rfl) ?_) | (refine LOps.ans (AnsL.loadHW tT_ok 4 hh rfl rfl rfl rfl) ?_) | (refine LOps.ans (AnsL.loadHW tT_ok 5 hh rfl rfl rfl rfl) ?_) | (refine LOps.ans (AnsL.loadHW tT_ok 6 hh rfl rfl rfl rfl) ?_) | (refine LOps.ans (AnsL.loadHW tT_ok 7 hh rfl rfl rfl rfl) ?_) | (refine LOps.ans (AnsL.loadH tT_ok 0 hh rfl rfl rfl rfl) ?_) | (refine LOps.ans (AnsL.loadH tT_ok 1 hh rfl rfl rfl rfl) ?_) | (refine LOps.ans (AnsL.loadH tT_ok 2 hh rfl rfl rfl rfl) ?_) | (refine LOps.ans (AnsL.loadH tT_ok 3 hh rfl rfl rfl rfl) ?_) | (refine LOps.ans (AnsL.loadH tT_ok 4 hh rfl rfl rfl rfl) ?_) | (refine LOps.ans (AnsL.loadH tT_ok 5 hh rfl rfl rfl rfl) ?_) | (refine LOps.ans (AnsL.loadH tT_ok 6 hh rfl rfl rfl rfl) ?_) | (refine LOps.ans (AnsL.loadH tT_ok 7 hh rfl rfl rfl rfl) ?_) | (refine LOps.ans (AnsL.loadP tT_ok rfl rfl rfl rfl) ?_)) | (refine kLen ?_; first | (refine LOps.ans (AnsL.lenM tT_ok rfl rfl rfl) ?_) | (refine LOps.ans (AnsL.lenS tT_ok rfl rfl rfl rfl) ?_) | (refine LOps.ans (AnsL.lenG tT_ok rfl rfl rfl) ?_)) | (refine kBin ?_; first | (refine LOps.ans (AnsL.add rfl rfl ?_) ?_; (focus (constructor <;> omega))) | (refine LOps.ans (AnsL.mul rfl rfl ?_) ?_; (focus (constructor <;> omega))) | (refine LOps.ans (AnsL.arith rfl rfl rfl) ?_)) | (refine kIdx ?_; first | (refine LOps.ans (AnsL.idxA tT_ok rfl rfl rfl rfl rfl (by omega) rfl rfl) ?_) | (refine LOps.ans (AnsL.idxM tT_ok rfl rfl rfl rfl rfl ?_) ?_; (focus (omega))) | (refine LOps.ans (AnsL.idxZ tT_ok rfl rfl rfl rfl rfl ?_ rfl rfl rfl) ?_; (focus (decide)))))
      | (refine kWL ?_; first | (refine WL.seq ?_) | (refine WL.region (by kernel_rfl) ?_) | (refine WL.block ?_) | (refine WL.exit ?_) | (refine WL.skip ?_) | (refine WL.ret ?_) | (refine kCond ?_; first | (refine WL.condT rfl ?_) | (refine WL.condF rfl ?_) | (refine WL.condT' rfl ?_ ?_; (focus (first | (assumption) | (exact decide_eq_true (by assumption)) | (exact decide_eq_false (by assumption)) | (simp only [decide_eq_true_eq, decide_eq_false_iff_not, Bool.not_eq_true', Bool.not_eq_false', Int.ofNat_lt, Int.ofNat_le, Int.ofNat_inj, not_true_eq_false, not_false_eq_true]; omega) | (simp <;> fail)))) | (refine WL.condF' rfl ?_ ?_; (focus (first | (assumption) | (exact decide_eq_true (by assumption)) | (exact decide_eq_false (by assumption)) | (simp only [decide_eq_true_eq, decide_eq_false_iff_not, Bool.not_eq_true', Bool.not_eq_false', Int.ofNat_lt, Int.ofNat_le, Int.ofNat_inj, not_true_eq_false, not_false_eq_true]; omega) | (simp <;> fail)))) | (refine WL.cond rfl (fun h => ?_) (fun h => ?_))))
      | (refine lthen_n ?_)
      | (refine lthen_r ?_)
      | (refine lthen_e ?_)
      | (refine lblock_n ?_)
      | (refine lblock_r ?_)
      | (refine lblock_e ?_)
      | (refine lblock_o rfl ?_)
      | (refine lback_r ?_)
      | (refine lback_e ?_)
      | (refine lbackD_r ?_)
      | (refine lbackD_e ?_)
      | (refine lbackH_r ?_)
      | (refine lbackH_e ?_)
      | (refine LPost.r1 (r := .tmp 2) (.inl rfl) (Res1.tmp rfl) ?_)
      | (refine PureR.mk ?_)
    refine WL.loopH (fun x : Int × Int => bs.length - x.1.toNat) (fun x => [(0, .sl 0 (bs.map byteV)), (3, .int .i64 x.2), (4, .int .i64 x.1)]) (fun _ => H) (fun x => 0 ≤ x.1 ∧ x.1 ≤ bs.length) (0, _) ⟨Int.le_refl _, Int.natCast_nonneg _⟩ ⟨rfl, rfl, rfl, trivial⟩ hh (Sel.refl _) (fun x s hI hh => ?_)
    obtain ⟨z, g⟩ := x
    dsimp only at hI hh ⊢
    obtain ⟨hz, hI⟩ := hI
    by_cases hlt : z < (bs.length : Int)
    · have hzl : z.toNat < bs.length := by omega
      have hga : (bs.map byteV)[z.toNat]? = some (byteV bs[z.toNat]) := by rw [List.getElem?_map, List.getElem?_eq_getElem hzl]; rfl
      have hmx : (maxLen : Int) = 9223372036854775807 := rfl
      generalize bs[z.toNat] = y at hga
      by_cases h4 : z < 4000
      · skip
        repeat' first
          | (refine kBox ?_ ; first | (refine LOps.boxH hh rfl rfl ?_ ; intro s n hh) | (refine LOps.boxHW hh rfl rfl ?_ ; intro s n hh))
          | (refine kOps ?_; first | (refine LOps.nil ?_) | (refine kG ?_; first | (refine LOps.gT rfl rfl rfl ?_) | (refine LOps.gF rfl rfl rfl ?_) | (refine LOps.gU rfl rfl ?_) | (refine LOps.gFN rfl rfl rfl ?_) | (refine LOps.gD true rfl rfl rfl ?_ ?_; (focus (first | (assumption) | (exact decide_eq_true (by assumption)) | (exact decide_eq_false (by assumption)) | (simp only [decide_eq_true_eq, decide_eq_false_iff_not, Bool.not_eq_true', Bool.not_eq_false', Int.ofNat_lt, Int.ofNat_le, Int.ofNat_inj, not_true_eq_false, not_false_eq_true]; omega) | (simp <;> fail)))) | (refine LOps.gD false rfl rfl rfl ?_ ?_; (focus (first | (assumption) | (exact decide_eq_true (by assumption)) | (exact decide_eq_false (by assumption)) | (simp only [decide_eq_true_eq, decide_eq_false_iff_not, Bool.not_eq_true', Bool.not_eq_false', Int.ofNat_lt, Int.ofNat_le, Int.ofNat_inj, not_true_eq_false, not_false_eq_true]; omega) | (simp <;> fail)))) | (refine LOps.gC rfl rfl rfl (fun h => ?_) (fun h => ?_))) | (refine LOps.ev tT_ok rfl ?_) | (refine kBox ?_; refine LOps.box rfl rfl rfl rfl ?_) | (refine kLoad ?_; first | (refine LOps.ans (AnsL.loadHW tT_ok 0 hh rfl rfl rfl rfl) ?_) | (refine LOps.ans (AnsL.loadHW tT_ok 1 hh rfl rfl rfl rfl) ?_) | (refine LOps.ans (AnsL.loadHW tT_ok 2 hh rfl rfl rfl rfl) ?_) | (refine LOps.ans (AnsL.loadHW tT_ok 3 hh rfl rfl rfl rfl) ?_) | (refine LOps.ans (AnsL.loadHW tT_ok 4 hh rfl rfl rfl rfl) ?_) | (refine LOps.ans (AnsL.loadHW tT_ok 5 hh rfl rfl rfl rfl) ?_) | (refine LOps.ans (AnsL.loadHW tT_ok 6 hh rfl rfl rfl rfl) ?_) | (refine LOps.ans (AnsL.loadHW tT_ok 7 hh rfl rfl rfl rfl) ?_) | (refine LOps.ans (AnsL.loadH tT_ok 0 hh rfl rfl rfl rfl) ?_) | (refine LOps.ans (AnsL.loadH tT_ok 1 hh rfl rfl rfl rfl) ?_) | (refine LOps.ans (AnsL.loadH tT_ok 2 hh rfl rfl rfl rfl) ?_) | (refine LOps.ans (AnsL.loadH tT_ok 3 hh rfl rfl rfl rfl) ?_) | (refine LOps.ans (AnsL.loadH tT_ok 4 hh rfl rfl rfl rfl) ?_) | (refine LOps.ans (AnsL.loadH tT_ok 5 hh rfl rfl rfl rfl) ?_) | (refine LOps.ans (AnsL.loadH tT_ok 6 hh rfl rfl rfl rfl) ?_) | (refine LOps.ans (AnsL.loadH tT_ok 7 hh rfl rfl rfl rfl) ?_) | (refine LOps.ans (AnsL.loadP tT_ok rfl rfl rfl rfl) ?_)) | (refine kLen ?_; first | (refine LOps.ans (AnsL.lenM tT_ok rfl rfl rfl) ?_) | (refine LOps.ans (AnsL.lenS tT_ok rfl rfl rfl rfl) ?_) | (refine LOps.ans (AnsL.lenG tT_ok rfl rfl rfl) ?_)) | (refine kBin ?_; first | (refine LOps.ans (AnsL.add rfl rfl ?_) ?_; (focus (constructor <;> omega))) | (refine LOps.ans (AnsL.mul rfl rfl ?_) ?_; (focus (constructor <;> omega))) | (refine LOps.ans (AnsL.arith rfl rfl rfl) ?_)) | (refine kIdx ?_; first | (refine LOps.ans (AnsL.idxZ tT_ok rfl rfl rfl rfl rfl hz hga rfl rfl) ?_) | (refine LOps.ans (AnsL.idxA tT_ok rfl rfl rfl rfl rfl (by omega) rfl rfl) ?_) | (refine LOps.ans (AnsL.idxM tT_ok rfl rfl rfl rfl rfl ?_) ?_; (focus (omega))) | (refine LOps.ans (AnsL.idxZ tT_ok rfl rfl rfl rfl rfl ?_ rfl rfl rfl) ?_; (focus (decide)))))
          | (refine kWL ?_; first | (refine WL.seq ?_) | (refine WL.region (by kernel_rfl) ?_) | (refine WL.block ?_) | (refine WL.exit ?_) | (refine WL.skip ?_) | (refine WL.ret ?_) | (refine kCond ?_; first | (refine WL.condT rfl ?_) | (refine WL.condF rfl ?_) | (refine WL.condT' rfl ?_ ?_; (focus (first | (assumption) | (exact decide_eq_true (by assumption)) | (exact decide_eq_false (by assumption)) | (simp only [decide_eq_true_eq, decide_eq_false_iff_not, Bool.not_eq_true', Bool.not_eq_false', Int.ofNat_lt, Int.ofNat_le, Int.ofNat_inj, not_true_eq_false, not_false_eq_true]; omega) | (simp <;> fail)))) | (refine WL.condF' rfl ?_ ?_; (focus (first | (assumption) | (exact decide_eq_true (by assumption)) | (exact decide_eq_false (by assumption)) | (simp only [decide_eq_true_eq, decide_eq_false_iff_not, Bool.not_eq_true', Bool.not_eq_false', Int.ofNat_lt, Int.ofNat_le, Int.ofNat_inj, not_true_eq_false, not_false_eq_true]; omega) | (simp <;> fail)))) | (refine WL.cond rfl (fun h => ?_) (fun h => ?_))))
          | (refine lthen_n ?_)
          | (refine lthen_r ?_)
          | (refine lthen_e ?_)
          | (refine lblock_n ?_)
          | (refine lblock_r ?_)
          | (refine lblock_e ?_)
          | (refine lblock_o rfl ?_)
          | (refine lback_r ?_)
          | (refine lback_e ?_)
          | (refine lbackD_r ?_)
          | (refine lbackD_e ?_)
          | (refine lbackH_r ?_)
          | (refine lbackH_e ?_)
          | (refine LPost.r1 (r := .tmp 2) (.inl rfl) (Res1.tmp rfl) ?_)
          | (refine PureR.mk ?_)
        refine' lbackH.of (z + 1, _) ?_ hh ?_ ?_ ?_
        rotate_left 1
        · repeat' first | exact SubL.nil | (refine SubL.mk rfl ?_ ?_) | rfl
        · exact Sel.refl _
        · dsimp only; omega
        · dsimp only; omega
      · skip
        repeat' first
          | (refine kBox ?_ ; first | (refine LOps.boxH hh rfl rfl ?_ ; intro s n hh) | (refine LOps.boxHW hh rfl rfl ?_ ; intro s n hh))
          | (refine kOps ?_; first | (refine LOps.nil ?_) | (refine kG ?_; first | (refine LOps.gT rfl rfl rfl ?_) | (refine LOps.gF rfl rfl rfl ?_) | (refine LOps.gU rfl rfl ?_) | (refine LOps.gFN rfl rfl rfl ?_) | (refine LOps.gD true rfl rfl rfl ?_ ?_; (focus (first | (assumption) | (exact decide_eq_true (by assumption)) | (exact decide_eq_false (by assumption)) | (simp only [decide_eq_true_eq, decide_eq_false_iff_not, Bool.not_eq_true', Bool.not_eq_false', Int.ofNat_lt, Int.ofNat_le, Int.ofNat_inj, not_true_eq_false, not_false_eq_true]; omega) | (simp <;> fail)))) | (refine LOps.gD false rfl rfl rfl ?_ ?_; (focus (first | (assumption) | (exact decide_eq_true (by assumption)) | (exact decide_eq_false (by assumption)) | (simp only [decide_eq_true_eq, decide_eq_false_iff_not, Bool.not_eq_true', Bool.not_eq_false', Int.ofNat_lt, Int.ofNat_le, Int.ofNat_inj, not_true_eq_false, not_false_eq_true]; omega) | (simp <;> fail)))) | (refine LOps.gC rfl rfl rfl (fun h => ?_) (fun h => ?_))) | (refine LOps.ev tT_ok rfl ?_) | (refine kBox ?_; refine LOps.box rfl rfl rfl rfl ?_) | (refine kLoad ?_; first | (refine LOps.ans (AnsL.loadHW tT_ok 0 hh rfl rfl rfl rfl) ?_) | (refine LOps.ans (AnsL.loadHW tT_ok 1 hh rfl rfl rfl rfl) ?_) | (refine LOps.ans (AnsL.loadHW tT_ok 2 hh rfl rfl rfl rfl) ?_) | (refine LOps.ans (AnsL.loadHW tT_ok 3 hh rfl rfl rfl rfl) ?_) | (refine LOps.ans (AnsL.loadHW tT_ok 4 hh rfl rfl rfl rfl) ?_) | (refine LOps.ans (AnsL.loadHW tT_ok 5 hh rfl rfl rfl rfl) ?_) | (refine LOps.ans (AnsL.loadHW tT_ok 6 hh rfl rfl rfl rfl) ?_) | (refine LOps.ans (AnsL.loadHW tT_ok 7 hh rfl rfl rfl rfl) ?_) | (refine LOps.ans (AnsL.loadH tT_ok 0 hh rfl rfl rfl rfl) ?_) | (refine LOps.ans (AnsL.loadH tT_ok 1 hh rfl rfl rfl rfl) ?_) | (refine LOps.ans (AnsL.loadH tT_ok 2 hh rfl rfl rfl rfl) ?_) | (refine LOps.ans (AnsL.loadH tT_ok 3 hh rfl rfl rfl rfl) ?_) | (refine LOps.ans (AnsL.loadH tT_ok 4 hh rfl rfl rfl rfl) ?_) | (refine LOps.ans (AnsL.loadH tT_ok 5 hh rfl rfl rfl rfl) ?_) | (refine LOps.ans (AnsL.loadH tT_ok 6 hh rfl rfl rfl rfl) ?_) | (refine LOps.ans (AnsL.loadH tT_ok 7 hh rfl rfl rfl rfl) ?_) | (refine LOps.ans (AnsL.loadP tT_ok rfl rfl rfl rfl) ?_)) | (refine kLen ?_; first | (refine LOps.ans (AnsL.lenM tT_ok rfl rfl rfl) ?_) | (refine LOps.ans (AnsL.lenS tT_ok rfl rfl rfl rfl) ?_) | (refine LOps.ans (AnsL.lenG tT_ok rfl rfl rfl) ?_)) | (refine kBin ?_; first | (refine LOps.ans (AnsL.add rfl rfl ?_) ?_; (focus (constructor <;> omega))) | (refine LOps.ans (AnsL.mul rfl rfl ?_) ?_; (focus (constructor <;> omega))) | (refine LOps.ans (AnsL.arith rfl rfl rfl) ?_)) | (refine kIdx ?_; first | (refine LOps.ans (AnsL.idxZ tT_ok rfl rfl rfl rfl rfl hz hga rfl rfl) ?_) | (refine LOps.ans (AnsL.idxA tT_ok rfl rfl rfl rfl rfl (by omega) rfl rfl) ?_) | (refine LOps.ans (AnsL.idxM tT_ok rfl rfl rfl rfl rfl ?_) ?_; (focus (omega))) | (refine LOps.ans (AnsL.idxZ tT_ok rfl rfl rfl rfl rfl ?_ rfl rfl rfl) ?_; (focus (decide)))))
          | (refine kWL ?_; first | (refine WL.seq ?_) | (refine WL.region (by kernel_rfl) ?_) | (refine WL.block ?_) | (refine WL.exit ?_) | (refine WL.skip ?_) | (refine WL.ret ?_) | (refine kCond ?_; first | (refine WL.condT rfl ?_) | (refine WL.condF rfl ?_) | (refine WL.condT' rfl ?_ ?_; (focus (first | (assumption) | (exact decide_eq_true (by assumption)) | (exact decide_eq_false (by assumption)) | (simp only [decide_eq_true_eq, decide_eq_false_iff_not, Bool.not_eq_true', Bool.not_eq_false', Int.ofNat_lt, Int.ofNat_le, Int.ofNat_inj, not_true_eq_false, not_false_eq_true]; omega) | (simp <;> fail)))) | (refine WL.condF' rfl ?_ ?_; (focus (first | (assumption) | (exact decide_eq_true (by assumption)) | (exact decide_eq_false (by assumption)) | (simp only [decide_eq_true_eq, decide_eq_false_iff_not, Bool.not_eq_true', Bool.not_eq_false', Int.ofNat_lt, Int.ofNat_le, Int.ofNat_inj, not_true_eq_false, not_false_eq_true]; omega) | (simp <;> fail)))) | (refine WL.cond rfl (fun h => ?_) (fun h => ?_))))
          | (refine lthen_n ?_)
          | (refine lthen_r ?_)
          | (refine lthen_e ?_)
          | (refine lblock_n ?_)
          | (refine lblock_r ?_)
          | (refine lblock_e ?_)
          | (refine lblock_o rfl ?_)
          | (refine lback_r ?_)
          | (refine lback_e ?_)
          | (refine lbackD_r ?_)
          | (refine lbackD_e ?_)
          | (refine lbackH_r ?_)
          | (refine lbackH_e ?_)
          | (refine LPost.r1 (r := .tmp 2) (.inl rfl) (Res1.tmp rfl) ?_)
          | (refine PureR.mk ?_)
        exact ⟨_, _, _, rfl, rfl, hh⟩
    · skip
      repeat' first
        | (refine kBox ?_ ; first | (refine LOps.boxH hh rfl rfl ?_ ; intro s n hh) | (refine LOps.boxHW hh rfl rfl ?_ ; intro s n hh))
        | (refine kOps ?_; first | (refine LOps.nil ?_) | (refine kG ?_; first | (refine LOps.gT rfl rfl rfl ?_) | (refine LOps.gF rfl rfl rfl ?_) | (refine LOps.gU rfl rfl ?_) | (refine LOps.gFN rfl rfl rfl ?_) | (refine LOps.gD true rfl rfl rfl ?_ ?_; (focus (first | (assumption) | (exact decide_eq_true (by assumption)) | (exact decide_eq_false (by assumption)) | (simp only [decide_eq_true_eq, decide_eq_false_iff_not, Bool.not_eq_true', Bool.not_eq_false', Int.ofNat_lt, Int.ofNat_le, Int.ofNat_inj, not_true_eq_false, not_false_eq_true]; omega) | (simp <;> fail)))) | (refine LOps.gD false rfl rfl rfl ?_ ?_; (focus (first | (assumption) | (exact decide_eq_true (by assumption)) | (exact decide_eq_false (by assumption)) | (simp only [decide_eq_true_eq, decide_eq_false_iff_not, Bool.not_eq_true', Bool.not_eq_false', Int.ofNat_lt, Int.ofNat_le, Int.ofNat_inj, not_true_eq_false, not_false_eq_true]; omega) | (simp <;> fail)))) | (refine LOps.gC rfl rfl rfl (fun h => ?_) (fun h => ?_))) | (refine LOps.ev tT_ok rfl ?_) | (refine kBox ?_; refine LOps.box rfl rfl rfl rfl ?_) | (refine kLoad ?_; first | (refine LOps.ans (AnsL.loadHW tT_ok 0 hh rfl rfl rfl rfl) ?_) | (refine LOps.ans (AnsL.loadHW tT_ok 1 hh rfl rfl rfl rfl) ?_) | (refine LOps.ans (AnsL.loadHW tT_ok 2 hh rfl rfl rfl rfl) ?_) | (refine LOps.ans (AnsL.loadHW tT_ok 3 hh rfl rfl rfl rfl) ?_) | (refine LOps.ans (AnsL.loadHW tT_ok 4 hh rfl rfl rfl rfl) ?_) | (refine LOps.ans (AnsL.loadHW tT_ok 5 hh rfl rfl rfl rfl) ?_) | (refine LOps.ans (AnsL.loadHW tT_ok 6 hh rfl rfl rfl rfl) ?_) | (refine LOps.ans (AnsL.loadHW tT_ok 7 hh rfl rfl rfl rfl) ?_) | (refine LOps.ans (AnsL.loadH tT_ok 0 hh rfl rfl rfl rfl) ?_) | (refine LOps.ans (AnsL.loadH tT_ok 1 hh rfl rfl rfl rfl) ?_) | (refine LOps.ans (AnsL.loadH tT_ok 2 hh rfl rfl rfl rfl) ?_) | (refine LOps.ans (AnsL.loadH tT_ok 3 hh rfl rfl rfl rfl) ?_) | (refine LOps.ans (AnsL.loadH tT_ok 4 hh rfl rfl rfl rfl) ?_) | (refine LOps.ans (AnsL.loadH tT_ok 5 hh rfl rfl rfl rfl) ?_) | (refine LOps.ans (AnsL.loadH tT_ok 6 hh rfl rfl rfl rfl) ?_) | (refine LOps.ans (AnsL.loadH tT_ok 7 hh rfl rfl rfl rfl) ?_) | (refine LOps.ans (AnsL.loadP tT_ok rfl rfl rfl rfl) ?_)) | (refine kLen ?_; first | (refine LOps.ans (AnsL.lenM tT_ok rfl rfl rfl) ?_) | (refine LOps.ans (AnsL.lenS tT_ok rfl rfl rfl rfl) ?_) | (refine LOps.ans (AnsL.lenG tT_ok rfl rfl rfl) ?_)) | (refine kBin ?_; first | (refine LOps.ans (AnsL.add rfl rfl ?_) ?_; (focus (constructor <;> omega))) | (refine LOps.ans (AnsL.mul rfl rfl ?_) ?_; (focus (constructor <;> omega))) | (refine LOps.ans (AnsL.arith rfl rfl rfl) ?_)) | (refine kIdx ?_; first | (refine LOps.ans (AnsL.idxA tT_ok rfl rfl rfl rfl rfl (by omega) rfl rfl) ?_) | (refine LOps.ans (AnsL.idxM tT_ok rfl rfl rfl rfl rfl ?_) ?_; (focus (omega))) | (refine LOps.ans (AnsL.idxZ tT_ok rfl rfl rfl rfl rfl ?_ rfl rfl rfl) ?_; (focus (decide)))))
        | (refine kWL ?_; first | (refine WL.seq ?_) | (refine WL.region (by kernel_rfl) ?_) | (refine WL.block ?_) | (refine WL.exit ?_) | (refine WL.skip ?_) | (refine WL.ret ?_) | (refine kCond ?_; first | (refine WL.condT rfl ?_) | (refine WL.condF rfl ?_) | (refine WL.condT' rfl ?_ ?_; (focus (first | (assumption) | (exact decide_eq_true (by assumption)) | (exact decide_eq_false (by assumption)) | (simp only [decide_eq_true_eq, decide_eq_false_iff_not, Bool.not_eq_true', Bool.not_eq_false', Int.ofNat_lt, Int.ofNat_le, Int.ofNat_inj, not_true_eq_false, not_false_eq_true]; omega) | (simp <;> fail)))) | (refine WL.condF' rfl ?_ ?_; (focus (first | (assumption) | (exact decide_eq_true (by assumption)) | (exact decide_eq_false (by assumption)) | (simp only [decide_eq_true_eq, decide_eq_false_iff_not, Bool.not_eq_true', Bool.not_eq_false', Int.ofNat_lt, Int.ofNat_le, Int.ofNat_inj, not_true_eq_false, not_false_eq_true]; omega) | (simp <;> fail)))) | (refine WL.cond rfl (fun h => ?_) (fun h => ?_))))
        | (refine lthen_n ?_)
        | (refine lthen_r ?_)
        | (refine lthen_e ?_)
        | (refine lblock_n ?_)
        | (refine lblock_r ?_)
        | (refine lblock_e ?_)
        | (refine lblock_o rfl ?_)
        | (refine lback_r ?_)
        | (refine lback_e ?_)
        | (refine lbackD_r ?_)
        | (refine lbackD_e ?_)
        | (refine lbackH_r ?_)
        | (refine lbackH_e ?_)
        | (refine LPost.r1 (r := .tmp 2) (.inl rfl) (Res1.tmp rfl) ?_)
        | (refine PureR.mk ?_)
      exact ⟨_, _, _, rfl, rfl, hh⟩

end Go.Proofs.YtpnabgllpgodmaaDoor
