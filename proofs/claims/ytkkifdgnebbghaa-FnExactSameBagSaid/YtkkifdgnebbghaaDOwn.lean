/-
  Copies as results of new memory alone. Printed by a program of our own; no condition.
-/
import Derived.Test.YtkkifdgnebbghaaVFill
import Derived.Test.YtkkifdgnebbghaaDMark
import Derived.Test.YtkkifdgnebbghaaDRow
namespace Go.Proofs.Ytkkifdgnebbghaa
open Go
set_option linter.unusedSimpArgs false
set_option linter.unusedVariables false

theorem toValS_o (xs : List Val) (h : slW Val.wt xs ≤ 1048576) (s : S) : VCalls Try.prog 12 [.sl 0 (xs.map Val.toV)] s (fun v t => Own2 (.sl 0 (xs.map Val.toV)) v t) := by
  have hl := len_slW Val.wt xs
  refine LCalls.body Try.func12 rfl (by kernel_rfl) ?_
  repeat' first
    | (refine kOps ?_; first | (refine LOps.nil ?_) | (refine kStore ?_; refine LOps.storeP tT_ok rfl rfl rfl rfl rfl rfl rfl rfl rfl ?_) | (refine LOps.ev tT_ok rfl ?_) | (refine kMake ?_; first | (refine LOps.make tT_ok rfl rfl rfl rfl rfl rfl rfl rfl (AppB.of ?_ rfl) ?_; (focus (first | omega | (simp <;> fail) | (simp; omega)))) | (refine LOps.make tT_ok rfl rfl rfl rfl rfl rfl rfl rfl (AppB.ofW ?_ rfl) ?_; (focus (first | omega | (simp <;> fail) | (simp; omega))))) | (refine kLoad ?_; first | (refine LOps.ans (AnsL.loadP tT_ok rfl rfl rfl rfl) ?_)) | (refine kLen ?_; first | (refine LOps.ans (AnsL.lenM tT_ok rfl rfl rfl) ?_) | (refine LOps.ans (AnsL.lenS tT_ok rfl rfl rfl rfl) ?_) | (refine LOps.ans (AnsL.lenG tT_ok rfl rfl rfl) ?_)) | (refine kBin ?_; first | (refine LOps.ans (AnsL.add rfl rfl ?_) ?_; (focus (constructor <;> omega))) | (refine LOps.ans (AnsL.arith rfl rfl rfl) ?_)) | (refine kIdx ?_; first | (refine LOps.ans (AnsL.idxA tT_ok rfl rfl rfl rfl rfl (by omega) rfl rfl) ?_) | (refine LOps.ans (AnsL.idxM tT_ok rfl rfl rfl rfl rfl ?_) ?_; (focus (omega))) | (refine LOps.ans (AnsL.idxZ tT_ok rfl rfl rfl rfl rfl ?_ rfl rfl rfl) ?_; (focus (decide)))) | (refine kCallN 20 ?_; first | (refine LOps.ans (AnsL.callP rfl rfl rfl (ok20) (toVal_v _ ?_ _)) ?_; (focus (omega)))))
    | (refine kWL ?_; first | (refine WL.seq ?_) | (refine WL.region (by kernel_rfl) ?_) | (refine WL.block ?_) | (refine WL.exit ?_) | (refine WL.skip ?_) | (refine WL.ret ?_) | (refine kCond ?_; first | (refine WL.condT rfl ?_) | (refine WL.condF rfl ?_) | (refine WL.condT' rfl ?_ ?_; (focus (first | (assumption) | (exact decide_eq_true (by assumption)) | (exact decide_eq_false (by assumption)) | (simp only [decide_eq_true_eq, decide_eq_false_iff_not, Bool.not_eq_true', Bool.not_eq_false', Int.ofNat_lt, Int.ofNat_le, Int.ofNat_inj, not_true_eq_false, not_false_eq_true]; omega) | (simp <;> fail)))) | (refine WL.condF' rfl ?_ ?_; (focus (first | (assumption) | (exact decide_eq_true (by assumption)) | (exact decide_eq_false (by assumption)) | (simp only [decide_eq_true_eq, decide_eq_false_iff_not, Bool.not_eq_true', Bool.not_eq_false', Int.ofNat_lt, Int.ofNat_le, Int.ofNat_inj, not_true_eq_false, not_false_eq_true]; omega) | (simp <;> fail)))) | (refine WL.cond rfl (fun h => ?_) (fun h => ?_))))
    | (refine lthen_n ?_)
    | (refine lthen_r ?_)
    | (refine lthen_e ?_)
    | (refine lblock_n ?_)
    | (refine lblock_r ?_)
    | (refine lblock_e ?_)
    | (refine lblock_o rfl ?_)
    | (refine lback_r ?_)
    | (refine lback_e ?_)
    | (refine lbackD_r ?_)
    | (refine lbackD_e ?_)
    | (refine lbackH_r ?_)
    | (refine lbackH_e ?_)
    | (refine LPost.r1 (r := .tmp 2) (.inl rfl) (Res1.tmp rfl) ?_)
    | (refine PureR.mk ?_)
  refine WL.loopD (fun i : Nat => xs.length - i) (fun i => [(0, .sl 0 (xs.map Val.toV)), (3, .slm .eq (s.next + 0) 0 xs.length), (4, .int .i64 (i : Int))]) (fun i => [.var (filled [.int .i64 0, .int .i64 0, .str []] xs.length ((xs.map Val.toV).take i))])
    (fun i => i ≤ xs.length) 1 0 (by simp) (fun _ => rfl) ⟨rfl, rfl, rfl, trivial⟩ (by rw [List.take_zero, filled_nil]) (fun i hi => ?_) (fun i hi => ?_)
  · refine ⟨by simp [UnderK, V.under], ?_⟩
    simp only [UnderX, List.all_cons, List.all_nil, Own.under, Bool.and_true]
    exact under_filled (by rfl) (by rw [List.all_eq_true]; intro v hv; obtain ⟨x, _, rfl⟩ := List.mem_map.1 (List.mem_of_mem_take hv); exact under_dat (by simp))
  rcases Nat.lt_or_ge i xs.length with hlt | hge
  · have hm := mem_slW (f := Val.wt) hlt
    repeat' first
      | (refine kStore ?_ ; refine LOps.storeF tT_ok (filled [.int .i64 0, .int .i64 0, .str []] xs.length ((xs.map Val.toV).take (i + 1))) rfl rfl rfl rfl rfl rfl rfl rfl ?_ ?_ ?_ ; (focus (rw [filled_take_length (f := Val.toV) (z := [.int .i64 0, .int .i64 0, .str []]) hi (fun _ => rfl)] ; exact mul_room (k := 3) hlt)) ; (focus (rw [Nat.zero_add] ; exact filled_step (f := Val.toV) (z := [.int .i64 0, .int .i64 0, .str []]) hlt (fun _ => rfl))))
      | (refine kOps ?_; first | (refine LOps.nil ?_) | (refine kStore ?_; refine LOps.storeP tT_ok rfl rfl rfl rfl rfl rfl rfl rfl rfl ?_) | (refine LOps.ev tT_ok rfl ?_) | (refine kMake ?_; first | (refine LOps.make tT_ok rfl rfl rfl rfl rfl rfl rfl rfl (AppB.of ?_ rfl) ?_; (focus (first | omega | (simp <;> fail) | (simp; omega)))) | (refine LOps.make tT_ok rfl rfl rfl rfl rfl rfl rfl rfl (AppB.ofW ?_ rfl) ?_; (focus (first | omega | (simp <;> fail) | (simp; omega))))) | (refine kLoad ?_; first | (refine LOps.ans (AnsL.loadP tT_ok rfl rfl rfl rfl) ?_)) | (refine kLen ?_; first | (refine LOps.ans (AnsL.lenM tT_ok rfl rfl rfl) ?_) | (refine LOps.ans (AnsL.lenS tT_ok rfl rfl rfl rfl) ?_) | (refine LOps.ans (AnsL.lenG tT_ok rfl rfl rfl) ?_)) | (refine kBin ?_; first | (refine LOps.ans (AnsL.add rfl rfl ?_) ?_; (focus (constructor <;> omega))) | (refine LOps.ans (AnsL.arith rfl rfl rfl) ?_)) | (refine kIdx ?_; first | (refine LOps.ans (AnsL.idxA tT_ok rfl rfl rfl rfl rfl (by omega) rfl rfl) ?_) | (refine LOps.ans (AnsL.idxM tT_ok rfl rfl rfl rfl rfl ?_) ?_; (focus (omega))) | (refine LOps.ans (AnsL.idxZ tT_ok rfl rfl rfl rfl rfl ?_ rfl rfl rfl) ?_; (focus (decide)))) | (refine kCallN 20 ?_; first | (refine LOps.ans (AnsL.callP rfl rfl rfl (ok20) (toVal_v _ ?_ _)) ?_; (focus (omega)))))
      | (refine kWL ?_; first | (refine WL.seq ?_) | (refine WL.region (by kernel_rfl) ?_) | (refine WL.block ?_) | (refine WL.exit ?_) | (refine WL.skip ?_) | (refine WL.ret ?_) | (refine kCond ?_; first | (refine WL.condT rfl ?_) | (refine WL.condF rfl ?_) | (refine WL.condT' rfl ?_ ?_; (focus (first | (assumption) | (exact decide_eq_true (by assumption)) | (exact decide_eq_false (by assumption)) | (simp only [decide_eq_true_eq, decide_eq_false_iff_not, Bool.not_eq_true', Bool.not_eq_false', Int.ofNat_lt, Int.ofNat_le, Int.ofNat_inj, not_true_eq_false, not_false_eq_true]; omega) | (simp <;> fail)))) | (refine WL.condF' rfl ?_ ?_; (focus (first | (assumption) | (exact decide_eq_true (by assumption)) | (exact decide_eq_false (by assumption)) | (simp only [decide_eq_true_eq, decide_eq_false_iff_not, Bool.not_eq_true', Bool.not_eq_false', Int.ofNat_lt, Int.ofNat_le, Int.ofNat_inj, not_true_eq_false, not_false_eq_true]; omega) | (simp <;> fail)))) | (refine WL.cond rfl (fun h => ?_) (fun h => ?_))))
      | (refine lthen_n ?_)
      | (refine lthen_r ?_)
      | (refine lthen_e ?_)
      | (refine lblock_n ?_)
      | (refine lblock_r ?_)
      | (refine lblock_e ?_)
      | (refine lblock_o rfl ?_)
      | (refine lback_r ?_)
      | (refine lback_e ?_)
      | (refine lbackD_r ?_)
      | (refine lbackD_e ?_)
      | (refine lbackH_r ?_)
      | (refine lbackH_e ?_)
      | (refine LPost.r1 (r := .tmp 2) (.inl rfl) (Res1.tmp rfl) ?_)
      | (refine PureR.mk ?_)
    all_goals
      refine lbackD.of (i + 1) ?_ ?_ ?_ ?_
      · first | omega | (refine ⟨?_, ?_⟩; (focus (first | omega | (simp; omega))); (first | omega | (simp_all [] <;> fail) | (simp_all []; omega))) | (simp_all [] <;> fail) | (simp_all []; omega)
      · first | omega | (simp; omega) | simp_all
      · repeat' first
          | exact SubL.nil
          | (refine SubL.mk rfl ?_ ?_)
          | rfl
          | (simp [] <;> fail)
          | (simp []; omega)
      · first | rfl | (simp [] <;> fail) | (simp []; omega)
  · have hi2 : i = xs.length := by omega
    subst hi2
    repeat' first
      | (refine kOps ?_; first | (refine LOps.nil ?_) | (refine kStore ?_; refine LOps.storeP tT_ok rfl rfl rfl rfl rfl rfl rfl rfl rfl ?_) | (refine LOps.ev tT_ok rfl ?_) | (refine kMake ?_; first | (refine LOps.make tT_ok rfl rfl rfl rfl rfl rfl rfl rfl (AppB.of ?_ rfl) ?_; (focus (first | omega | (simp <;> fail) | (simp; omega)))) | (refine LOps.make tT_ok rfl rfl rfl rfl rfl rfl rfl rfl (AppB.ofW ?_ rfl) ?_; (focus (first | omega | (simp <;> fail) | (simp; omega))))) | (refine kLoad ?_; first | (refine LOps.ans (AnsL.loadP tT_ok rfl rfl rfl rfl) ?_)) | (refine kLen ?_; first | (refine LOps.ans (AnsL.lenM tT_ok rfl rfl rfl) ?_) | (refine LOps.ans (AnsL.lenS tT_ok rfl rfl rfl rfl) ?_) | (refine LOps.ans (AnsL.lenG tT_ok rfl rfl rfl) ?_)) | (refine kBin ?_; first | (refine LOps.ans (AnsL.add rfl rfl ?_) ?_; (focus (constructor <;> omega))) | (refine LOps.ans (AnsL.arith rfl rfl rfl) ?_)) | (refine kIdx ?_; first | (refine LOps.ans (AnsL.idxA tT_ok rfl rfl rfl rfl rfl (by omega) rfl rfl) ?_) | (refine LOps.ans (AnsL.idxM tT_ok rfl rfl rfl rfl rfl ?_) ?_; (focus (omega))) | (refine LOps.ans (AnsL.idxZ tT_ok rfl rfl rfl rfl rfl ?_ rfl rfl rfl) ?_; (focus (decide)))) | (refine kCallN 20 ?_; first | (refine LOps.ans (AnsL.callP rfl rfl rfl (ok20) (toVal_v _ ?_ _)) ?_; (focus (omega)))))
      | (refine kWL ?_; first | (refine WL.seq ?_) | (refine WL.region (by kernel_rfl) ?_) | (refine WL.block ?_) | (refine WL.exit ?_) | (refine WL.skip ?_) | (refine WL.ret ?_) | (refine kCond ?_; first | (refine WL.condT rfl ?_) | (refine WL.condF rfl ?_) | (refine WL.condT' rfl ?_ ?_; (focus (first | (assumption) | (exact decide_eq_true (by assumption)) | (exact decide_eq_false (by assumption)) | (simp only [decide_eq_true_eq, decide_eq_false_iff_not, Bool.not_eq_true', Bool.not_eq_false', Int.ofNat_lt, Int.ofNat_le, Int.ofNat_inj, not_true_eq_false, not_false_eq_true]; omega) | (simp <;> fail)))) | (refine WL.condF' rfl ?_ ?_; (focus (first | (assumption) | (exact decide_eq_true (by assumption)) | (exact decide_eq_false (by assumption)) | (simp only [decide_eq_true_eq, decide_eq_false_iff_not, Bool.not_eq_true', Bool.not_eq_false', Int.ofNat_lt, Int.ofNat_le, Int.ofNat_inj, not_true_eq_false, not_false_eq_true]; omega) | (simp <;> fail)))) | (refine WL.cond rfl (fun h => ?_) (fun h => ?_))))
      | (refine lthen_n ?_)
      | (refine lthen_r ?_)
      | (refine lthen_e ?_)
      | (refine lblock_n ?_)
      | (refine lblock_r ?_)
      | (refine lblock_e ?_)
      | (refine lblock_o rfl ?_)
      | (refine lback_r ?_)
      | (refine lback_e ?_)
      | (refine lbackD_r ?_)
      | (refine lbackD_e ?_)
      | (refine lbackH_r ?_)
      | (refine lbackH_e ?_)
      | (refine LPost.r1 (r := .tmp 2) (.inl rfl) (Res1.tmp rfl) ?_)
      | (refine PureR.mk ?_)
    rw [filled_all]
    exact Own2.flat (f := Val.toV) 3 rfl (fun _ => rfl) (fun _ => rfl)
theorem toValSS_o (xs : List (List Val)) (h : slW (slW Val.wt) xs ≤ 1048576) (s : S) : VCalls Try.prog 6 [.sl 0 (xs.map Val.toVS)] s (fun v t => Own2 (.sl 0 (xs.map Val.toVS)) v t) := by
  have hl := len_slW (slW Val.wt) xs
  have hcl : ∀ x ∈ xs.map Val.toVS, x.cells.length = 1 := by
    intro v hv
    obtain ⟨x, _, rfl⟩ := List.mem_map.1 hv
    rfl
  refine LCalls.body Try.func6 rfl (by kernel_rfl) ?_
  repeat' first
    | (refine kOps ?_; first | (refine LOps.nil ?_) | (refine kStore ?_; refine LOps.storeP tT_ok rfl rfl rfl rfl rfl rfl rfl rfl rfl ?_) | (refine LOps.ev tT_ok rfl ?_) | (refine kMake ?_; first | (refine LOps.make tT_ok rfl rfl rfl rfl rfl rfl rfl rfl (AppB.of ?_ rfl) ?_; (focus (first | omega | (simp <;> fail) | (simp; omega)))) | (refine LOps.make tT_ok rfl rfl rfl rfl rfl rfl rfl rfl (AppB.ofW ?_ rfl) ?_; (focus (first | omega | (simp <;> fail) | (simp; omega))))) | (refine kLoad ?_; first | (refine LOps.ans (AnsL.loadP tT_ok rfl rfl rfl rfl) ?_)) | (refine kLen ?_; first | (refine LOps.ans (AnsL.lenM tT_ok rfl rfl rfl) ?_) | (refine LOps.ans (AnsL.lenS tT_ok rfl rfl rfl rfl) ?_) | (refine LOps.ans (AnsL.lenG tT_ok rfl rfl rfl) ?_)) | (refine kBin ?_; first | (refine LOps.ans (AnsL.add rfl rfl ?_) ?_; (focus (constructor <;> omega))) | (refine LOps.ans (AnsL.arith rfl rfl rfl) ?_)) | (refine kIdx ?_; first | (refine LOps.ans (AnsL.idxA tT_ok rfl rfl rfl rfl rfl (by omega) rfl rfl) ?_) | (refine LOps.ans (AnsL.idxM tT_ok rfl rfl rfl rfl rfl ?_) ?_; (focus (omega))) | (refine LOps.ans (AnsL.idxZ tT_ok rfl rfl rfl rfl rfl ?_ rfl rfl rfl) ?_; (focus (decide)))) | (refine kCallN 12 ?_; first | (refine LOps.ans (AnsL.callP rfl rfl rfl (ok12) (toValS_v _ ?_ _)) ?_; (focus (omega)))))
    | (refine kWL ?_; first | (refine WL.seq ?_) | (refine WL.region (by kernel_rfl) ?_) | (refine WL.block ?_) | (refine WL.exit ?_) | (refine WL.skip ?_) | (refine WL.ret ?_) | (refine kCond ?_; first | (refine WL.condT rfl ?_) | (refine WL.condF rfl ?_) | (refine WL.condT' rfl ?_ ?_; (focus (first | (assumption) | (exact decide_eq_true (by assumption)) | (exact decide_eq_false (by assumption)) | (simp only [decide_eq_true_eq, decide_eq_false_iff_not, Bool.not_eq_true', Bool.not_eq_false', Int.ofNat_lt, Int.ofNat_le, Int.ofNat_inj, not_true_eq_false, not_false_eq_true]; omega) | (simp <;> fail)))) | (refine WL.condF' rfl ?_ ?_; (focus (first | (assumption) | (exact decide_eq_true (by assumption)) | (exact decide_eq_false (by assumption)) | (simp only [decide_eq_true_eq, decide_eq_false_iff_not, Bool.not_eq_true', Bool.not_eq_false', Int.ofNat_lt, Int.ofNat_le, Int.ofNat_inj, not_true_eq_false, not_false_eq_true]; omega) | (simp <;> fail)))) | (refine WL.cond rfl (fun h => ?_) (fun h => ?_))))
    | (refine lthen_n ?_)
    | (refine lthen_r ?_)
    | (refine lthen_e ?_)
    | (refine lblock_n ?_)
    | (refine lblock_r ?_)
    | (refine lblock_e ?_)
    | (refine lblock_o rfl ?_)
    | (refine lback_r ?_)
    | (refine lback_e ?_)
    | (refine lbackD_r ?_)
    | (refine lbackD_e ?_)
    | (refine lbackH_r ?_)
    | (refine lbackH_e ?_)
    | (refine LPost.r1 (r := .tmp 2) (.inl rfl) (Res1.tmp rfl) ?_)
    | (refine PureR.mk ?_)
  refine WL.loopFill (xs.map Val.toVS) [.nilsl] (fun i => [(0, .sl 0 (xs.map Val.toVS)), (3, .slm .eq (s.next + 0) 0 xs.length), (4, .int .i64 (i : Int))]) hcl (by rw [List.length_map]) ⟨rfl, rfl, rfl, trivial⟩ (fun i hi m B CA CZ hq hm => ?_) ?_
  · have hlt : i < xs.length := by simpa using hi
    have hd : (xs.map Val.toVS)[i] = Val.toVS xs[i] := List.getElem_map ..
    have hg : (xs.map Val.toVS)[i]? = some (Val.toVS xs[i]) := by rw [List.getElem?_eq_getElem hi, hd]
    rw [hd]
    have hw := mem_slW (f := (slW Val.wt)) hlt
    have hE : ∀ t, VCalls Try.prog 12 [Val.toVS xs[i]] t (fun v t' => Own2 (Val.toVS xs[i]) v t') := fun t => toValS_o xs[i] (by omega) t
    have hp : (Val.toVS xs[i]).plain = true := plain_ValueS _
    generalize xs[i] = y at *
    repeat' first
      | (refine kCallN 12 ?_ ; refine LOps.lendE rfl rfl ok12 ?_ hE hm rfl ?_ ; (focus (exact plainL_cons hp rfl)))
      | (refine kStore ?_ ; refine LOps.storeX tT_ok hq rfl rfl rfl rfl rfl rfl rfl rfl ?_)
      | (refine kOps ?_; first | (refine LOps.nil ?_) | (refine kStore ?_; refine LOps.storeP tT_ok rfl rfl rfl rfl rfl rfl rfl rfl rfl ?_) | (refine LOps.ev tT_ok rfl ?_) | (refine kMake ?_; first | (refine LOps.make tT_ok rfl rfl rfl rfl rfl rfl rfl rfl (AppB.of ?_ rfl) ?_; (focus (first | omega | (simp <;> fail) | (simp; omega)))) | (refine LOps.make tT_ok rfl rfl rfl rfl rfl rfl rfl rfl (AppB.ofW ?_ rfl) ?_; (focus (first | omega | (simp <;> fail) | (simp; omega))))) | (refine kLoad ?_; first | (refine LOps.ans (AnsL.loadP tT_ok rfl rfl rfl rfl) ?_)) | (refine kLen ?_; first | (refine LOps.ans (AnsL.lenM tT_ok rfl rfl rfl) ?_) | (refine LOps.ans (AnsL.lenS tT_ok rfl rfl rfl rfl) ?_) | (refine LOps.ans (AnsL.lenG tT_ok rfl rfl rfl) ?_)) | (refine kBin ?_; first | (refine LOps.ans (AnsL.add rfl rfl ?_) ?_; (focus (constructor <;> omega))) | (refine LOps.ans (AnsL.arith rfl rfl rfl) ?_)) | (refine kIdx ?_; first | (refine LOps.ans (AnsL.idx tT_ok rfl rfl rfl rfl rfl hg rfl rfl) ?_) | (refine LOps.ans (AnsL.idxA tT_ok rfl rfl rfl rfl rfl (by omega) rfl rfl) ?_) | (refine LOps.ans (AnsL.idxM tT_ok rfl rfl rfl rfl rfl ?_) ?_; (focus (omega))) | (refine LOps.ans (AnsL.idxZ tT_ok rfl rfl rfl rfl rfl ?_ rfl rfl rfl) ?_; (focus (decide)))))
      | (refine kWL ?_; first | (refine WL.seq ?_) | (refine WL.region (by kernel_rfl) ?_) | (refine WL.block ?_) | (refine WL.exit ?_) | (refine WL.skip ?_) | (refine WL.ret ?_) | (refine kCond ?_; first | (refine WL.condT rfl ?_) | (refine WL.condF rfl ?_) | (refine WL.condT' rfl ?_ ?_; (focus (first | (assumption) | (exact decide_eq_true (by assumption)) | (exact decide_eq_false (by assumption)) | (simp only [decide_eq_true_eq, decide_eq_false_iff_not, Bool.not_eq_true', Bool.not_eq_false', Int.ofNat_lt, Int.ofNat_le, Int.ofNat_inj, not_true_eq_false, not_false_eq_true]; omega) | (simp <;> fail)))) | (refine WL.condF' rfl ?_ ?_; (focus (first | (assumption) | (exact decide_eq_true (by assumption)) | (exact decide_eq_false (by assumption)) | (simp only [decide_eq_true_eq, decide_eq_false_iff_not, Bool.not_eq_true', Bool.not_eq_false', Int.ofNat_lt, Int.ofNat_le, Int.ofNat_inj, not_true_eq_false, not_false_eq_true]; omega) | (simp <;> fail)))) | (refine WL.cond rfl (fun h => ?_) (fun h => ?_))))
      | (refine lthen_n ?_)
      | (refine lthen_r ?_)
      | (refine lthen_e ?_)
      | (refine lblock_n ?_)
      | (refine lblock_r ?_)
      | (refine lblock_e ?_)
      | (refine lblock_o rfl ?_)
      | (refine lback_r ?_)
      | (refine lback_e ?_)
      | (refine lbackD_r ?_)
      | (refine lbackD_e ?_)
      | (refine lbackH_r ?_)
      | (refine lbackH_e ?_)
      | (refine LPost.r1 (r := .tmp 2) (.inl rfl) (Res1.tmp rfl) ?_)
      | (refine PureR.mk ?_)
    exact ⟨rfl, ⟨rfl, rfl, rfl, trivial⟩, rfl⟩
  · skip
    repeat' first
      | (refine lfin_e ?_)
      | (refine kOps ?_; first | (refine LOps.nil ?_) | (refine kStore ?_; refine LOps.storeP tT_ok rfl rfl rfl rfl rfl rfl rfl rfl rfl ?_) | (refine LOps.ev tT_ok rfl ?_) | (refine kMake ?_; first | (refine LOps.make tT_ok rfl rfl rfl rfl rfl rfl rfl rfl (AppB.of ?_ rfl) ?_; (focus (first | omega | (simp <;> fail) | (simp; omega)))) | (refine LOps.make tT_ok rfl rfl rfl rfl rfl rfl rfl rfl (AppB.ofW ?_ rfl) ?_; (focus (first | omega | (simp <;> fail) | (simp; omega))))) | (refine kLoad ?_; first | (refine LOps.ans (AnsL.loadP tT_ok rfl rfl rfl rfl) ?_)) | (refine kLen ?_; first | (refine LOps.ans (AnsL.lenM tT_ok rfl rfl rfl) ?_) | (refine LOps.ans (AnsL.lenS tT_ok rfl rfl rfl rfl) ?_) | (refine LOps.ans (AnsL.lenG tT_ok rfl rfl rfl) ?_)) | (refine kBin ?_; first | (refine LOps.ans (AnsL.add rfl rfl ?_) ?_; (focus (constructor <;> omega))) | (refine LOps.ans (AnsL.arith rfl rfl rfl) ?_)) | (refine kIdx ?_; first | (refine LOps.ans (AnsL.idxA tT_ok rfl rfl rfl rfl rfl (by omega) rfl rfl) ?_) | (refine LOps.ans (AnsL.idxM tT_ok rfl rfl rfl rfl rfl ?_) ?_; (focus (omega))) | (refine LOps.ans (AnsL.idxZ tT_ok rfl rfl rfl rfl rfl ?_ rfl rfl rfl) ?_; (focus (decide)))) | (refine kCallN 12 ?_; first | (refine LOps.ans (AnsL.callP rfl rfl rfl (ok12) (toValS_v _ ?_ _)) ?_; (focus (omega)))))
      | (refine kWL ?_; first | (refine WL.seq ?_) | (refine WL.region (by kernel_rfl) ?_) | (refine WL.block ?_) | (refine WL.exit ?_) | (refine WL.skip ?_) | (refine WL.ret ?_) | (refine kCond ?_; first | (refine WL.condT rfl ?_) | (refine WL.condF rfl ?_) | (refine WL.condT' rfl ?_ ?_; (focus (first | (assumption) | (exact decide_eq_true (by assumption)) | (exact decide_eq_false (by assumption)) | (simp only [decide_eq_true_eq, decide_eq_false_iff_not, Bool.not_eq_true', Bool.not_eq_false', Int.ofNat_lt, Int.ofNat_le, Int.ofNat_inj, not_true_eq_false, not_false_eq_true]; omega) | (simp <;> fail)))) | (refine WL.condF' rfl ?_ ?_; (focus (first | (assumption) | (exact decide_eq_true (by assumption)) | (exact decide_eq_false (by assumption)) | (simp only [decide_eq_true_eq, decide_eq_false_iff_not, Bool.not_eq_true', Bool.not_eq_false', Int.ofNat_lt, Int.ofNat_le, Int.ofNat_inj, not_true_eq_false, not_false_eq_true]; omega) | (simp <;> fail)))) | (refine WL.cond rfl (fun h => ?_) (fun h => ?_))))
      | (refine lthen_n ?_)
      | (refine lthen_r ?_)
      | (refine lthen_e ?_)
      | (refine lblock_n ?_)
      | (refine lblock_r ?_)
      | (refine lblock_e ?_)
      | (refine lblock_o rfl ?_)
      | (refine lback_r ?_)
      | (refine lback_e ?_)
      | (refine lbackD_r ?_)
      | (refine lbackD_e ?_)
      | (refine lbackH_r ?_)
      | (refine lbackH_e ?_)
      | (refine LPost.r1 (r := .tmp 2) (.inl rfl) (Res1.tmp rfl) ?_)
      | (refine PureR.mk ?_)
    have hpl := plain_ValueSS xs
    simp only [V.plain, Bool.and_eq_true] at hpl
    exact Own2.filled (by rw [List.length_map]) hpl.2 hcl

end Go.Proofs.Ytkkifdgnebbghaa
