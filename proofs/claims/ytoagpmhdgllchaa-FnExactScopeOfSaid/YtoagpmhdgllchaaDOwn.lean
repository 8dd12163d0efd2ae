/-
  Copies as results of new memory alone. Printed by a program of our own; no condition.
-/
import Derived.Test.YtoagpmhdgllchaaVFill
import Derived.Test.YtoagpmhdgllchaaDMark
import Derived.Test.YtoagpmhdgllchaaDRow
namespace Go.Proofs.Ytoagpmhdgllchaa
open Go
set_option linter.unusedSimpArgs false
set_option linter.unusedVariables false

theorem toColS_o (xs : List Col) (h : slW Col.wt xs ≤ 1048576) (s : S) : VCalls Try.prog 80 [.sl 0 (xs.map Col.toV)] s (fun v t => Own2 (.sl 0 (xs.map Col.toV)) v t) := by
  have hl := len_slW Col.wt xs
  refine LCalls.body Try.func80 rfl (by kernel_rfl) ?_
  repeat' first
    | (refine kOps ?_; first | (refine LOps.nil ?_) | (refine LOps.ev tT_ok rfl ?_) | (refine kMake ?_; first | (refine LOps.make tT_ok rfl rfl rfl rfl rfl rfl rfl rfl (AppB.of ?_ rfl) ?_; (focus (first | omega)))) | (refine kLen ?_; first | (refine LOps.ans (AnsL.lenM tT_ok rfl rfl rfl) ?_)))
    | (refine kWL ?_; first | (refine WL.seq ?_) | (refine WL.region (by kernel_rfl) ?_) | (refine WL.block ?_))
    | (refine lthen_n ?_)
  refine WL.loopD (fun i : Nat => xs.length - i) (fun i => [(0, .sl 0 (xs.map Col.toV)), (3, .slm .eq (s.next + 0) 0 xs.length), (4, .int .i64 (i : Int))]) (fun i => [.var (filled [.str [], .int .i64 0] xs.length ((xs.map Col.toV).take i))])
    (fun i => i ≤ xs.length) 1 0 (by simp) (fun _ => rfl) ⟨rfl, rfl, rfl, trivial⟩ (by rw [List.take_zero, filled_nil]) (fun i hi => ?_) (fun i hi => ?_)
  · refine ⟨by simp [UnderK, V.under], ?_⟩
    simp only [UnderX, List.all_cons, List.all_nil, Own.under, Bool.and_true]
    exact under_filled (by rfl) (by rw [List.all_eq_true]; intro v hv; obtain ⟨x, _, rfl⟩ := List.mem_map.1 (List.mem_of_mem_take hv); exact under_dat (by simp))
  rcases Nat.lt_or_ge i xs.length with hlt | hge
  · have hm := mem_slW (f := Col.wt) hlt
    repeat' first
      | (refine kStore ?_ ; refine LOps.storeF tT_ok (filled [.str [], .int .i64 0] xs.length ((xs.map Col.toV).take (i + 1))) rfl rfl rfl rfl rfl rfl rfl rfl ?_ ?_ ?_ ; (focus (rw [filled_take_length (f := Col.toV) (z := [.str [], .int .i64 0]) hi (fun _ => rfl)] ; exact mul_room (k := 2) hlt)) ; (focus (rw [Nat.zero_add] ; exact filled_step (f := Col.toV) (z := [.str [], .int .i64 0]) hlt (fun _ => rfl))))
      | (refine kOps ?_; first | (refine LOps.nil ?_) | (refine LOps.ev tT_ok rfl ?_) | (refine kLen ?_; first | (refine LOps.ans (AnsL.lenM tT_ok rfl rfl rfl) ?_)) | (refine kBin ?_; first | (refine LOps.ans (AnsL.add rfl rfl ?_) ?_; (focus (constructor <;> omega)))) | (refine kIdx ?_; first | (refine LOps.ans (AnsL.idxA tT_ok rfl rfl rfl rfl rfl (by omega) rfl rfl) ?_) | (refine LOps.ans (AnsL.idxM tT_ok rfl rfl rfl rfl rfl ?_) ?_; (focus (omega)))) | (refine kCallN 88 ?_; first | (refine LOps.ans (AnsL.callP rfl rfl rfl (ok88) (toCol_v _ ?_ _)) ?_; (focus (omega)))))
      | (refine kWL ?_; first | (refine WL.seq ?_) | (refine WL.region (by kernel_rfl) ?_) | (refine WL.block ?_) | (refine WL.skip ?_) | (refine kCond ?_; first | (refine WL.condT' rfl ?_ ?_; (focus (first | (simp only [decide_eq_true_eq, decide_eq_false_iff_not, Bool.not_eq_true', Bool.not_eq_false', Int.ofNat_lt, Int.ofNat_le, Int.ofNat_inj, not_true_eq_false, not_false_eq_true]; omega))))))
      | (refine lthen_n ?_)
      | (refine lblock_n ?_)
    all_goals
      refine lbackD.of (i + 1) ?_ ?_ ?_ ?_
      · first | omega | (refine ⟨?_, ?_⟩; (focus (first | omega | (simp; omega))); (first | omega | (simp_all [] <;> fail) | (simp_all []; omega))) | (simp_all [] <;> fail) | (simp_all []; omega)
      · first | omega | (simp; omega) | simp_all
      · repeat' first
          | exact SubL.nil
          | (refine SubL.mk rfl ?_ ?_)
          | rfl
          | (simp [] <;> fail)
          | (simp []; omega)
      · first | rfl | (simp [] <;> fail) | (simp []; omega)
  · have hi2 : i = xs.length := by omega
    subst hi2
    repeat' first
      | (refine kOps ?_; first | (refine LOps.nil ?_) | (refine LOps.ev tT_ok rfl ?_) | (refine kLen ?_; first | (refine LOps.ans (AnsL.lenM tT_ok rfl rfl rfl) ?_)))
      | (refine kWL ?_; first | (refine WL.seq ?_) | (refine WL.region (by kernel_rfl) ?_) | (refine WL.exit ?_) | (refine WL.ret ?_) | (refine kCond ?_; first | (refine WL.condF' rfl ?_ ?_; (focus (first | (simp only [decide_eq_true_eq, decide_eq_false_iff_not, Bool.not_eq_true', Bool.not_eq_false', Int.ofNat_lt, Int.ofNat_le, Int.ofNat_inj, not_true_eq_false, not_false_eq_true]; omega))))))
      | (refine lthen_n ?_)
      | (refine lthen_e ?_)
      | (refine lblock_e ?_)
      | (refine lbackD_e ?_)
      | (refine LPost.r1 (r := .tmp 2) (.inl rfl) (Res1.tmp rfl) ?_)
    rw [filled_all]
    exact Own2.flat (f := Col.toV) 2 rfl (fun _ => rfl) (fun _ => rfl)
theorem toTab_o (x : Tab) (h : x.wt ≤ 1048576) (s : S) : VCalls Try.prog 63 [x.toV] s (fun v t => Own2 x.toV v t) := by
  simp only [Tab.wt] at h
  refine LCalls.body Try.func63 rfl (by kernel_rfl) ?_
  repeat' first
    | (refine kCallN 80 ?_ ; refine LOps.lendK rfl rfl rfl ok80 (VCalls.lend2 (RdL.plain _ (plainL_cons (plain_ColS x.cols) rfl)) fun t => toColS_o x.cols (by omega) t) rfl ?_)
    | (refine kStore ?_ ; first | (refine LOps.storeP tT_ok rfl rfl rfl rfl (thw_cellsO _ _ _) (thw_onesO _ _ _) rfl rfl rfl ?_) | (refine LOps.storeP tT_ok rfl rfl rfl rfl rfl ?_ rfl rfl rfl ?_ ; (focus (repeat' first | exact rfl | (refine ones_cons (thw_one _ _ _) ?_) | (refine ones_cons rfl ?_)))))
    | (refine kOps ?_; first | (refine LOps.nil ?_) | (refine LOps.ev tT_ok rfl ?_) | (refine kBox ?_; refine LOps.box rfl rfl rfl rfl ?_) | (refine kAlloc ?_; refine LOps.alloc tT_ok rfl rfl rfl rfl ?_) | (refine kLoad ?_; first | (refine LOps.ans (AnsL.loadP tT_ok rfl rfl rfl rfl) ?_)))
    | (refine kWL ?_; first | (refine WL.seq ?_) | (refine WL.region (by kernel_rfl) ?_) | (refine WL.ret ?_))
    | (refine lthen_n ?_)
    | (refine LPost.r1 (r := .cell 2 78) (.inl rfl) (Res1.cell tT_ok rfl rfl rfl rfl) ?_)
  exact ⟨_, .agg (.cons (.scal rfl) (.cons (Tr_thw _ _ (plain_ColS _) (HasV.extC [_, _, _] rfl)) .nil)), by simpa using vl_nodup _ _⟩
theorem toTabS_o (xs : List Tab) (h : slW Tab.wt xs ≤ 1048576) (s : S) : VCalls Try.prog 43 [.sl 0 (xs.map Tab.toV)] s (fun v t => Own2 (.sl 0 (xs.map Tab.toV)) v t) := by
  have hl := len_slW Tab.wt xs
  have hcl : ∀ x ∈ xs.map Tab.toV, x.cells.length = 2 := by
    intro v hv
    obtain ⟨x, _, rfl⟩ := List.mem_map.1 hv
    rfl
  refine LCalls.body Try.func43 rfl (by kernel_rfl) ?_
  repeat' first
    | (refine kOps ?_; first | (refine LOps.nil ?_) | (refine LOps.ev tT_ok rfl ?_) | (refine kMake ?_; first | (refine LOps.make tT_ok rfl rfl rfl rfl rfl rfl rfl rfl (AppB.of ?_ rfl) ?_; (focus (first | omega)))) | (refine kLen ?_; first | (refine LOps.ans (AnsL.lenM tT_ok rfl rfl rfl) ?_)))
    | (refine kWL ?_; first | (refine WL.seq ?_) | (refine WL.region (by kernel_rfl) ?_) | (refine WL.block ?_))
    | (refine lthen_n ?_)
  refine WL.loopFill (xs.map Tab.toV) [.str [], .nilsl] (fun i => [(0, .sl 0 (xs.map Tab.toV)), (3, .slm .eq (s.next + 0) 0 xs.length), (4, .int .i64 (i : Int))]) hcl (by rw [List.length_map]) ⟨rfl, rfl, rfl, trivial⟩ (fun i hi m B CA CZ hq hm => ?_) ?_
  · have hlt : i < xs.length := by simpa using hi
    have hd : (xs.map Tab.toV)[i] = Tab.toV xs[i] := List.getElem_map ..
    have hg : (xs.map Tab.toV)[i]? = some (Tab.toV xs[i]) := by rw [List.getElem?_eq_getElem hi, hd]
    rw [hd]
    have hw := mem_slW (f := Tab.wt) hlt
    have hE : ∀ t, VCalls Try.prog 63 [Tab.toV xs[i]] t (fun v t' => Own2 (Tab.toV xs[i]) v t') := fun t => toTab_o xs[i] (by omega) t
    have hp : (Tab.toV xs[i]).plain = true := (plainL_cons rfl (plainL_cons (plain_ColS _) rfl))
    generalize xs[i] = y at *
    repeat' first
      | (refine kCallN 63 ?_ ; refine LOps.lendE rfl rfl ok63 ?_ hE hm rfl ?_ ; (focus (exact plainL_cons hp rfl)))
      | (refine kStore ?_ ; refine LOps.storeX tT_ok hq rfl rfl rfl rfl rfl rfl rfl rfl ?_)
      | (refine kOps ?_; first | (refine LOps.nil ?_) | (refine LOps.ev tT_ok rfl ?_) | (refine kLen ?_; first | (refine LOps.ans (AnsL.lenM tT_ok rfl rfl rfl) ?_)) | (refine kBin ?_; first | (refine LOps.ans (AnsL.add rfl rfl ?_) ?_; (focus (constructor <;> omega)))) | (refine kIdx ?_; first | (refine LOps.ans (AnsL.idx tT_ok rfl rfl rfl rfl rfl hg rfl rfl) ?_) | (refine LOps.ans (AnsL.idxM tT_ok rfl rfl rfl rfl rfl ?_) ?_; (focus (omega)))))
      | (refine kWL ?_; first | (refine WL.seq ?_) | (refine WL.region (by kernel_rfl) ?_) | (refine WL.block ?_) | (refine WL.skip ?_) | (refine kCond ?_; first | (refine WL.condT' rfl ?_ ?_; (focus (first | (simp only [decide_eq_true_eq, decide_eq_false_iff_not, Bool.not_eq_true', Bool.not_eq_false', Int.ofNat_lt, Int.ofNat_le, Int.ofNat_inj, not_true_eq_false, not_false_eq_true]; omega))))))
      | (refine lthen_n ?_)
      | (refine lblock_n ?_)
    exact ⟨rfl, ⟨rfl, rfl, rfl, trivial⟩, rfl⟩
  · skip
    repeat' first
      | (refine lfin_e ?_)
      | (refine kOps ?_; first | (refine LOps.nil ?_) | (refine LOps.ev tT_ok rfl ?_) | (refine kLen ?_; first | (refine LOps.ans (AnsL.lenM tT_ok rfl rfl rfl) ?_)))
      | (refine kWL ?_; first | (refine WL.seq ?_) | (refine WL.region (by kernel_rfl) ?_) | (refine WL.exit ?_) | (refine WL.ret ?_) | (refine kCond ?_; first | (refine WL.condF' rfl ?_ ?_; (focus (first | (simp <;> fail))))))
      | (refine lthen_n ?_)
      | (refine lthen_e ?_)
      | (refine lblock_e ?_)
      | (refine LPost.r1 (r := .tmp 2) (.inl rfl) (Res1.tmp rfl) ?_)
    have hpl := plain_TableS xs
    simp only [V.plain, Bool.and_eq_true] at hpl
    exact Own2.filled (by rw [List.length_map]) hpl.2 hcl
theorem toCat_o (x : Cat) (h : x.wt ≤ 1048576) (s : S) : VCalls Try.prog 20 [x.toV] s (fun v t => Own2 x.toV v t) := by
  simp only [Cat.wt] at h
  refine LCalls.body Try.func20 rfl (by kernel_rfl) ?_
  repeat' first
    | (refine kCallN 43 ?_ ; refine LOps.lendK rfl rfl rfl ok43 (VCalls.lend2 (RdL.plain _ (plainL_cons (plain_TableS x.tables) rfl)) fun t => toTabS_o x.tables (by omega) t) rfl ?_)
    | (refine kStore ?_ ; first | (refine LOps.storeP tT_ok rfl rfl rfl rfl (thw_cellsO _ _ _) (thw_onesO _ _ _) rfl rfl rfl ?_) | (refine LOps.storeP tT_ok rfl rfl rfl rfl rfl ?_ rfl rfl rfl ?_ ; (focus (repeat' first | exact rfl | (refine ones_cons (thw_one _ _ _) ?_)))))
    | (refine kOps ?_; first | (refine LOps.nil ?_) | (refine LOps.ev tT_ok rfl ?_) | (refine kBox ?_; refine LOps.box rfl rfl rfl rfl ?_) | (refine kAlloc ?_; refine LOps.alloc tT_ok rfl rfl rfl rfl ?_) | (refine kLoad ?_; first | (refine LOps.ans (AnsL.loadP tT_ok rfl rfl rfl rfl) ?_)))
    | (refine kWL ?_; first | (refine WL.seq ?_) | (refine WL.region (by kernel_rfl) ?_) | (refine WL.ret ?_))
    | (refine lthen_n ?_)
    | (refine LPost.r1 (r := .cell 2 26) (.inl rfl) (Res1.cell tT_ok rfl rfl rfl rfl) ?_)
  exact ⟨_, .agg (.cons (Tr_thw _ _ (plain_TableS _) (HasV.extC [_, _, _] rfl)) .nil), by simpa using vl_nodup _ _⟩

end Go.Proofs.Ytoagpmhdgllchaa
