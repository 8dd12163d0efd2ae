/-
  Matches, StarOf and Find, of the program and of the reference. Own work; no condition.
-/
import Derived.Test.YtehmlklfbllgcaaDScope
namespace Go.Proofs.Ytehmlklfbllgcaa
open Go
set_option linter.unusedSimpArgs false
set_option linter.unusedVariables false


theorem implStarOf_v (c : Scope) (qual : List UInt8) (h : c.wt ≤ 1048576) (s : S) : VCalls Try.prog 16 [c.toV, .str qual] s (fun v s' => v = ints (c.star qual) ∧ s' = s) := by
  simp only [Scope.wt] at h
  have hl := len_slW Named.wt c.names
  refine LCalls.pure Try.func16 rfl (by kernel_rfl) (by simp) ?_
  repeat' first
    | (refine kOps ?_; first | (refine LOps.nil ?_) | (refine kG ?_; first | (refine LOps.gT rfl rfl rfl ?_) | (refine LOps.gF rfl rfl rfl ?_) | (refine LOps.gU rfl rfl ?_) | (refine LOps.gFN rfl rfl rfl ?_) | (refine LOps.gD true rfl rfl rfl ?_ ?_; (focus (first | (assumption) | (exact decide_eq_true (by assumption)) | (exact decide_eq_false (by assumption)) | (simp only [decide_eq_true_eq, decide_eq_false_iff_not, Bool.not_eq_true', Bool.not_eq_false', Int.ofNat_lt, Int.ofNat_le, Int.ofNat_inj, not_true_eq_false, not_false_eq_true]; omega) | (simp <;> fail)))) | (refine LOps.gD false rfl rfl rfl ?_ ?_; (focus (first | (assumption) | (exact decide_eq_true (by assumption)) | (exact decide_eq_false (by assumption)) | (simp only [decide_eq_true_eq, decide_eq_false_iff_not, Bool.not_eq_true', Bool.not_eq_false', Int.ofNat_lt, Int.ofNat_le, Int.ofNat_inj, not_true_eq_false, not_false_eq_true]; omega) | (simp <;> fail)))) | (refine LOps.gC rfl rfl rfl (fun h => ?_) (fun h => ?_))) | (refine kStore ?_; refine LOps.storeP tT_ok rfl rfl rfl rfl rfl rfl rfl rfl rfl ?_) | (refine LOps.ev tT_ok rfl ?_) | (refine kBox ?_; refine LOps.box rfl rfl rfl rfl ?_) | (refine kAlloc ?_; refine LOps.alloc tT_ok rfl rfl rfl rfl ?_) | (refine kBsl ?_; first | (refine LOps.bsl0 tT_ok rfl rfl rfl rfl rfl ?_) | (refine LOps.bsl tT_ok rfl rfl rfl rfl rfl rfl rfl rfl rfl rfl rfl ?_)) | (refine kApp ?_; first | (refine LOps.app tT_ok rfl rfl rfl rfl rfl rfl rfl rfl rfl rfl rfl ?_ ?_ (AppB.of ?_ rfl) ?_; (focus (first | rfl | (simp <;> fail) | (simp; omega))); (focus (first | exact Elems.of rfl | exact Elems.map fun _ => rfl | exact PE.els _ (fun _ => rfl) _)); (focus (first | omega | (simp <;> fail) | (simp; omega)))) | (refine LOps.app0 tT_ok rfl rfl rfl rfl rfl rfl rfl rfl rfl rfl rfl ?_ (AppB.of ?_ rfl) ?_; (focus (first | exact Elems.of rfl | exact Elems.map fun _ => rfl | exact PE.els _ (fun _ => rfl) _)); (focus (first | omega | (simp <;> fail) | (simp; omega))))) | (refine kLoad ?_; first | (refine LOps.ans (AnsL.loadP tT_ok rfl rfl rfl rfl) ?_)) | (refine kLen ?_; first | (refine LOps.ans (AnsL.lenM tT_ok rfl rfl rfl) ?_) | (refine LOps.ans (AnsL.lenS tT_ok rfl rfl rfl rfl) ?_) | (refine LOps.ans (AnsL.lenG tT_ok rfl rfl rfl) ?_)) | (refine kBin ?_; first | (refine LOps.ans (AnsL.add rfl rfl ?_) ?_; (focus (constructor <;> omega))) | (refine LOps.ans (AnsL.arith rfl rfl rfl) ?_)) | (refine kIdx ?_; first | (refine LOps.ans (AnsL.idxA tT_ok rfl rfl rfl rfl rfl (by omega) rfl rfl) ?_) | (refine LOps.ans (AnsL.idxZ tT_ok rfl rfl rfl rfl rfl ?_ rfl rfl rfl) ?_; (focus (decide)))))
    | (refine kWL ?_; first | (refine WL.seq ?_) | (refine WL.region (by kernel_rfl) ?_) | (refine WL.block ?_) | (refine WL.exit ?_) | (refine WL.skip ?_) | (refine WL.ret ?_) | (refine kCond ?_; first | (refine WL.condT rfl ?_) | (refine WL.condF rfl ?_) | (refine WL.condT' rfl ?_ ?_; (focus (first | (assumption) | (exact decide_eq_true (by assumption)) | (exact decide_eq_false (by assumption)) | (simp only [decide_eq_true_eq, decide_eq_false_iff_not, Bool.not_eq_true', Bool.not_eq_false', Int.ofNat_lt, Int.ofNat_le, Int.ofNat_inj, not_true_eq_false, not_false_eq_true]; omega) | (simp <;> fail)))) | (refine WL.condF' rfl ?_ ?_; (focus (first | (assumption) | (exact decide_eq_true (by assumption)) | (exact decide_eq_false (by assumption)) | (simp only [decide_eq_true_eq, decide_eq_false_iff_not, Bool.not_eq_true', Bool.not_eq_false', Int.ofNat_lt, Int.ofNat_le, Int.ofNat_inj, not_true_eq_false, not_false_eq_true]; omega) | (simp <;> fail)))) | (refine WL.cond rfl (fun h => ?_) (fun h => ?_))))
    | (refine lthen_n ?_)
    | (refine lthen_r ?_)
    | (refine lthen_e ?_)
    | (refine lblock_n ?_)
    | (refine lblock_r ?_)
    | (refine lblock_e ?_)
    | (refine lblock_o rfl ?_)
    | (refine lback_r ?_)
    | (refine lback_e ?_)
    | (refine lbackD_r ?_)
    | (refine lbackD_e ?_)
    | (refine lbackH_r ?_)
    | (refine lbackH_e ?_)
    | (refine LPost.r1 (r := .tmp 4) (.inl rfl) (Res1.tmp rfl) ?_)
    | (refine PureR.mk ?_)
  refine WL.zfam (t := 5) 1 rfl rfl rfl rfl ?_
  refine WL.loopD (fun i : Nat => c.names.length - i) (fun i => [(1, .str qual), (10, .sl 0 (c.names.map Named.toV)), (11, .int .i64 c.names.length), (5, .sl (s.next + 1) ((hits (starP qual) c.names i).map iV)), (12, .int .i64 (i : Int))])
    (fun i => [.var [.sl 0 (c.names.map Named.toV)], .fam (hits (starP qual) c.names i).length 1])
    (fun i => i ≤ c.names.length) 2 0 (by simp) (fun _ => rfl) ⟨rfl, rfl, rfl, rfl, rfl, trivial⟩ rfl (fun i hi => ?_) (fun i hi => ?_)
  · simp [UnderK, UnderX, Own.under, V.under, V.underL]
  have hh := hits_len (starP qual) c.names i
  rcases Nat.lt_or_ge i c.names.length with hlt | hge
  · skip
    repeat' first
      | (refine kOps ?_; first | (refine LOps.nil ?_) | (refine kG ?_; first | (refine LOps.gT rfl rfl rfl ?_) | (refine LOps.gF rfl rfl rfl ?_) | (refine LOps.gU rfl rfl ?_) | (refine LOps.gFN rfl rfl rfl ?_) | (refine LOps.gD true rfl rfl rfl ?_ ?_; (focus (first | (assumption) | (exact decide_eq_true (by assumption)) | (exact decide_eq_false (by assumption)) | (simp only [decide_eq_true_eq, decide_eq_false_iff_not, Bool.not_eq_true', Bool.not_eq_false', Int.ofNat_lt, Int.ofNat_le, Int.ofNat_inj, not_true_eq_false, not_false_eq_true]; omega) | (simp <;> fail)))) | (refine LOps.gD false rfl rfl rfl ?_ ?_; (focus (first | (assumption) | (exact decide_eq_true (by assumption)) | (exact decide_eq_false (by assumption)) | (simp only [decide_eq_true_eq, decide_eq_false_iff_not, Bool.not_eq_true', Bool.not_eq_false', Int.ofNat_lt, Int.ofNat_le, Int.ofNat_inj, not_true_eq_false, not_false_eq_true]; omega) | (simp <;> fail)))) | (refine LOps.gC rfl rfl rfl (fun h => ?_) (fun h => ?_))) | (refine kStore ?_; refine LOps.storeP tT_ok rfl rfl rfl rfl rfl rfl rfl rfl rfl ?_) | (refine LOps.ev tT_ok rfl ?_) | (refine kBox ?_; refine LOps.box rfl rfl rfl rfl ?_) | (refine kAlloc ?_; refine LOps.alloc tT_ok rfl rfl rfl rfl ?_) | (refine kBsl ?_; first | (refine LOps.bsl0 tT_ok rfl rfl rfl rfl rfl ?_) | (refine LOps.bsl tT_ok rfl rfl rfl rfl rfl rfl rfl rfl rfl rfl rfl ?_)) | (refine kApp ?_; first | (refine LOps.app tT_ok rfl rfl rfl rfl rfl rfl rfl rfl rfl rfl rfl ?_ ?_ (AppB.of ?_ rfl) ?_; (focus (first | rfl | (simp <;> fail) | (simp; omega))); (focus (first | exact Elems.of rfl | exact Elems.map fun _ => rfl | exact PE.els _ (fun _ => rfl) _)); (focus (first | omega | (simp <;> fail) | (simp; omega)))) | (refine LOps.app0 tT_ok rfl rfl rfl rfl rfl rfl rfl rfl rfl rfl rfl ?_ (AppB.of ?_ rfl) ?_; (focus (first | exact Elems.of rfl | exact Elems.map fun _ => rfl | exact PE.els _ (fun _ => rfl) _)); (focus (first | omega | (simp <;> fail) | (simp; omega))))) | (refine kLoad ?_; first | (refine LOps.ans (AnsL.loadP tT_ok rfl rfl rfl rfl) ?_)) | (refine kLen ?_; first | (refine LOps.ans (AnsL.lenM tT_ok rfl rfl rfl) ?_) | (refine LOps.ans (AnsL.lenS tT_ok rfl rfl rfl rfl) ?_) | (refine LOps.ans (AnsL.lenG tT_ok rfl rfl rfl) ?_)) | (refine kBin ?_; first | (refine LOps.ans (AnsL.add rfl rfl ?_) ?_; (focus (constructor <;> omega))) | (refine LOps.ans (AnsL.arith rfl rfl rfl) ?_)) | (refine kIdx ?_; first | (refine LOps.ans (AnsL.idxA tT_ok rfl rfl rfl rfl rfl (by omega) rfl rfl) ?_) | (refine LOps.ans (AnsL.idxZ tT_ok rfl rfl rfl rfl rfl ?_ rfl rfl rfl) ?_; (focus (decide)))))
      | (refine kWL ?_; first | (refine WL.seq ?_) | (refine WL.region (by kernel_rfl) ?_) | (refine WL.block ?_) | (refine WL.exit ?_) | (refine WL.skip ?_) | (refine WL.ret ?_) | (refine kCond ?_; first | (refine WL.condT rfl ?_) | (refine WL.condF rfl ?_) | (refine WL.condT' rfl ?_ ?_; (focus (first | (assumption) | (exact decide_eq_true (by assumption)) | (exact decide_eq_false (by assumption)) | (simp only [decide_eq_true_eq, decide_eq_false_iff_not, Bool.not_eq_true', Bool.not_eq_false', Int.ofNat_lt, Int.ofNat_le, Int.ofNat_inj, not_true_eq_false, not_false_eq_true]; omega) | (simp <;> fail)))) | (refine WL.condF' rfl ?_ ?_; (focus (first | (assumption) | (exact decide_eq_true (by assumption)) | (exact decide_eq_false (by assumption)) | (simp only [decide_eq_true_eq, decide_eq_false_iff_not, Bool.not_eq_true', Bool.not_eq_false', Int.ofNat_lt, Int.ofNat_le, Int.ofNat_inj, not_true_eq_false, not_false_eq_true]; omega) | (simp <;> fail)))) | (refine WL.cond rfl (fun h => ?_) (fun h => ?_))))
      | (refine lthen_n ?_)
      | (refine lthen_r ?_)
      | (refine lthen_e ?_)
      | (refine lblock_n ?_)
      | (refine lblock_r ?_)
      | (refine lblock_e ?_)
      | (refine lblock_o rfl ?_)
      | (refine lback_r ?_)
      | (refine lback_e ?_)
      | (refine lbackD_r ?_)
      | (refine lbackD_e ?_)
      | (refine lbackH_r ?_)
      | (refine lbackH_e ?_)
      | (refine LPost.r1 (r := .tmp 4) (.inl rfl) (Res1.tmp rfl) ?_)
      | (refine PureR.mk ?_)
    all_goals
      refine lbackD.of (i + 1) ?_ ?_ ?_ ?_
      · first | omega | (refine ⟨?_, ?_⟩; (focus (first | omega | (simp; omega))); (first | omega | (simp_all [hits_succ hlt, starP, iV] <;> fail) | (simp_all [hits_succ hlt, starP, iV]; omega))) | (simp_all [hits_succ hlt, starP, iV] <;> fail) | (simp_all [hits_succ hlt, starP, iV]; omega)
      · first | omega | (simp; omega) | simp_all
      · repeat' first
          | exact SubL.nil
          | (refine SubL.mk rfl ?_ ?_)
          | rfl
          | (simp [hits_succ hlt, starP, iV, *] <;> fail)
          | (simp [hits_succ hlt, starP, iV, *]; omega)
      · first | rfl | (simp [hits_succ hlt, starP, iV, *] <;> fail) | (simp [hits_succ hlt, starP, iV, *]; omega)
  · skip
    repeat' first
      | (refine kOps ?_; first | (refine LOps.nil ?_) | (refine kG ?_; first | (refine LOps.gT rfl rfl rfl ?_) | (refine LOps.gF rfl rfl rfl ?_) | (refine LOps.gU rfl rfl ?_) | (refine LOps.gFN rfl rfl rfl ?_) | (refine LOps.gD true rfl rfl rfl ?_ ?_; (focus (first | (assumption) | (exact decide_eq_true (by assumption)) | (exact decide_eq_false (by assumption)) | (simp only [decide_eq_true_eq, decide_eq_false_iff_not, Bool.not_eq_true', Bool.not_eq_false', Int.ofNat_lt, Int.ofNat_le, Int.ofNat_inj, not_true_eq_false, not_false_eq_true]; omega) | (simp <;> fail)))) | (refine LOps.gD false rfl rfl rfl ?_ ?_; (focus (first | (assumption) | (exact decide_eq_true (by assumption)) | (exact decide_eq_false (by assumption)) | (simp only [decide_eq_true_eq, decide_eq_false_iff_not, Bool.not_eq_true', Bool.not_eq_false', Int.ofNat_lt, Int.ofNat_le, Int.ofNat_inj, not_true_eq_false, not_false_eq_true]; omega) | (simp <;> fail)))) | (refine LOps.gC rfl rfl rfl (fun h => ?_) (fun h => ?_))) | (refine kStore ?_; refine LOps.storeP tT_ok rfl rfl rfl rfl rfl rfl rfl rfl rfl ?_) | (refine LOps.ev tT_ok rfl ?_) | (refine kBox ?_; refine LOps.box rfl rfl rfl rfl ?_) | (refine kAlloc ?_; refine LOps.alloc tT_ok rfl rfl rfl rfl ?_) | (refine kBsl ?_; first | (refine LOps.bsl0 tT_ok rfl rfl rfl rfl rfl ?_) | (refine LOps.bsl tT_ok rfl rfl rfl rfl rfl rfl rfl rfl rfl rfl rfl ?_)) | (refine kApp ?_; first | (refine LOps.app tT_ok rfl rfl rfl rfl rfl rfl rfl rfl rfl rfl rfl ?_ ?_ (AppB.of ?_ rfl) ?_; (focus (first | rfl | (simp <;> fail) | (simp; omega))); (focus (first | exact Elems.of rfl | exact Elems.map fun _ => rfl | exact PE.els _ (fun _ => rfl) _)); (focus (first | omega | (simp <;> fail) | (simp; omega)))) | (refine LOps.app0 tT_ok rfl rfl rfl rfl rfl rfl rfl rfl rfl rfl rfl ?_ (AppB.of ?_ rfl) ?_; (focus (first | exact Elems.of rfl | exact Elems.map fun _ => rfl | exact PE.els _ (fun _ => rfl) _)); (focus (first | omega | (simp <;> fail) | (simp; omega))))) | (refine kLoad ?_; first | (refine LOps.ans (AnsL.loadP tT_ok rfl rfl rfl rfl) ?_)) | (refine kLen ?_; first | (refine LOps.ans (AnsL.lenM tT_ok rfl rfl rfl) ?_) | (refine LOps.ans (AnsL.lenS tT_ok rfl rfl rfl rfl) ?_) | (refine LOps.ans (AnsL.lenG tT_ok rfl rfl rfl) ?_)) | (refine kBin ?_; first | (refine LOps.ans (AnsL.add rfl rfl ?_) ?_; (focus (constructor <;> omega))) | (refine LOps.ans (AnsL.arith rfl rfl rfl) ?_)) | (refine kIdx ?_; first | (refine LOps.ans (AnsL.idxA tT_ok rfl rfl rfl rfl rfl (by omega) rfl rfl) ?_) | (refine LOps.ans (AnsL.idxZ tT_ok rfl rfl rfl rfl rfl ?_ rfl rfl rfl) ?_; (focus (decide)))))
      | (refine kWL ?_; first | (refine WL.seq ?_) | (refine WL.region (by kernel_rfl) ?_) | (refine WL.block ?_) | (refine WL.exit ?_) | (refine WL.skip ?_) | (refine WL.ret ?_) | (refine kCond ?_; first | (refine WL.condT rfl ?_) | (refine WL.condF rfl ?_) | (refine WL.condT' rfl ?_ ?_; (focus (first | (assumption) | (exact decide_eq_true (by assumption)) | (exact decide_eq_false (by assumption)) | (simp only [decide_eq_true_eq, decide_eq_false_iff_not, Bool.not_eq_true', Bool.not_eq_false', Int.ofNat_lt, Int.ofNat_le, Int.ofNat_inj, not_true_eq_false, not_false_eq_true]; omega) | (simp <;> fail)))) | (refine WL.condF' rfl ?_ ?_; (focus (first | (assumption) | (exact decide_eq_true (by assumption)) | (exact decide_eq_false (by assumption)) | (simp only [decide_eq_true_eq, decide_eq_false_iff_not, Bool.not_eq_true', Bool.not_eq_false', Int.ofNat_lt, Int.ofNat_le, Int.ofNat_inj, not_true_eq_false, not_false_eq_true]; omega) | (simp <;> fail)))) | (refine WL.cond rfl (fun h => ?_) (fun h => ?_))))
      | (refine lthen_n ?_)
      | (refine lthen_r ?_)
      | (refine lthen_e ?_)
      | (refine lblock_n ?_)
      | (refine lblock_r ?_)
      | (refine lblock_e ?_)
      | (refine lblock_o rfl ?_)
      | (refine lback_r ?_)
      | (refine lback_e ?_)
      | (refine lbackD_r ?_)
      | (refine lbackD_e ?_)
      | (refine lbackH_r ?_)
      | (refine lbackH_e ?_)
      | (refine LPost.r1 (r := .tmp 4) (.inl rfl) (Res1.tmp rfl) ?_)
      | (refine PureR.mk ?_)
    simp [ints, Scope.star, show i = c.names.length by omega]


theorem implMatches_v (c : Scope) (qual name : List UInt8) (h : c.wt ≤ 1048576) (s : S) : VCalls Try.prog 18 [c.toV, .str qual, .str name] s (fun v s' => v = ints (c.matches qual name) ∧ s' = s) := by
  simp only [Scope.wt] at h
  have hl := len_slW Named.wt c.names
  refine LCalls.pure Try.func18 rfl (by kernel_rfl) (by simp) ?_
  repeat' first
    | (refine kOps ?_; first | (refine LOps.nil ?_) | (refine kG ?_; first | (refine LOps.gT rfl rfl rfl ?_) | (refine LOps.gF rfl rfl rfl ?_) | (refine LOps.gU rfl rfl ?_) | (refine LOps.gFN rfl rfl rfl ?_) | (refine LOps.gD true rfl rfl rfl ?_ ?_; (focus (first | (assumption) | (exact decide_eq_true (by assumption)) | (exact decide_eq_false (by assumption)) | (simp only [decide_eq_true_eq, decide_eq_false_iff_not, Bool.not_eq_true', Bool.not_eq_false', Int.ofNat_lt, Int.ofNat_le, Int.ofNat_inj, not_true_eq_false, not_false_eq_true]; omega) | (simp <;> fail)))) | (refine LOps.gD false rfl rfl rfl ?_ ?_; (focus (first | (assumption) | (exact decide_eq_true (by assumption)) | (exact decide_eq_false (by assumption)) | (simp only [decide_eq_true_eq, decide_eq_false_iff_not, Bool.not_eq_true', Bool.not_eq_false', Int.ofNat_lt, Int.ofNat_le, Int.ofNat_inj, not_true_eq_false, not_false_eq_true]; omega) | (simp <;> fail)))) | (refine LOps.gC rfl rfl rfl (fun h => ?_) (fun h => ?_))) | (refine kStore ?_; refine LOps.storeP tT_ok rfl rfl rfl rfl rfl rfl rfl rfl rfl ?_) | (refine LOps.ev tT_ok rfl ?_) | (refine kBox ?_; refine LOps.box rfl rfl rfl rfl ?_) | (refine kAlloc ?_; refine LOps.alloc tT_ok rfl rfl rfl rfl ?_) | (refine kBsl ?_; first | (refine LOps.bsl0 tT_ok rfl rfl rfl rfl rfl ?_) | (refine LOps.bsl tT_ok rfl rfl rfl rfl rfl rfl rfl rfl rfl rfl rfl ?_)) | (refine kApp ?_; first | (refine LOps.app tT_ok rfl rfl rfl rfl rfl rfl rfl rfl rfl rfl rfl ?_ ?_ (AppB.of ?_ rfl) ?_; (focus (first | rfl | (simp <;> fail) | (simp; omega))); (focus (first | exact Elems.of rfl | exact Elems.map fun _ => rfl | exact PE.els _ (fun _ => rfl) _)); (focus (first | omega | (simp <;> fail) | (simp; omega)))) | (refine LOps.app0 tT_ok rfl rfl rfl rfl rfl rfl rfl rfl rfl rfl rfl ?_ (AppB.of ?_ rfl) ?_; (focus (first | exact Elems.of rfl | exact Elems.map fun _ => rfl | exact PE.els _ (fun _ => rfl) _)); (focus (first | omega | (simp <;> fail) | (simp; omega))))) | (refine kLoad ?_; first | (refine LOps.ans (AnsL.loadP tT_ok rfl rfl rfl rfl) ?_)) | (refine kLen ?_; first | (refine LOps.ans (AnsL.lenM tT_ok rfl rfl rfl) ?_) | (refine LOps.ans (AnsL.lenS tT_ok rfl rfl rfl rfl) ?_) | (refine LOps.ans (AnsL.lenG tT_ok rfl rfl rfl) ?_)) | (refine kBin ?_; first | (refine LOps.ans (AnsL.add rfl rfl ?_) ?_; (focus (constructor <;> omega))) | (refine LOps.ans (AnsL.arith rfl rfl rfl) ?_)) | (refine kIdx ?_; first | (refine LOps.ans (AnsL.idxA tT_ok rfl rfl rfl rfl rfl (by omega) rfl rfl) ?_) | (refine LOps.ans (AnsL.idxZ tT_ok rfl rfl rfl rfl rfl ?_ rfl rfl rfl) ?_; (focus (decide)))))
    | (refine kWL ?_; first | (refine WL.seq ?_) | (refine WL.region (by kernel_rfl) ?_) | (refine WL.block ?_) | (refine WL.exit ?_) | (refine WL.skip ?_) | (refine WL.ret ?_) | (refine kCond ?_; first | (refine WL.condT rfl ?_) | (refine WL.condF rfl ?_) | (refine WL.condT' rfl ?_ ?_; (focus (first | (assumption) | (exact decide_eq_true (by assumption)) | (exact decide_eq_false (by assumption)) | (simp only [decide_eq_true_eq, decide_eq_false_iff_not, Bool.not_eq_true', Bool.not_eq_false', Int.ofNat_lt, Int.ofNat_le, Int.ofNat_inj, not_true_eq_false, not_false_eq_true]; omega) | (simp <;> fail)))) | (refine WL.condF' rfl ?_ ?_; (focus (first | (assumption) | (exact decide_eq_true (by assumption)) | (exact decide_eq_false (by assumption)) | (simp only [decide_eq_true_eq, decide_eq_false_iff_not, Bool.not_eq_true', Bool.not_eq_false', Int.ofNat_lt, Int.ofNat_le, Int.ofNat_inj, not_true_eq_false, not_false_eq_true]; omega) | (simp <;> fail)))) | (refine WL.cond rfl (fun h => ?_) (fun h => ?_))))
    | (refine lthen_n ?_)
    | (refine lthen_r ?_)
    | (refine lthen_e ?_)
    | (refine lblock_n ?_)
    | (refine lblock_r ?_)
    | (refine lblock_e ?_)
    | (refine lblock_o rfl ?_)
    | (refine lback_r ?_)
    | (refine lback_e ?_)
    | (refine lbackD_r ?_)
    | (refine lbackD_e ?_)
    | (refine lbackH_r ?_)
    | (refine lbackH_e ?_)
    | (refine LPost.r1 (r := .tmp 6) (.inl rfl) (Res1.tmp rfl) ?_)
    | (refine PureR.mk ?_)
  refine WL.zfam (t := 7) 1 rfl rfl rfl rfl ?_
  refine WL.loopD (fun i : Nat => c.names.length - i) (fun i => [(1, .str qual), (2, .str name), (12, .sl 0 (c.names.map Named.toV)), (13, .int .i64 c.names.length), (7, .sl (s.next + 1) ((hits (matchP qual name) c.names i).map iV)), (14, .int .i64 (i : Int))])
    (fun i => [.var [.sl 0 (c.names.map Named.toV)], .fam (hits (matchP qual name) c.names i).length 1])
    (fun i => i ≤ c.names.length) 2 0 (by simp) (fun _ => rfl) ⟨rfl, rfl, rfl, rfl, rfl, rfl, trivial⟩ rfl (fun i hi => ?_) (fun i hi => ?_)
  · simp [UnderK, UnderX, Own.under, V.under, V.underL]
  have hh := hits_len (matchP qual name) c.names i
  rcases Nat.lt_or_ge i c.names.length with hlt | hge
  · skip
    repeat' first
      | (refine kOps ?_; first | (refine LOps.nil ?_) | (refine kG ?_; first | (refine LOps.gT rfl rfl rfl ?_) | (refine LOps.gF rfl rfl rfl ?_) | (refine LOps.gU rfl rfl ?_) | (refine LOps.gFN rfl rfl rfl ?_) | (refine LOps.gD true rfl rfl rfl ?_ ?_; (focus (first | (assumption) | (exact decide_eq_true (by assumption)) | (exact decide_eq_false (by assumption)) | (simp only [decide_eq_true_eq, decide_eq_false_iff_not, Bool.not_eq_true', Bool.not_eq_false', Int.ofNat_lt, Int.ofNat_le, Int.ofNat_inj, not_true_eq_false, not_false_eq_true]; omega) | (simp <;> fail)))) | (refine LOps.gD false rfl rfl rfl ?_ ?_; (focus (first | (assumption) | (exact decide_eq_true (by assumption)) | (exact decide_eq_false (by assumption)) | (simp only [decide_eq_true_eq, decide_eq_false_iff_not, Bool.not_eq_true', Bool.not_eq_false', Int.ofNat_lt, Int.ofNat_le, Int.ofNat_inj, not_true_eq_false, not_false_eq_true]; omega) | (simp <;> fail)))) | (refine LOps.gC rfl rfl rfl (fun h => ?_) (fun h => ?_))) | (refine kStore ?_; refine LOps.storeP tT_ok rfl rfl rfl rfl rfl rfl rfl rfl rfl ?_) | (refine LOps.ev tT_ok rfl ?_) | (refine kBox ?_; refine LOps.box rfl rfl rfl rfl ?_) | (refine kAlloc ?_; refine LOps.alloc tT_ok rfl rfl rfl rfl ?_) | (refine kBsl ?_; first | (refine LOps.bsl0 tT_ok rfl rfl rfl rfl rfl ?_) | (refine LOps.bsl tT_ok rfl rfl rfl rfl rfl rfl rfl rfl rfl rfl rfl ?_)) | (refine kApp ?_; first | (refine LOps.app tT_ok rfl rfl rfl rfl rfl rfl rfl rfl rfl rfl rfl ?_ ?_ (AppB.of ?_ rfl) ?_; (focus (first | rfl | (simp <;> fail) | (simp; omega))); (focus (first | exact Elems.of rfl | exact Elems.map fun _ => rfl | exact PE.els _ (fun _ => rfl) _)); (focus (first | omega | (simp <;> fail) | (simp; omega)))) | (refine LOps.app0 tT_ok rfl rfl rfl rfl rfl rfl rfl rfl rfl rfl rfl ?_ (AppB.of ?_ rfl) ?_; (focus (first | exact Elems.of rfl | exact Elems.map fun _ => rfl | exact PE.els _ (fun _ => rfl) _)); (focus (first | omega | (simp <;> fail) | (simp; omega))))) | (refine kLoad ?_; first | (refine LOps.ans (AnsL.loadP tT_ok rfl rfl rfl rfl) ?_)) | (refine kLen ?_; first | (refine LOps.ans (AnsL.lenM tT_ok rfl rfl rfl) ?_) | (refine LOps.ans (AnsL.lenS tT_ok rfl rfl rfl rfl) ?_) | (refine LOps.ans (AnsL.lenG tT_ok rfl rfl rfl) ?_)) | (refine kBin ?_; first | (refine LOps.ans (AnsL.add rfl rfl ?_) ?_; (focus (constructor <;> omega))) | (refine LOps.ans (AnsL.arith rfl rfl rfl) ?_)) | (refine kIdx ?_; first | (refine LOps.ans (AnsL.idxA tT_ok rfl rfl rfl rfl rfl (by omega) rfl rfl) ?_) | (refine LOps.ans (AnsL.idxZ tT_ok rfl rfl rfl rfl rfl ?_ rfl rfl rfl) ?_; (focus (decide)))))
      | (refine kWL ?_; first | (refine WL.seq ?_) | (refine WL.region (by kernel_rfl) ?_) | (refine WL.block ?_) | (refine WL.exit ?_) | (refine WL.skip ?_) | (refine WL.ret ?_) | (refine kCond ?_; first | (refine WL.condT rfl ?_) | (refine WL.condF rfl ?_) | (refine WL.condT' rfl ?_ ?_; (focus (first | (assumption) | (exact decide_eq_true (by assumption)) | (exact decide_eq_false (by assumption)) | (simp only [decide_eq_true_eq, decide_eq_false_iff_not, Bool.not_eq_true', Bool.not_eq_false', Int.ofNat_lt, Int.ofNat_le, Int.ofNat_inj, not_true_eq_false, not_false_eq_true]; omega) | (simp <;> fail)))) | (refine WL.condF' rfl ?_ ?_; (focus (first | (assumption) | (exact decide_eq_true (by assumption)) | (exact decide_eq_false (by assumption)) | (simp only [decide_eq_true_eq, decide_eq_false_iff_not, Bool.not_eq_true', Bool.not_eq_false', Int.ofNat_lt, Int.ofNat_le, Int.ofNat_inj, not_true_eq_false, not_false_eq_true]; omega) | (simp <;> fail)))) | (refine WL.cond rfl (fun h => ?_) (fun h => ?_))))
      | (refine lthen_n ?_)
      | (refine lthen_r ?_)
      | (refine lthen_e ?_)
      | (refine lblock_n ?_)
      | (refine lblock_r ?_)
      | (refine lblock_e ?_)
      | (refine lblock_o rfl ?_)
      | (refine lback_r ?_)
      | (refine lback_e ?_)
      | (refine lbackD_r ?_)
      | (refine lbackD_e ?_)
      | (refine lbackH_r ?_)
      | (refine lbackH_e ?_)
      | (refine LPost.r1 (r := .tmp 6) (.inl rfl) (Res1.tmp rfl) ?_)
      | (refine PureR.mk ?_)
    all_goals
      refine lbackD.of (i + 1) ?_ ?_ ?_ ?_
      · first | omega | (refine ⟨?_, ?_⟩; (focus (first | omega | (simp; omega))); (first | omega | (simp_all [hits_succ hlt, matchP, starP, iV] <;> fail) | (simp_all [hits_succ hlt, matchP, starP, iV]; omega))) | (simp_all [hits_succ hlt, matchP, starP, iV] <;> fail) | (simp_all [hits_succ hlt, matchP, starP, iV]; omega)
      · first | omega | (simp; omega) | simp_all
      · repeat' first
          | exact SubL.nil
          | (refine SubL.mk rfl ?_ ?_)
          | rfl
          | (simp [hits_succ hlt, matchP, starP, iV, *] <;> fail)
          | (simp [hits_succ hlt, matchP, starP, iV, *]; omega)
      · first | rfl | (simp [hits_succ hlt, matchP, starP, iV, *] <;> fail) | (simp [hits_succ hlt, matchP, starP, iV, *]; omega)
  · skip
    repeat' first
      | (refine kOps ?_; first | (refine LOps.nil ?_) | (refine kG ?_; first | (refine LOps.gT rfl rfl rfl ?_) | (refine LOps.gF rfl rfl rfl ?_) | (refine LOps.gU rfl rfl ?_) | (refine LOps.gFN rfl rfl rfl ?_) | (refine LOps.gD true rfl rfl rfl ?_ ?_; (focus (first | (assumption) | (exact decide_eq_true (by assumption)) | (exact decide_eq_false (by assumption)) | (simp only [decide_eq_true_eq, decide_eq_false_iff_not, Bool.not_eq_true', Bool.not_eq_false', Int.ofNat_lt, Int.ofNat_le, Int.ofNat_inj, not_true_eq_false, not_false_eq_true]; omega) | (simp <;> fail)))) | (refine LOps.gD false rfl rfl rfl ?_ ?_; (focus (first | (assumption) | (exact decide_eq_true (by assumption)) | (exact decide_eq_false (by assumption)) | (simp only [decide_eq_true_eq, decide_eq_false_iff_not, Bool.not_eq_true', Bool.not_eq_false', Int.ofNat_lt, Int.ofNat_le, Int.ofNat_inj, not_true_eq_false, not_false_eq_true]; omega) | (simp <;> fail)))) | (refine LOps.gC rfl rfl rfl (fun h => ?_) (fun h => ?_))) | (refine kStore ?_; refine LOps.storeP tT_ok rfl rfl rfl rfl rfl rfl rfl rfl rfl ?_) | (refine LOps.ev tT_ok rfl ?_) | (refine kBox ?_; refine LOps.box rfl rfl rfl rfl ?_) | (refine kAlloc ?_; refine LOps.alloc tT_ok rfl rfl rfl rfl ?_) | (refine kBsl ?_; first | (refine LOps.bsl0 tT_ok rfl rfl rfl rfl rfl ?_) | (refine LOps.bsl tT_ok rfl rfl rfl rfl rfl rfl rfl rfl rfl rfl rfl ?_)) | (refine kApp ?_; first | (refine LOps.app tT_ok rfl rfl rfl rfl rfl rfl rfl rfl rfl rfl rfl ?_ ?_ (AppB.of ?_ rfl) ?_; (focus (first | rfl | (simp <;> fail) | (simp; omega))); (focus (first | exact Elems.of rfl | exact Elems.map fun _ => rfl | exact PE.els _ (fun _ => rfl) _)); (focus (first | omega | (simp <;> fail) | (simp; omega)))) | (refine LOps.app0 tT_ok rfl rfl rfl rfl rfl rfl rfl rfl rfl rfl rfl ?_ (AppB.of ?_ rfl) ?_; (focus (first | exact Elems.of rfl | exact Elems.map fun _ => rfl | exact PE.els _ (fun _ => rfl) _)); (focus (first | omega | (simp <;> fail) | (simp; omega))))) | (refine kLoad ?_; first | (refine LOps.ans (AnsL.loadP tT_ok rfl rfl rfl rfl) ?_)) | (refine kLen ?_; first | (refine LOps.ans (AnsL.lenM tT_ok rfl rfl rfl) ?_) | (refine LOps.ans (AnsL.lenS tT_ok rfl rfl rfl rfl) ?_) | (refine LOps.ans (AnsL.lenG tT_ok rfl rfl rfl) ?_)) | (refine kBin ?_; first | (refine LOps.ans (AnsL.add rfl rfl ?_) ?_; (focus (constructor <;> omega))) | (refine LOps.ans (AnsL.arith rfl rfl rfl) ?_)) | (refine kIdx ?_; first | (refine LOps.ans (AnsL.idxA tT_ok rfl rfl rfl rfl rfl (by omega) rfl rfl) ?_) | (refine LOps.ans (AnsL.idxZ tT_ok rfl rfl rfl rfl rfl ?_ rfl rfl rfl) ?_; (focus (decide)))))
      | (refine kWL ?_; first | (refine WL.seq ?_) | (refine WL.region (by kernel_rfl) ?_) | (refine WL.block ?_) | (refine WL.exit ?_) | (refine WL.skip ?_) | (refine WL.ret ?_) | (refine kCond ?_; first | (refine WL.condT rfl ?_) | (refine WL.condF rfl ?_) | (refine WL.condT' rfl ?_ ?_; (focus (first | (assumption) | (exact decide_eq_true (by assumption)) | (exact decide_eq_false (by assumption)) | (simp only [decide_eq_true_eq, decide_eq_false_iff_not, Bool.not_eq_true', Bool.not_eq_false', Int.ofNat_lt, Int.ofNat_le, Int.ofNat_inj, not_true_eq_false, not_false_eq_true]; omega) | (simp <;> fail)))) | (refine WL.condF' rfl ?_ ?_; (focus (first | (assumption) | (exact decide_eq_true (by assumption)) | (exact decide_eq_false (by assumption)) | (simp only [decide_eq_true_eq, decide_eq_false_iff_not, Bool.not_eq_true', Bool.not_eq_false', Int.ofNat_lt, Int.ofNat_le, Int.ofNat_inj, not_true_eq_false, not_false_eq_true]; omega) | (simp <;> fail)))) | (refine WL.cond rfl (fun h => ?_) (fun h => ?_))))
      | (refine lthen_n ?_)
      | (refine lthen_r ?_)
      | (refine lthen_e ?_)
      | (refine lblock_n ?_)
      | (refine lblock_r ?_)
      | (refine lblock_e ?_)
      | (refine lblock_o rfl ?_)
      | (refine lback_r ?_)
      | (refine lback_e ?_)
      | (refine lbackD_r ?_)
      | (refine lbackD_e ?_)
      | (refine lbackH_r ?_)
      | (refine lbackH_e ?_)
      | (refine LPost.r1 (r := .tmp 6) (.inl rfl) (Res1.tmp rfl) ?_)
      | (refine PureR.mk ?_)
    simp [ints, Scope.matches, show i = c.names.length by omega]

/-- What is found: which scope, which column of it; and how it went. -/
def findFrom (qual name : List UInt8) : List Scope → Nat → Bind × Int
  | [], _ => (⟨0, 0, 0⟩, 3)
  | s :: env, up => match s.matches qual name with
    | [] => findFrom qual name env (up + 1)
    | [a] => (⟨up, a, (s.names[a.toNat]?.map Named.type).getD 0⟩, 0)
    | _ => (⟨0, 0, 0⟩, 4)
theorem hits_lt {α : Type} {p : α → Bool} {xs : List α} : ∀ {i : Nat} {a : Int}, a ∈ hits p xs i → 0 ≤ a ∧ a < i ∧ a < xs.length
  | 0, a, h => by cases h
  | i + 1, a, h => by
    unfold hits at h
    rcases List.mem_append.1 h with h | h
    · have := hits_lt h; omega
    · split at h
      · rename_i x hx
        have hl := (List.getElem?_eq_some_iff.1 hx).1
        split at h
        · simp at h; omega
        · cases h
      · cases h
def findV (r : Bind × Int) : V := .tup [r.1.toV, .int .i64 r.2]
@[simp] theorem findV_dat (r : Bind × Int) : (findV r).dat = true := by simp [findV]
theorem find_drop {qual name : List UInt8} {env : List Scope} {i : Nat} (h : i < env.length) : findFrom qual name (env.drop i) i = match env[i].matches qual name with
    | [] => findFrom qual name (env.drop (i + 1)) (i + 1)
    | [a] => (⟨i, a, (env[i].names[a.toNat]?.map Named.type).getD 0⟩, 0)
    | _ => (⟨0, 0, 0⟩, 4) := by
  rw [List.drop_eq_getElem_cons h, findFrom]




end Go.Proofs.Ytehmlklfbllgcaa
