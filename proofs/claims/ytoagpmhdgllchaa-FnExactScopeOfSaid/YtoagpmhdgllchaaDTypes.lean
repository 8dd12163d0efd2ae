/-
  TypesOf, Matches and StarOf: results in new memory, and the laws. Own work; no condition.
-/
import Derived.Test.YtoagpmhdgllchaaVFill
import Derived.Test.YtoagpmhdgllchaaDOwn
import Derived.Test.YtoagpmhdgllchaaDStar
namespace Go.Proofs.Ytoagpmhdgllchaa
open Go
set_option linter.unusedSimpArgs false
set_option linter.unusedVariables false

def Tab.types (t : Tab) : List Int := t.cols.map Col.type
theorem hits_take {α : Type} (p : α → Bool) (xs : List α) : hits p xs xs.length = hits p xs xs.length := rfl
theorem sc_ints (l : List Int) : sc (ints l) ≤ l.length := by
  have := scL_map (f := iV) 1 (fun _ => Nat.le_refl 1) l
  simp only [ints, sc]; omega
theorem nk_ints (l : List Int) (h : l.length ≤ 10000000) : nkT (ints l) 1 ≤ 4000000000000 := by
  have h1 := sc_ints l
  have h2 := nkT_sc (ints l) 1
  omega




theorem implStarOf_o (c : Scope) (qual : List UInt8) (h : c.wt ≤ 1048576) (s : S) : VCalls Try.prog 12 [c.toV, .str qual] s (fun v t => Own2 (ints (c.star qual)) v t) := by
  simp only [Scope.wt] at h
  have hl := len_slW Named.wt c.names
  refine LCalls.body Try.func12 rfl (by kernel_rfl) ?_
  repeat' first
    | (refine kOps ?_; first | (refine LOps.nil ?_) | (refine LOps.ev tT_ok rfl ?_) | (refine kBox ?_; refine LOps.box rfl rfl rfl rfl ?_) | (refine kBsl ?_; first | (refine LOps.bsl0 tT_ok rfl rfl rfl rfl rfl ?_)) | (refine kLoad ?_; first | (refine LOps.ans (AnsL.loadP tT_ok rfl rfl rfl rfl) ?_)) | (refine kLen ?_; first | (refine LOps.ans (AnsL.lenM tT_ok rfl rfl rfl) ?_)))
    | (refine kWL ?_; first | (refine WL.seq ?_) | (refine WL.region (by kernel_rfl) ?_) | (refine WL.block ?_))
    | (refine lthen_n ?_)
  refine WL.zfam (t := 5) 1 rfl rfl rfl rfl ?_
  refine WL.loopD (fun i : Nat => c.names.length - i) (fun i => [(1, .str qual), (10, .sl 0 (c.names.map Named.toV)), (11, .int .i64 c.names.length), (5, .sl (s.next + 1) ((hits (starP qual) c.names i).map iV)), (12, .int .i64 (i : Int))])
    (fun i => [.var [.sl 0 (c.names.map Named.toV)], .fam (hits (starP qual) c.names i).length 1])
    (fun i => i ≤ c.names.length) 2 0 (by simp) (fun _ => rfl) ⟨rfl, rfl, rfl, rfl, rfl, trivial⟩ rfl (fun i hi => ?_) (fun i hi => ?_)
  · simp [UnderK, UnderX, Own.under, V.under, V.underL]
  have hh := hits_len (starP qual) c.names i
  rcases Nat.lt_or_ge i c.names.length with hlt | hge
  · skip
    repeat' first
      | (refine kOps ?_; first | (refine LOps.nil ?_) | (refine kG ?_; first | (refine LOps.gT rfl rfl rfl ?_) | (refine LOps.gF rfl rfl rfl ?_) | (refine LOps.gC rfl rfl rfl (fun h => ?_) (fun h => ?_))) | (refine kStore ?_; refine LOps.storeP tT_ok rfl rfl rfl rfl rfl rfl rfl rfl rfl ?_) | (refine LOps.ev tT_ok rfl ?_) | (refine kAlloc ?_; refine LOps.alloc tT_ok rfl rfl rfl rfl ?_) | (refine kBsl ?_; first | (refine LOps.bsl tT_ok rfl rfl rfl rfl rfl rfl rfl rfl rfl rfl rfl ?_)) | (refine kApp ?_; first | (refine LOps.app tT_ok rfl rfl rfl rfl rfl rfl rfl rfl rfl rfl rfl ?_ ?_ (AppB.of ?_ rfl) ?_; (focus (first | rfl | (simp <;> fail))); (focus (first | exact Elems.of rfl | exact Elems.map fun _ => rfl | exact PE.els _ (fun _ => rfl) _)); (focus (first | omega | (simp; omega))))) | (refine kLoad ?_; first | (refine LOps.ans (AnsL.loadP tT_ok rfl rfl rfl rfl) ?_)) | (refine kBin ?_; first | (refine LOps.ans (AnsL.add rfl rfl ?_) ?_; (focus (constructor <;> omega)))) | (refine kIdx ?_; first | (refine LOps.ans (AnsL.idxA tT_ok rfl rfl rfl rfl rfl (by omega) rfl rfl) ?_)))
      | (refine kWL ?_; first | (refine WL.seq ?_) | (refine WL.region (by kernel_rfl) ?_) | (refine WL.block ?_) | (refine WL.skip ?_) | (refine kCond ?_; first | (refine WL.condT rfl ?_) | (refine WL.condT' rfl ?_ ?_; (focus (first | (simp only [decide_eq_true_eq, decide_eq_false_iff_not, Bool.not_eq_true', Bool.not_eq_false', Int.ofNat_lt, Int.ofNat_le, Int.ofNat_inj, not_true_eq_false, not_false_eq_true]; omega)))) | (refine WL.cond rfl (fun h => ?_) (fun h => ?_))))
      | (refine lthen_n ?_)
      | (refine lblock_n ?_)
    all_goals
      refine lbackD.of (i + 1) ?_ ?_ ?_ ?_
      · first | omega | (refine ⟨?_, ?_⟩; (focus (first | omega | (simp; omega))); (first | omega | (simp_all [hits_succ hlt, starP, iV] <;> fail) | (simp_all [hits_succ hlt, starP, iV]; omega))) | (simp_all [hits_succ hlt, starP, iV] <;> fail) | (simp_all [hits_succ hlt, starP, iV]; omega)
      · first | omega | (simp; omega) | simp_all
      · repeat' first
          | exact SubL.nil
          | (refine SubL.mk rfl ?_ ?_)
          | rfl
          | (simp [hits_succ hlt, starP, iV, *] <;> fail)
          | (simp [hits_succ hlt, starP, iV, *]; omega)
      · first | rfl | (simp [hits_succ hlt, starP, iV, *] <;> fail) | (simp [hits_succ hlt, starP, iV, *]; omega)
  · have hi2 : i = c.names.length := by omega
    subst hi2
    repeat' first
      | (refine kOps ?_; first | (refine LOps.nil ?_) | (refine LOps.ev tT_ok rfl ?_))
      | (refine kWL ?_; first | (refine WL.seq ?_) | (refine WL.region (by kernel_rfl) ?_) | (refine WL.exit ?_) | (refine WL.ret ?_) | (refine kCond ?_; first | (refine WL.condF' rfl ?_ ?_; (focus (first | (simp only [decide_eq_true_eq, decide_eq_false_iff_not, Bool.not_eq_true', Bool.not_eq_false', Int.ofNat_lt, Int.ofNat_le, Int.ofNat_inj, not_true_eq_false, not_false_eq_true]; omega))))))
      | (refine lthen_n ?_)
      | (refine lthen_e ?_)
      | (refine lblock_e ?_)
      | (refine lbackD_e ?_)
      | (refine LPost.r1 (r := .tmp 4) (.inl rfl) (Res1.tmp rfl) ?_)
    exact Own2.fam (f := iV) (cs := c.star qual) (szf := 1) 1 rfl (fun _ => rfl) (fun _ => rfl)


theorem implMatches_o (c : Scope) (qual name : List UInt8) (h : c.wt ≤ 1048576) (s : S) : VCalls Try.prog 38 [c.toV, .str qual, .str name] s (fun v t => Own2 (ints (c.matches qual name)) v t) := by
  simp only [Scope.wt] at h
  have hl := len_slW Named.wt c.names
  refine LCalls.body Try.func38 rfl (by kernel_rfl) ?_
  repeat' first
    | (refine kOps ?_; first | (refine LOps.nil ?_) | (refine LOps.ev tT_ok rfl ?_) | (refine kBox ?_; refine LOps.box rfl rfl rfl rfl ?_) | (refine kBsl ?_; first | (refine LOps.bsl0 tT_ok rfl rfl rfl rfl rfl ?_)) | (refine kLoad ?_; first | (refine LOps.ans (AnsL.loadP tT_ok rfl rfl rfl rfl) ?_)) | (refine kLen ?_; first | (refine LOps.ans (AnsL.lenM tT_ok rfl rfl rfl) ?_)))
    | (refine kWL ?_; first | (refine WL.seq ?_) | (refine WL.region (by kernel_rfl) ?_) | (refine WL.block ?_))
    | (refine lthen_n ?_)
  refine WL.zfam (t := 7) 1 rfl rfl rfl rfl ?_
  refine WL.loopD (fun i : Nat => c.names.length - i) (fun i => [(1, .str qual), (2, .str name), (12, .sl 0 (c.names.map Named.toV)), (13, .int .i64 c.names.length), (7, .sl (s.next + 1) ((hits (matchP qual name) c.names i).map iV)), (14, .int .i64 (i : Int))])
    (fun i => [.var [.sl 0 (c.names.map Named.toV)], .fam (hits (matchP qual name) c.names i).length 1])
    (fun i => i ≤ c.names.length) 2 0 (by simp) (fun _ => rfl) ⟨rfl, rfl, rfl, rfl, rfl, rfl, trivial⟩ rfl (fun i hi => ?_) (fun i hi => ?_)
  · simp [UnderK, UnderX, Own.under, V.under, V.underL]
  have hh := hits_len (matchP qual name) c.names i
  rcases Nat.lt_or_ge i c.names.length with hlt | hge
  · skip
    repeat' first
      | (refine kOps ?_; first | (refine LOps.nil ?_) | (refine kG ?_; first | (refine LOps.gT rfl rfl rfl ?_) | (refine LOps.gF rfl rfl rfl ?_) | (refine LOps.gU rfl rfl ?_) | (refine LOps.gC rfl rfl rfl (fun h => ?_) (fun h => ?_))) | (refine kStore ?_; refine LOps.storeP tT_ok rfl rfl rfl rfl rfl rfl rfl rfl rfl ?_) | (refine LOps.ev tT_ok rfl ?_) | (refine kAlloc ?_; refine LOps.alloc tT_ok rfl rfl rfl rfl ?_) | (refine kBsl ?_; first | (refine LOps.bsl tT_ok rfl rfl rfl rfl rfl rfl rfl rfl rfl rfl rfl ?_)) | (refine kApp ?_; first | (refine LOps.app tT_ok rfl rfl rfl rfl rfl rfl rfl rfl rfl rfl rfl ?_ ?_ (AppB.of ?_ rfl) ?_; (focus (first | rfl | (simp <;> fail))); (focus (first | exact Elems.of rfl | exact Elems.map fun _ => rfl | exact PE.els _ (fun _ => rfl) _)); (focus (first | omega | (simp; omega))))) | (refine kLoad ?_; first | (refine LOps.ans (AnsL.loadP tT_ok rfl rfl rfl rfl) ?_)) | (refine kBin ?_; first | (refine LOps.ans (AnsL.add rfl rfl ?_) ?_; (focus (constructor <;> omega)))) | (refine kIdx ?_; first | (refine LOps.ans (AnsL.idxA tT_ok rfl rfl rfl rfl rfl (by omega) rfl rfl) ?_)))
      | (refine kWL ?_; first | (refine WL.seq ?_) | (refine WL.region (by kernel_rfl) ?_) | (refine WL.block ?_) | (refine WL.skip ?_) | (refine kCond ?_; first | (refine WL.condT rfl ?_) | (refine WL.condF rfl ?_) | (refine WL.condT' rfl ?_ ?_; (focus (first | (simp only [decide_eq_true_eq, decide_eq_false_iff_not, Bool.not_eq_true', Bool.not_eq_false', Int.ofNat_lt, Int.ofNat_le, Int.ofNat_inj, not_true_eq_false, not_false_eq_true]; omega)))) | (refine WL.cond rfl (fun h => ?_) (fun h => ?_))))
      | (refine lthen_n ?_)
      | (refine lblock_n ?_)
    all_goals
      refine lbackD.of (i + 1) ?_ ?_ ?_ ?_
      · first | omega | (refine ⟨?_, ?_⟩; (focus (first | omega | (simp; omega))); (first | omega | (simp_all [hits_succ hlt, matchP, starP, iV] <;> fail) | (simp_all [hits_succ hlt, matchP, starP, iV]; omega))) | (simp_all [hits_succ hlt, matchP, starP, iV] <;> fail) | (simp_all [hits_succ hlt, matchP, starP, iV]; omega)
      · first | omega | (simp; omega) | simp_all
      · repeat' first
          | exact SubL.nil
          | (refine SubL.mk rfl ?_ ?_)
          | rfl
          | (simp [hits_succ hlt, matchP, starP, iV, *] <;> fail)
          | (simp [hits_succ hlt, matchP, starP, iV, *]; omega)
      · first | rfl | (simp [hits_succ hlt, matchP, starP, iV, *] <;> fail) | (simp [hits_succ hlt, matchP, starP, iV, *]; omega)
  · have hi2 : i = c.names.length := by omega
    subst hi2
    repeat' first
      | (refine kOps ?_; first | (refine LOps.nil ?_) | (refine LOps.ev tT_ok rfl ?_))
      | (refine kWL ?_; first | (refine WL.seq ?_) | (refine WL.region (by kernel_rfl) ?_) | (refine WL.exit ?_) | (refine WL.ret ?_) | (refine kCond ?_; first | (refine WL.condF' rfl ?_ ?_; (focus (first | (simp only [decide_eq_true_eq, decide_eq_false_iff_not, Bool.not_eq_true', Bool.not_eq_false', Int.ofNat_lt, Int.ofNat_le, Int.ofNat_inj, not_true_eq_false, not_false_eq_true]; omega))))))
      | (refine lthen_n ?_)
      | (refine lthen_e ?_)
      | (refine lblock_e ?_)
      | (refine lbackD_e ?_)
      | (refine LPost.r1 (r := .tmp 6) (.inl rfl) (Res1.tmp rfl) ?_)
    exact Own2.fam (f := iV) (cs := c.matches qual name) (szf := 1) 1 rfl (fun _ => rfl) (fun _ => rfl)



end Go.Proofs.Ytoagpmhdgllchaa
