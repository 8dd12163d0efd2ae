/-
  Values and whether a row's values fit types, of the program and of the reference. Own work; no condition.
-/
import Derived.Test.YtpnabgllpgodmaaDoorDScope
namespace Go.Proofs.YtpnabgllpgodmaaDoor
open Go
set_option linter.unusedSimpArgs false
set_option linter.unusedVariables false

def inR (x lo hi : Int) : Bool := decide (lo ≤ x) && decide (x ≤ hi)
theorem specl1In_v (x lo hi : Int) (s : S) : VCalls Tryd.prog 12 [.int .i64 x, .int .i64 lo, .int .i64 hi] s (fun v s' => v = .bool (inR x lo hi) ∧ s' = s) := by
  refine LCalls.pure Tryd.func12 rfl (by kernel_rfl) (by simp) ?_
  repeat' first
    | (refine kOps ?_; first | (refine LOps.nil ?_) | (refine kG ?_; first | (refine LOps.gT rfl rfl rfl ?_) | (refine LOps.gF rfl rfl rfl ?_) | (refine LOps.gU rfl rfl ?_) | (refine LOps.gFN rfl rfl rfl ?_) | (refine LOps.gD true rfl rfl rfl ?_ ?_; (focus (first | (assumption) | (exact decide_eq_true (by assumption)) | (exact decide_eq_false (by assumption)) | (simp only [decide_eq_true_eq, decide_eq_false_iff_not, Bool.not_eq_true', Bool.not_eq_false', Int.ofNat_lt, Int.ofNat_le, Int.ofNat_inj, not_true_eq_false, not_false_eq_true]; omega) | (simp <;> fail)))) | (refine LOps.gD false rfl rfl rfl ?_ ?_; (focus (first | (assumption) | (exact decide_eq_true (by assumption)) | (exact decide_eq_false (by assumption)) | (simp only [decide_eq_true_eq, decide_eq_false_iff_not, Bool.not_eq_true', Bool.not_eq_false', Int.ofNat_lt, Int.ofNat_le, Int.ofNat_inj, not_true_eq_false, not_false_eq_true]; omega) | (simp <;> fail)))) | (refine LOps.gC rfl rfl rfl (fun h => ?_) (fun h => ?_))) | (refine LOps.ev tT_ok rfl ?_))
    | (refine kWL ?_; first | (refine WL.seq ?_) | (refine WL.region (by kernel_rfl) ?_) | (refine WL.skip ?_) | (refine WL.ret ?_) | (refine kCond ?_; first | (refine WL.condT rfl ?_) | (refine WL.condF rfl ?_) | (refine WL.condT' rfl ?_ ?_; (focus (first | (assumption) | (exact decide_eq_true (by assumption)) | (exact decide_eq_false (by assumption)) | (simp only [decide_eq_true_eq, decide_eq_false_iff_not, Bool.not_eq_true', Bool.not_eq_false', Int.ofNat_lt, Int.ofNat_le, Int.ofNat_inj, not_true_eq_false, not_false_eq_true]; omega) | (simp <;> fail)))) | (refine WL.condF' rfl ?_ ?_; (focus (first | (assumption) | (exact decide_eq_true (by assumption)) | (exact decide_eq_false (by assumption)) | (simp only [decide_eq_true_eq, decide_eq_false_iff_not, Bool.not_eq_true', Bool.not_eq_false', Int.ofNat_lt, Int.ofNat_le, Int.ofNat_inj, not_true_eq_false, not_false_eq_true]; omega) | (simp <;> fail)))) | (refine WL.cond rfl (fun h => ?_) (fun h => ?_))))
    | (refine lthen_n ?_)
    | (refine lthen_r ?_)
    | (refine lback_r ?_)
    | (refine lback_e ?_)
    | (refine lbackD_r ?_)
    | (refine lbackD_e ?_)
    | (refine lbackH_r ?_)
    | (refine lbackH_e ?_)
    | (refine LPost.r1 (r := .tmp 6) (.inl rfl) (Res1.tmp rfl) ?_)
    | (refine PureR.mk ?_)
  all_goals (simp_all [inR] <;> omega)

def Val.ok (v : Val) : Bool :=
  if v.kind = 0 then decide (v.num = 0) && decide (v.text = []) else if v.kind = 1 then decide (v.text = []) else
  if v.kind = 2 then decide (v.num = 0) && decide ((v.text.length : Int) ≤ 200) else if v.kind = 3 then inR v.num 0 1 && decide (v.text = []) else false
def Val.fits (v : Val) (ty : Int) : Bool := v.ok && (decide (v.kind = 0) || decide (v.kind = ty))
theorem inR01 {n : Int} : inR n 0 1 = (decide (n = 0) || decide (n = 1)) := by
  unfold inR
  by_cases h0 : n = 0
  · subst h0; decide
  by_cases h1 : n = 1
  · subst h1; decide
  simp only [h0, h1, decide_false, Bool.or_self, Bool.and_eq_false_iff, decide_eq_false_iff_not]
  omega


/-- Whether the rest of a row fits the rest of the types. -/
def fitsAll : List Val → List Int → Bool
  | v :: vs, t :: ts => v.fits t && fitsAll vs ts
  | _, _ => true
def rowFits (row : List Val) (types : List Int) : Bool := decide (row.length = types.length) && fitsAll row types
theorem fitsAll_drop {row : List Val} {types : List Int} {i : Nat} (h1 : i < row.length) (h2 : i < types.length) : fitsAll (row.drop i) (types.drop i) = (row[i].fits types[i] && fitsAll (row.drop (i + 1)) (types.drop (i + 1))) := by
  rw [List.drop_eq_getElem_cons h1, List.drop_eq_getElem_cons h2, fitsAll]



end Go.Proofs.YtpnabgllpgodmaaDoor
