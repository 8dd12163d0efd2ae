/-
  Values and whether a row's values fit types, of the program and of the reference. Own work; no condition.
-/
import Derived.Test.YtoededaekidbcaaDScope
namespace Go.Proofs.Ytoededaekidbcaa
open Go
set_option linter.unusedSimpArgs false
set_option linter.unusedVariables false

def inR (x lo hi : Int) : Bool := decide (lo ≤ x) && decide (x ≤ hi)
theorem specl1In_v (x lo hi : Int) (s : S) : VCalls Try.prog 35 [.int .i64 x, .int .i64 lo, .int .i64 hi] s (fun v s' => v = .bool (inR x lo hi) ∧ s' = s) := by
  refine LCalls.pure Try.func35 rfl (by kernel_rfl) (by simp) ?_
  repeat' first
    | (refine kOps ?_; first | (refine LOps.nil ?_) | (refine kG ?_; first | (refine LOps.gT rfl rfl rfl ?_) | (refine LOps.gF rfl rfl rfl ?_) | (refine LOps.gC rfl rfl rfl (fun h => ?_) (fun h => ?_))) | (refine LOps.ev tT_ok rfl ?_))
    | (refine kWL ?_; first | (refine WL.seq ?_) | (refine WL.region (by kernel_rfl) ?_) | (refine WL.ret ?_))
    | (refine lthen_n ?_)
    | (refine LPost.r1 (r := .tmp 6) (.inl rfl) (Res1.tmp rfl) ?_)
    | (refine PureR.mk ?_)
  all_goals (simp_all [inR] <;> omega)

def Val.ok (v : Val) : Bool :=
  if v.kind = 0 then decide (v.num = 0) && decide (v.text = []) else if v.kind = 1 then decide (v.text = []) else
  if v.kind = 2 then decide (v.num = 0) && decide ((v.text.length : Int) ≤ 200) else if v.kind = 3 then inR v.num 0 1 && decide (v.text = []) else false
def Val.fits (v : Val) (ty : Int) : Bool := v.ok && (decide (v.kind = 0) || decide (v.kind = ty))
theorem inR01 {n : Int} : inR n 0 1 = (decide (n = 0) || decide (n = 1)) := by
  unfold inR
  by_cases h0 : n = 0
  · subst h0; decide
  by_cases h1 : n = 1
  · subst h1; decide
  simp only [h0, h1, decide_false, Bool.or_self, Bool.and_eq_false_iff, decide_eq_false_iff_not]
  omega


/-- Whether the rest of a row fits the rest of the types. -/
def fitsAll : List Val → List Int → Bool
  | v :: vs, t :: ts => v.fits t && fitsAll vs ts
  | _, _ => true
def rowFits (row : List Val) (types : List Int) : Bool := decide (row.length = types.length) && fitsAll row types
theorem fitsAll_drop {row : List Val} {types : List Int} {i : Nat} (h1 : i < row.length) (h2 : i < types.length) : fitsAll (row.drop i) (types.drop i) = (row[i].fits types[i] && fitsAll (row.drop (i + 1)) (types.drop (i + 1))) := by
  rw [List.drop_eq_getElem_cons h1, List.drop_eq_getElem_cons h2, fitsAll]


theorem eqIntS_v (xs : List Int) (h : xs.length ≤ 9223372036854775807) (s : S) : VCalls Try.prog 30 [ints xs, ints xs] s (fun v s' => v = .bool true ∧ s' = s) := by
  refine LCalls.pure Try.func30 rfl (by kernel_rfl) (by simp) ?_
  repeat' first
    | (refine kOps ?_; first | (refine LOps.nil ?_) | (refine LOps.ev tT_ok rfl ?_) | (refine kLen ?_; first | (refine LOps.ans (AnsL.lenM tT_ok rfl rfl rfl) ?_)))
    | (refine kWL ?_; first | (refine WL.seq ?_) | (refine WL.region (by kernel_rfl) ?_) | (refine WL.block ?_) | (refine WL.skip ?_) | (refine kCond ?_; first | (refine WL.condF' rfl ?_ ?_; (focus (first | (simp <;> fail))))))
    | (refine lthen_n ?_)
  refine WL.loopD (fun i : Nat => xs.length - i) (fun i => [(0, ints xs), (1, ints xs), (5, .int .i64 (i : Int))]) (fun i => [])
    (fun i => i ≤ xs.length) 0 0 (by simp) (fun _ => rfl) ⟨rfl, rfl, rfl, trivial⟩ rfl (fun i hi => ?_) (fun i hi => ?_)
  · simp [UnderK, UnderX, V.under, V.underL, ints]
  rcases Nat.lt_or_ge i xs.length with hlt | hge
  · skip
    repeat' first
      | (refine kOps ?_; first | (refine LOps.nil ?_) | (refine LOps.ev tT_ok rfl ?_) | (refine kLen ?_; first | (refine LOps.ans (AnsL.lenM tT_ok rfl rfl rfl) ?_)) | (refine kBin ?_; first | (refine LOps.ans (AnsL.add rfl rfl ?_) ?_; (focus (constructor <;> omega)))))
      | (refine kWL ?_; first | (refine WL.seq ?_) | (refine WL.region (by kernel_rfl) ?_) | (refine WL.drawn (id := 6) [0, 1, 2, 3, 4, 5, 6, 7, 8] [] [[], [], [0, 1], [0, 1, 2], [], [], [4, 5], [4, 5, 6], [0, 1, 2, 3, 4, 5, 6, 7]] (by kernel_rfl) (by kernel_rfl) ?_) | (refine WL.block ?_) | (refine WL.skip ?_) | (refine kCond ?_; first | (refine WL.condT' rfl ?_ ?_; (focus (first | (simp only [decide_eq_true_eq, decide_eq_false_iff_not, Bool.not_eq_true', Bool.not_eq_false', Int.ofNat_lt, Int.ofNat_le, Int.ofNat_inj, not_true_eq_false, not_false_eq_true]; omega)))) | (refine WL.condF' rfl ?_ ?_; (focus (first | (simp <;> fail))))))
      | (refine kDr ?_; first | (refine LDr.nil ?_) | (refine LDr.fl rfl rfl (.ev tT_ok rfl) ?_) | (refine kDIdx rfl ?_; first | (refine LDr.fl rfl rfl (AnsL.idxA tT_ok rfl rfl rfl rfl rfl (by omega) rfl rfl) ?_)))
      | (refine lthen_n ?_)
      | (refine lblock_n ?_)
    all_goals
      refine lbackD.of (i + 1) ?_ ?_ ?_ ?_
      · first | omega | (refine ⟨?_, ?_⟩; (focus (first | omega | (simp; omega))); (first | omega | (simp_all [] <;> fail) | (simp_all []; omega))) | (simp_all [] <;> fail) | (simp_all []; omega)
      · first | omega | (simp; omega) | simp_all
      · repeat' first
          | exact SubL.nil
          | (refine SubL.mk rfl ?_ ?_)
          | rfl
          | (simp [] <;> fail)
          | (simp []; omega)
      · first | rfl | (simp [] <;> fail) | (simp []; omega)
  · skip
    repeat' first
      | (refine kOps ?_; first | (refine LOps.nil ?_) | (refine LOps.ev tT_ok rfl ?_) | (refine kLen ?_; first | (refine LOps.ans (AnsL.lenM tT_ok rfl rfl rfl) ?_)))
      | (refine kWL ?_; first | (refine WL.seq ?_) | (refine WL.region (by kernel_rfl) ?_) | (refine WL.exit ?_) | (refine WL.ret ?_) | (refine kCond ?_; first | (refine WL.condF' rfl ?_ ?_; (focus (first | (simp only [decide_eq_true_eq, decide_eq_false_iff_not, Bool.not_eq_true', Bool.not_eq_false', Int.ofNat_lt, Int.ofNat_le, Int.ofNat_inj, not_true_eq_false, not_false_eq_true]; omega))))))
      | (refine lthen_n ?_)
      | (refine lthen_e ?_)
      | (refine lblock_e ?_)
      | (refine lbackD_e ?_)
      | (refine LPost.r1 (r := .tmp 4) (.inl rfl) (Res1.tmp rfl) ?_)
      | (refine PureR.mk ?_)
    rfl

end Go.Proofs.Ytoededaekidbcaa
