/-
  Values: ValueOk, FitsType, their copies and sizes, at the value level. Own work; no condition.
-/
import Derived.Test.YtkchiflcpecbeaaDType
namespace Go.Proofs.Ytkchiflcpecbeaa
open Go
set_option linter.unusedSimpArgs false
set_option maxHeartbeats 8000000

structure Val where
  kind : Int
  num : Int
  text : List UInt8

def Val.toV (v : Val) : V := .agg [.int .i64 v.kind, .int .i64 v.num, .str v.text]

def Val.ok (v : Val) : Bool :=
  if decide (v.kind = 0) then decide (v.num = 0) && decide (v.text = []) else if decide (v.kind = 1) then decide (v.text = []) else
  if decide (v.kind = 2) then decide (v.num = 0) && decide ((v.text.length : Int) ≤ 200) else if decide (v.kind = 3) then inR v.num 0 1 && decide (v.text = []) else false
def Val.fits (v : Val) (ty : Int) : Bool := v.ok && (decide (v.kind = 0) || decide (v.kind = ty))

theorem inR01_0 {n : Int} (h : decide (n = 0) = true) : inR n 0 1 = true := by simp [inR] at h ⊢; omega
theorem inR01_1 {n : Int} (h0 : decide (n = 0) = false) : inR n 0 1 = decide (n = 1) := by
  simp only [inR, decide_eq_false_iff_not] at h0 ⊢
  by_cases h : n = 1
  · subst h; decide
  · simp [h]; omega

theorem specValueOk_v (v : Val) (s : S) : VCalls Try.prog 37 [v.toV] s (fun r s' => r = .bool v.ok ∧ s' = s) := by
  obtain ⟨k, n, t⟩ := v
  simp only [Val.toV]
  refine VCalls.pureE Try.func37 rfl (by simp [Try.ntmps37]) (by simp) ?_
  rw [Try.ntmps37, Try.results37]
  cases h0 : decide (k = 0)
  case true =>
    cases n0 : decide (n = 0)
    all_goals
      repeat' first
        | (refine hK _ _ ?_; clear hK K)
        | (refine VWp.seqK fun K hK => ?_)
        | (refine VWp.region ?_; simp [h0, n0])
        | (refine VWp.ret ?_)
        | (refine VWp.block ?_)
        | (refine VWp.skip ?_; simp only [vthen])
        | (apply VWp.condT; focus (simp [h0, n0]; done))
        | (apply VWp.condF; focus (simp [h0, n0]; done))
      simp [Val.ok, h0, n0]
      exact ⟨_, rfl⟩
  cases h1 : decide (k = 1)
  case true =>
    repeat' first
      | (refine hK _ _ ?_; clear hK K)
      | (refine VWp.seqK fun K hK => ?_)
      | (refine VWp.region ?_; simp [h0, h1])
      | (refine VWp.ret ?_)
      | (refine VWp.block ?_)
      | (refine VWp.skip ?_; simp only [vthen])
      | (apply VWp.condT; focus (simp [h0, h1]; done))
      | (apply VWp.condF; focus (simp [h0, h1]; done))
    simp [Val.ok, h0, h1]
    exact ⟨_, rfl⟩
  cases h2 : decide (k = 2)
  case true =>
    cases n0 : decide (n = 0)
    all_goals
      repeat' first
        | (refine hK _ _ ?_; clear hK K)
        | (refine VWp.seqK fun K hK => ?_)
        | (refine VWp.region ?_; simp [h0, h1, h2, n0])
        | (refine VWp.ret ?_)
        | (refine VWp.block ?_)
        | (refine VWp.skip ?_; simp only [vthen])
        | (apply VWp.condT; focus (simp [h0, h1, h2, n0]; done))
        | (apply VWp.condF; focus (simp [h0, h1, h2, n0]; done))
      simp [Val.ok, h0, h1, h2, n0]
      exact ⟨_, rfl⟩
  cases h3 : decide (k = 3)
  case false =>
    repeat' first
      | (refine hK _ _ ?_; clear hK K)
      | (refine VWp.seqK fun K hK => ?_)
      | (refine VWp.region ?_; simp [h0, h1, h2, h3])
      | (refine VWp.ret ?_)
      | (refine VWp.block ?_)
      | (refine VWp.skip ?_; simp only [vthen])
      | (apply VWp.condT; focus (simp [h0, h1, h2, h3]; done))
      | (apply VWp.condF; focus (simp [h0, h1, h2, h3]; done))
    simp [Val.ok, h0, h1, h2, h3]
    exact ⟨_, rfl⟩
  cases n1 : inR n 0 1
  all_goals
    repeat' first
      | (refine hK _ _ ?_; clear hK K)
      | (refine VWp.seqK fun K hK => ?_)
      | (refine VWp.region ?_; simp [h0, h1, h2, h3, n1])
      | (refine VWp.ret ?_)
      | (refine VWp.block ?_)
      | (refine VWp.skip ?_; simp only [vthen])
      | (apply VWp.condT; focus (simp [h0, h1, h2, h3, n1]; done))
      | (apply VWp.condF; focus (simp [h0, h1, h2, h3, n1]; done))
      | (refine (specl1In_v _ _ _ _).mono ?_; rintro _ _ ⟨rfl, rfl⟩; try simp [h0, h1, h2, h3, n1])
    simp [Val.ok, h0, h1, h2, h3, n1]
    exact ⟨_, rfl⟩

theorem implValueOk_v (v : Val) (s : S) : VCalls Try.prog 38 [v.toV] s (fun r s' => r = .bool v.ok ∧ s' = s) := by
  obtain ⟨k, n, t⟩ := v
  simp only [Val.toV]
  refine VCalls.pureE Try.func38 rfl (by simp [Try.ntmps38]) (by simp) ?_
  rw [Try.ntmps38, Try.results38]
  cases h0 : decide (k = 0)
  case true =>
    cases n0 : decide (n = 0)
    all_goals
      repeat' first
        | (refine hK _ _ ?_; clear hK K)
        | (refine VWp.seqK fun K hK => ?_)
        | (refine VWp.region ?_; simp [h0, n0])
        | (refine VWp.ret ?_)
        | (refine VWp.block ?_)
        | (refine VWp.skip ?_; simp only [vthen])
        | (apply VWp.condT; focus (simp [h0, n0]; done))
        | (apply VWp.condF; focus (simp [h0, n0]; done))
      simp [Val.ok, h0, n0]
      exact ⟨_, rfl⟩
  cases h1 : decide (k = 1)
  case true =>
    repeat' first
      | (refine hK _ _ ?_; clear hK K)
      | (refine VWp.seqK fun K hK => ?_)
      | (refine VWp.region ?_; simp [h0, h1])
      | (refine VWp.ret ?_)
      | (refine VWp.block ?_)
      | (refine VWp.skip ?_; simp only [vthen])
      | (apply VWp.condT; focus (simp [h0, h1]; done))
      | (apply VWp.condF; focus (simp [h0, h1]; done))
    simp [Val.ok, h0, h1]
    exact ⟨_, rfl⟩
  cases h2 : decide (k = 2)
  case true =>
    cases n0 : decide (n = 0)
    all_goals
      repeat' first
        | (refine hK _ _ ?_; clear hK K)
        | (refine VWp.seqK fun K hK => ?_)
        | (refine VWp.region ?_; simp [h0, h1, h2, n0])
        | (refine VWp.ret ?_)
        | (refine VWp.block ?_)
        | (refine VWp.skip ?_; simp only [vthen])
        | (apply VWp.condT; focus (simp [h0, h1, h2, n0]; done))
        | (apply VWp.condF; focus (simp [h0, h1, h2, n0]; done))
      simp [Val.ok, h0, h1, h2, n0]
      exact ⟨_, rfl⟩
  cases h3 : decide (k = 3)
  case false =>
    repeat' first
      | (refine hK _ _ ?_; clear hK K)
      | (refine VWp.seqK fun K hK => ?_)
      | (refine VWp.region ?_; simp [h0, h1, h2, h3])
      | (refine VWp.ret ?_)
      | (refine VWp.block ?_)
      | (refine VWp.skip ?_; simp only [vthen])
      | (apply VWp.condT; focus (simp [h0, h1, h2, h3]; done))
      | (apply VWp.condF; focus (simp [h0, h1, h2, h3]; done))
    simp [Val.ok, h0, h1, h2, h3]
    exact ⟨_, rfl⟩
  cases n0 : decide (n = 0)
  case true =>
    repeat' first
      | (refine hK _ _ ?_; clear hK K)
      | (refine VWp.seqK fun K hK => ?_)
      | (refine VWp.region ?_; simp [h0, h1, h2, h3, n0])
      | (refine VWp.ret ?_)
      | (refine VWp.block ?_)
      | (refine VWp.skip ?_; simp only [vthen])
      | (apply VWp.condT; focus (simp [h0, h1, h2, h3, n0]; done))
      | (apply VWp.condF; focus (simp [h0, h1, h2, h3, n0]; done))
    simp [Val.ok, h0, h1, h2, h3, inR01_0 n0]
    exact ⟨_, rfl⟩
  cases n1 : decide (n = 1)
  all_goals
    repeat' first
      | (refine hK _ _ ?_; clear hK K)
      | (refine VWp.seqK fun K hK => ?_)
      | (refine VWp.region ?_; simp [h0, h1, h2, h3, n0, n1])
      | (refine VWp.ret ?_)
      | (refine VWp.block ?_)
      | (refine VWp.skip ?_; simp only [vthen])
      | (apply VWp.condT; focus (simp [h0, h1, h2, h3, n0, n1]; done))
      | (apply VWp.condF; focus (simp [h0, h1, h2, h3, n0, n1]; done))
    simp [Val.ok, inR01_1 n0, h0, h1, h2, h3, n0, n1]
    exact ⟨_, rfl⟩

theorem specFitsType_v (v : Val) (ty : Int) (s : S) : VCalls Try.prog 20 [v.toV, .int .i64 ty] s (fun r s' => r = .bool (v.fits ty) ∧ s' = s) := by
  obtain ⟨k, n, t⟩ := v
  simp only [Val.toV]
  refine VCalls.pureE Try.func20 rfl (by simp [Try.ntmps20]) (by simp) ?_
  rw [Try.ntmps20, Try.results20]
  cases ho : Val.ok ⟨k, n, t⟩
  case false =>
    repeat' first
      | (refine hK _ _ ?_; clear hK K)
      | (refine VWp.seqK fun K hK => ?_)
      | (refine VWp.region ?_; simp [ho])
      | (refine VWp.ret ?_)
      | (refine VWp.block ?_)
      | (refine VWp.skip ?_; simp only [vthen])
      | (apply VWp.condT; focus (simp [ho]; done))
      | (apply VWp.condF; focus (simp [ho]; done))
      | (refine (specValueOk_v ⟨_, _, _⟩ _).mono ?_; rintro _ _ ⟨rfl, rfl⟩; try simp [ho])
    simp [Val.fits, ho]
    exact ⟨_, rfl⟩
  cases h0 : decide (k = 0)
  all_goals
    repeat' first
      | (refine hK _ _ ?_; clear hK K)
      | (refine VWp.seqK fun K hK => ?_)
      | (refine VWp.region ?_; simp [ho, h0])
      | (refine VWp.ret ?_)
      | (refine VWp.block ?_)
      | (refine VWp.skip ?_; simp only [vthen])
      | (apply VWp.condT; focus (simp [ho, h0]; done))
      | (apply VWp.condF; focus (simp [ho, h0]; done))
      | (refine (specValueOk_v ⟨_, _, _⟩ _).mono ?_; rintro _ _ ⟨rfl, rfl⟩; try simp [ho, h0])
    simp [Val.fits, ho, h0]
    exact ⟨_, rfl⟩

theorem implFitsType_v (v : Val) (ty : Int) (s : S) : VCalls Try.prog 22 [v.toV, .int .i64 ty] s (fun r s' => r = .bool (v.fits ty) ∧ s' = s) := by
  obtain ⟨k, n, t⟩ := v
  simp only [Val.toV]
  refine VCalls.pureE Try.func22 rfl (by simp [Try.ntmps22]) (by simp) ?_
  rw [Try.ntmps22, Try.results22]
  cases ho : Val.ok ⟨k, n, t⟩
  case false =>
    repeat' first
      | (refine hK _ _ ?_; clear hK K)
      | (refine VWp.seqK fun K hK => ?_)
      | (refine VWp.region ?_; simp [ho])
      | (refine VWp.ret ?_)
      | (refine VWp.block ?_)
      | (refine VWp.skip ?_; simp only [vthen])
      | (apply VWp.condT; focus (simp [ho]; done))
      | (apply VWp.condF; focus (simp [ho]; done))
      | (refine (implValueOk_v ⟨_, _, _⟩ _).mono ?_; rintro _ _ ⟨rfl, rfl⟩; try simp [ho])
    simp [Val.fits, ho]
    exact ⟨_, rfl⟩
  cases h0 : decide (k = 0)
  all_goals
    repeat' first
      | (refine hK _ _ ?_; clear hK K)
      | (refine VWp.seqK fun K hK => ?_)
      | (refine VWp.region ?_; simp [ho, h0])
      | (refine VWp.ret ?_)
      | (refine VWp.block ?_)
      | (refine VWp.skip ?_; simp only [vthen])
      | (apply VWp.condT; focus (simp [ho, h0]; done))
      | (apply VWp.condF; focus (simp [ho, h0]; done))
      | (refine (implValueOk_v ⟨_, _, _⟩ _).mono ?_; rintro _ _ ⟨rfl, rfl⟩; try simp [ho, h0])
    simp [Val.fits, ho, h0]
    exact ⟨_, rfl⟩

/-- What is left behind a string. -/
def szStr (t : List UInt8) (left : Int) : Int := if decide (left - t.length < 0) then -1 else left - t.length
def Val.sz (v : Val) (left : Int) : Int := szStr v.text left
theorem szStr_le {t : List UInt8} {left : Int} (h : 0 ≤ left) : szStr t left ≤ left ∧ -1 ≤ szStr t left := by
  unfold szStr; split <;> simp_all <;> omega

theorem szValue_v (v : Val) (left : Int) (h0 : 0 ≤ left) (h1 : left ≤ 1048576) (s : S) : VCalls Try.prog 19 [v.toV, .int .i64 left] s (fun r s' => r = .int .i64 (v.sz left) ∧ s' = s) := by
  refine VCalls.wf fun hwf => ?_
  obtain ⟨k, n, t⟩ := v
  simp [Val.toV, V.wf, V.wfL] at hwf
  have ht : t.length ≤ maxLen := hwf.1.2.2
  have hw : IntKind.i64.wrap (left - t.length) = left - t.length := by rw [IntKind.wrap_i64]; unfold maxLen at ht; omega
  simp only [Val.toV]
  refine VCalls.pureE Try.func19 rfl (by simp [Try.ntmps19]) (by simp) ?_
  rw [Try.ntmps19, Try.results19]
  cases h : decide (left - (t.length : Int) < 0)
  all_goals
    repeat' first
      | (refine hK _ _ ?_; clear hK K)
      | (refine VWp.seqK fun K hK => ?_)
      | (refine VWp.region ?_; simp [hw, h])
      | (refine VWp.ret ?_)
      | (refine VWp.block ?_)
      | (refine VWp.skip ?_; simp only [vthen])
      | (apply VWp.condT; focus (simp [hw, h]; done))
      | (apply VWp.condF; focus (simp [hw, h]; done))
    simp [Val.sz, szStr, hw, hw, h]
    exact ⟨_, rfl⟩

theorem toValue_v (v : Val) (s : S) : VCalls Try.prog 21 [v.toV] s (fun r s' => r = v.toV ∧ s' = s) := by
  obtain ⟨k, n, t⟩ := v
  simp only [Val.toV]
  refine VCalls.pureE Try.func21 rfl (by simp [Try.ntmps21]) (by simp) ?_
  rw [Try.ntmps21, Try.results21]
  repeat' first
    | (refine hK _ _ ?_; clear hK K)
    | (refine VWp.seqK fun K hK => ?_)
    | (refine VWp.region ?_; simp)
    | (refine VWp.ret ?_)
    | (refine VWp.block ?_)
    | (refine VWp.skip ?_; simp only [vthen])
    | (apply VWp.condT; focus (simp; done))
    | (apply VWp.condF; focus (simp; done))
  simp
  exact ⟨_, rfl⟩

theorem lawFitsType_v (v : Val) (ty : Int) (s : S) : VCalls Try.prog 7 [v.toV, .int .i64 ty] s (fun r _ => r = .bool true) := by
  obtain ⟨k, n, t⟩ := v
  simp only [Val.toV]
  refine VCalls.bodyE Try.func7 rfl (by simp [Try.ntmps7]) ?_
  rw [Try.ntmps7, Try.results7]
  cases hs : decide (Val.sz ⟨k, n, t⟩ 1048576 < 0)
  all_goals
    repeat' first
      | (refine hK _ _ ?_; clear hK K)
      | (refine VWp.seqK fun K hK => ?_)
      | (refine VWp.region ?_; simp [hs, Val.toV])
      | (refine VWp.ret ?_)
      | (refine VWp.block ?_)
      | (refine VWp.skip ?_; simp only [vthen])
      | (apply VWp.condT; focus (simp [hs, Val.toV]; done))
      | (apply VWp.condF; focus (simp [hs, Val.toV]; done))
      | (refine (szValue_v ⟨_, _, _⟩ _ (by omega) (by omega) _).mono ?_; rintro _ _ ⟨rfl, rfl⟩; try simp [hs, Val.toV])
      | (refine (toValue_v ⟨_, _, _⟩ _).mono ?_; rintro _ _ ⟨rfl, rfl⟩; try simp [hs, Val.toV])
      | (refine (specFitsType_v ⟨_, _, _⟩ _ _).mono ?_; rintro _ _ ⟨rfl, rfl⟩; try simp [hs, Val.toV])
      | (refine (implFitsType_v ⟨_, _, _⟩ _ _).mono ?_; rintro _ _ ⟨rfl, rfl⟩; try simp [hs, Val.toV])
    simp

end Go.Proofs.Ytkchiflcpecbeaa
