/-
  TypeText, of the program and of the reference, at the value level. Own work; no condition.
-/
import Derived.Test.YtkchiflcpecbeaaDType
namespace Go.Proofs.Ytkchiflcpecbeaa
open Go
set_option linter.unusedSimpArgs false
set_option maxHeartbeats 8000000

def typeText (ty : Int) : List UInt8 := if ty = 0 then [65, 78, 89] else if ty = 1 then [73, 78, 84] else if ty = 2 then [84, 69, 88, 84] else if ty = 3 then [66, 79, 79, 76] else []

theorem inR_out {ty : Int} (h : inR ty 0 3 = false) : typeText ty = [] := by
  simp only [inR, Bool.and_eq_false_iff, decide_eq_false_iff_not] at h
  unfold typeText
  rw [if_neg (by omega), if_neg (by omega), if_neg (by omega), if_neg (by omega)]
theorem inR_four {ty : Int} (h : inR ty 0 3 = true) : ty = 0 ∨ ty = 1 ∨ ty = 2 ∨ ty = 3 := by
  simp [inR] at h; omega

theorem specTypeText_v (ty : Int) (s : S) : VCalls Try.prog 11 [.int .i64 ty] s (fun v s' => v = .str (typeText ty) ∧ s' = s) := by
  refine VCalls.pureE Try.func11 rfl (by simp [Try.ntmps11]) (by simp) ?_
  rw [Try.ntmps11, Try.results11]
  cases h0 : inR ty 0 3
  case false =>
    repeat' first
      | (refine hK _ _ ?_; clear hK K)
      | (refine VWp.seqK fun K hK => ?_)
      | (refine VWp.region ?_; simp [h0])
      | (refine VWp.ret ?_)
      | (refine VWp.block ?_)
      | (refine VWp.skip ?_; simp only [vthen])
      | (apply VWp.condT; focus (simp [h0]; done))
      | (apply VWp.condF; focus (simp [h0]; done))
      | (refine (specl1In_v _ _ _ _).mono ?_; rintro _ _ ⟨rfl, rfl⟩; try simp [h0])
    simp [inR_out h0]
    exact ⟨_, rfl⟩
  case true =>
    rcases inR_four h0 with rfl | rfl | rfl | rfl
    all_goals
      repeat' first
        | (refine hK _ _ ?_; clear hK K)
        | (refine VWp.seqK fun K hK => ?_)
        | (refine VWp.region ?_; simp [h0])
        | (refine VWp.ret ?_)
        | (refine VWp.block ?_)
        | (refine VWp.skip ?_; simp only [vthen])
        | (apply VWp.condT; focus (simp [h0]; done))
        | (apply VWp.condF; focus (simp [h0]; done))
        | (refine (specl1In_v _ _ _ _).mono ?_; rintro _ _ ⟨rfl, rfl⟩; try simp [h0])
      simp [typeText]
      exact ⟨_, rfl⟩

theorem implTypeText_v (ty : Int) (s : S) : VCalls Try.prog 12 [.int .i64 ty] s (fun v s' => v = .str (typeText ty) ∧ s' = s) := by
  refine VCalls.pureE Try.func12 rfl (by simp [Try.ntmps12]) (by simp) ?_
  rw [Try.ntmps12, Try.results12]
  cases h0 : decide (ty < 0)
  case true =>
    repeat' first
      | (refine hK _ _ ?_; clear hK K)
      | (refine VWp.seqK fun K hK => ?_)
      | (refine VWp.region ?_; simp [h0])
      | (refine VWp.ret ?_)
      | (refine VWp.block ?_)
      | (refine VWp.skip ?_; simp only [vthen])
      | (apply VWp.condT; focus (simp [h0]; done))
      | (apply VWp.condF; focus (simp [h0]; done))
    simp [inR_out (ty := ty) (by simp [inR] at h0 ⊢; omega)]
    exact ⟨_, rfl⟩
  cases h1 : decide (3 < ty)
  case true =>
    repeat' first
      | (refine hK _ _ ?_; clear hK K)
      | (refine VWp.seqK fun K hK => ?_)
      | (refine VWp.region ?_; simp [h0, h1])
      | (refine VWp.ret ?_)
      | (refine VWp.block ?_)
      | (refine VWp.skip ?_; simp only [vthen])
      | (apply VWp.condT; focus (simp [h0, h1]; done))
      | (apply VWp.condF; focus (simp [h0, h1]; done))
    simp [inR_out (ty := ty) (by simp [inR] at h1 ⊢; omega)]
    exact ⟨_, rfl⟩
  rcases inR_four (ty := ty) (by simp [inR] at h0 h1 ⊢; omega) with rfl | rfl | rfl | rfl
  all_goals
    repeat' first
      | (refine hK _ _ ?_; clear hK K)
      | (refine VWp.seqK fun K hK => ?_)
      | (refine VWp.region ?_; simp [h0, h1])
      | (refine VWp.ret ?_)
      | (refine VWp.block ?_)
      | (refine VWp.skip ?_; simp only [vthen])
      | (apply VWp.condT; focus (simp [h0, h1]; done))
      | (apply VWp.condF; focus (simp [h0, h1]; done))
    simp [typeText]
    exact ⟨_, rfl⟩

theorem lawTypeText_v (ty : Int) (s : S) : VCalls Try.prog 3 [.int .i64 ty] s (fun v _ => v = .bool true) := by
  refine VCalls.bodyE Try.func3 rfl (by simp [Try.ntmps3]) ?_
  rw [Try.ntmps3, Try.results3]
  repeat' first
    | (refine hK _ _ ?_; clear hK K)
    | (refine VWp.seqK fun K hK => ?_)
    | (refine VWp.region ?_; simp)
    | (refine VWp.ret ?_)
    | (refine VWp.block ?_)
    | (refine VWp.skip ?_; simp only [vthen])
    | (apply VWp.condT; focus (simp; done))
    | (apply VWp.condF; focus (simp; done))
    | (refine (specTypeText_v _ _).mono ?_; rintro _ _ ⟨rfl, rfl⟩; try simp)
    | (refine (implTypeText_v _ _).mono ?_; rintro _ _ ⟨rfl, rfl⟩; try simp)
  simp

end Go.Proofs.Ytkchiflcpecbeaa
