/-
  Truthy, of the program and of the reference, at the value level. Own work; no condition.
-/
import Derived.Test.YtnldmchbcppamaaVTys
import Derived.Test.YtnldmchbcppamaaVGlue
namespace Go.Proofs.Ytnldmchbcppamaa
open Go
set_option linter.unusedSimpArgs false

def truthy (ty : Int) : Bool := decide (ty = 0) || decide (ty = 3)

theorem specTruthy_v (ty : Int) (s : S) : VCalls Try.prog 5 [.int .i64 ty] s (fun v s' => v = .bool (truthy ty) ∧ s' = s) := by
  refine VCalls.pureE Try.func5 rfl (by simp [Try.ntmps5]) (by simp) ?_
  rw [Try.ntmps5, Try.results5]
  by_cases h : ty = 0
  all_goals
    repeat' first
      | (refine hK _ _ ?_; clear hK K)
      | (refine VWp.seqK fun K hK => ?_)
      | (refine VWp.region ?_; simp [h])
      | (refine VWp.ret ?_)
    simp [truthy, h]
    exact ⟨_, rfl⟩

theorem implTruthy_v (ty : Int) (s : S) : VCalls Try.prog 6 [.int .i64 ty] s (fun v s' => v = .bool (truthy ty) ∧ s' = s) := by
  refine VCalls.pureE Try.func6 rfl (by simp [Try.ntmps6]) (by simp) ?_
  rw [Try.ntmps6, Try.results6]
  by_cases h : ty = 0
  all_goals
    repeat' first
      | (refine hK _ _ ?_; clear hK K)
      | (refine VWp.seqK fun K hK => ?_)
      | (refine VWp.region ?_; simp [h])
      | (refine VWp.ret ?_)
    simp [truthy, h]
    exact ⟨_, rfl⟩

theorem lawTruthy_v (ty : Int) (s : S) : VCalls Try.prog 3 [.int .i64 ty] s (fun v _ => v = .bool true) := by
  refine VCalls.bodyE Try.func3 rfl (by simp [Try.ntmps3]) ?_
  rw [Try.ntmps3, Try.results3]
  repeat' first
    | (refine hK _ _ ?_; clear hK K)
    | (refine VWp.seqK fun K hK => ?_)
    | (refine VWp.region ?_; simp)
    | (refine VWp.ret ?_)
    | (refine VWp.skip ?_; simp only [vthen])
    | (apply VWp.condT; focus (simp; done))
    | (apply VWp.condF; focus (simp; done))
    | (refine (specTruthy_v _ _).mono ?_; rintro _ _ ⟨rfl, rfl⟩; try simp)
    | (refine (implTruthy_v _ _).mono ?_; rintro _ _ ⟨rfl, rfl⟩; try simp)
  simp

end Go.Proofs.Ytnldmchbcppamaa
