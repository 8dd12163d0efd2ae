/-
  ColName, of the program and of the reference, at the value level. Own work; no condition.
-/
import Derived.Test.YtnldmchbcppamaaVTys
import Derived.Test.YtnldmchbcppamaaVGlue
namespace Go.Proofs.Ytnldmchbcppamaa
open Go
set_option linter.unusedSimpArgs false

def colName (q n : List UInt8) : List UInt8 := if q = [] then n else q ++ 46 :: n

theorem specColName_v (q n : List UInt8) (s : S) (hq : q.length ≤ 1048576) (hn : n.length ≤ 1048576) : VCalls Try.prog 7 [.str q, .str n] s (fun v s' => v = .str (colName q n) ∧ s' = s) := by
  have h1 : q.length + 1 ≤ maxLen := le_maxLen (by omega)
  have h2 : q.length + 1 + n.length ≤ maxLen := le_maxLen (by omega)
  refine VCalls.pureE Try.func7 rfl (by simp [Try.ntmps7]) (by simp) ?_
  rw [Try.ntmps7, Try.results7]
  by_cases h : q = []
  all_goals
    repeat' first
      | (refine hK _ _ ?_; clear hK K)
      | (refine VWp.seqK fun K hK => ?_)
      | (refine VWp.region ?_; simp [h, h1, h2])
      | (refine VWp.ret ?_)
      | (refine VWp.skip ?_; simp only [vthen])
      | (apply VWp.condT; focus (simp [h, h1, h2]; done))
      | (apply VWp.condF; focus (simp [h, h1, h2]; done))
    simp [colName, h]
    exact ⟨_, rfl⟩

theorem implColName_v (q n : List UInt8) (s : S) (hq : q.length ≤ 1048576) (hn : n.length ≤ 1048576) : VCalls Try.prog 8 [.str q, .str n] s (fun v s' => v = .str (colName q n) ∧ s' = s) := by
  have h1 : q.length + 1 ≤ maxLen := le_maxLen (by omega)
  have h2 : q.length + 1 + n.length ≤ maxLen := le_maxLen (by omega)
  refine VCalls.pureE Try.func8 rfl (by simp [Try.ntmps8]) (by simp) ?_
  rw [Try.ntmps8, Try.results8]
  by_cases h : q = []
  all_goals
    repeat' first
      | (refine hK _ _ ?_; clear hK K)
      | (refine VWp.seqK fun K hK => ?_)
      | (refine VWp.region ?_; simp [h, h1, h2])
      | (refine VWp.ret ?_)
      | (refine VWp.skip ?_; simp only [vthen])
      | (apply VWp.condT; focus (simp [h, h1, h2]; done))
      | (apply VWp.condF; focus (simp [h, h1, h2]; done))
    simp [colName, h]
    exact ⟨_, rfl⟩

theorem lawColName_v (q n : List UInt8) (s : S) : VCalls Try.prog 4 [.str q, .str n] s (fun v _ => v = .bool true) := by
  refine VCalls.bodyE Try.func4 rfl (by simp [Try.ntmps4]) ?_
  rw [Try.ntmps4, Try.results4]
  by_cases hq : (1048576 : Int) < q.length
  · skip
    repeat' first
      | (refine hK _ _ ?_; clear hK K)
      | (refine VWp.seqK fun K hK => ?_)
      | (refine VWp.region ?_; simp [hq])
      | (refine VWp.ret ?_)
      | (refine VWp.skip ?_; simp only [vthen])
      | (apply VWp.condT; focus (simp [hq]; done))
      | (apply VWp.condF; focus (simp [hq]; done))
    simp
  by_cases hn : (1048576 : Int) < n.length
  · skip
    repeat' first
      | (refine hK _ _ ?_; clear hK K)
      | (refine VWp.seqK fun K hK => ?_)
      | (refine VWp.region ?_; simp [hq, hn])
      | (refine VWp.ret ?_)
      | (refine VWp.skip ?_; simp only [vthen])
      | (apply VWp.condT; focus (simp [hq, hn]; done))
      | (apply VWp.condF; focus (simp [hq, hn]; done))
    simp
  repeat' first
    | (refine hK _ _ ?_; clear hK K)
    | (refine VWp.seqK fun K hK => ?_)
    | (refine VWp.region ?_; simp [hq, hn])
    | (refine VWp.ret ?_)
    | (refine VWp.skip ?_; simp only [vthen])
    | (apply VWp.condT; focus (simp [hq, hn]; done))
    | (apply VWp.condF; focus (simp [hq, hn]; done))
    | (refine (specColName_v _ _ _ (by omega) (by omega)).mono ?_; rintro _ _ ⟨rfl, rfl⟩; try simp [hq, hn])
    | (refine (implColName_v _ _ _ (by omega) (by omega)).mono ?_; rintro _ _ ⟨rfl, rfl⟩; try simp [hq, hn])
  simp

end Go.Proofs.Ytnldmchbcppamaa
