/-
  The law FnMeet, at the value level: commutative and associative. Own work; no condition.
-/
import Derived.Test.YtkchiflcpecbeaaDType
import Derived.Test.YtkchiflcpecbeaaDBytes
namespace Go.Proofs.Ytkchiflcpecbeaa
open Go
set_option linter.unusedSimpArgs false
set_option maxHeartbeats 8000000

theorem meet_comm (a b : Int) : meet b a = meet a b := by
  unfold meet
  cases isTy a <;> cases isTy b <;> simp
  by_cases h1 : a = 0 <;> by_cases h2 : b = 0 <;> by_cases h3 : a = b <;> simp_all
  all_goals (intro h; exact (h3 h.symm).elim)

theorem meet_some {a b x : Int} (h : meet a b = some x) : isTy a = true ∧ isTy b = true ∧ (a = 0 ∧ x = b ∨ a ≠ 0 ∧ b = 0 ∧ x = a ∨ a ≠ 0 ∧ b ≠ 0 ∧ a = b ∧ x = a) := by
  unfold meet at h
  cases ha : isTy a <;> simp [ha] at h
  cases hb : isTy b <;> simp [hb] at h
  refine ⟨rfl, rfl, ?_⟩
  split at h
  · rename_i e; cases h; exact .inl ⟨e, rfl⟩
  · rename_i e
    split at h
    · rename_i e2; cases h; exact .inr (.inl ⟨e, e2, rfl⟩)
    · rename_i e2
      split at h
      · rename_i e3; cases h; exact .inr (.inr ⟨e, e2, e3, rfl⟩)
      · cases h

theorem meet_assoc {a b c x z : Int} (h1 : meet a b = some x) (h2 : meet b c = some z) : meet x c = meet a z := by
  obtain ⟨ha, hb, k1⟩ := meet_some h1
  obtain ⟨_, hc, k2⟩ := meet_some h2
  have ex : isTy x = true := by rcases k1 with ⟨_, rfl⟩ | ⟨_, _, rfl⟩ | ⟨_, _, _, rfl⟩ <;> assumption
  have ez : isTy z = true := by rcases k2 with ⟨_, rfl⟩ | ⟨_, _, rfl⟩ | ⟨_, _, _, rfl⟩ <;> assumption
  unfold meet
  simp only [ha, hc, ex, ez, if_true, decide_eq_true_eq]
  rcases k1 with ⟨p1, rfl⟩ | ⟨p1, p2, rfl⟩ | ⟨p1, p2, p3, rfl⟩ <;> rcases k2 with ⟨q1, rfl⟩ | ⟨q1, q2, rfl⟩ | ⟨q1, q2, q3, rfl⟩
  all_goals (repeat' split) <;> first | rfl | omega | (congr 1; omega) | skip

theorem lawMeetC_v {b : V} (hb : Bytes b) {n : Nat} (hn : vlen Try.prog 36 b = some (.int .i64 n)) (s : S) : VCalls Try.prog 8 [b] s (fun v _ => v = .bool true) := by
  refine VCalls.bodyE Try.func8 rfl (by simp [Try.ntmps8]) ?_
  rw [Try.ntmps8, Try.results8]
  cases c0 : decide ((1048576 : Int) < n)
  case true =>
    repeat' first
      | (refine hK _ _ ?_; clear hK K)
      | (refine VWp.seqK fun K hK => ?_)
      | (refine VWp.region ?_; simp [c0])
      | (refine VWp.ret ?_)
      | (refine VWp.block ?_)
      | (refine VWp.skip ?_; simp only [vthen, vinBlock])
      | (refine VWp.exit ?_; simp only [vthen, vinBlock, if_true])
      | (apply VWp.condT; focus (simp [c0]; done))
      | (apply VWp.condF; focus (simp [c0]; done))
      | (refine (big_v hn _).mono ?_; rintro _ _ ⟨rfl, rfl⟩; try simp [c0])
    simp
  case false =>
    repeat' first
      | (refine hK _ _ ?_; clear hK K)
      | (refine VWp.seqK fun K hK => ?_)
      | (refine VWp.region ?_; simp [c0])
      | (refine VWp.ret ?_)
      | (refine VWp.block ?_)
      | (refine VWp.skip ?_; simp only [vthen, vinBlock])
      | (refine VWp.exit ?_; simp only [vthen, vinBlock, if_true])
      | (apply VWp.condT; focus (simp [c0]; done))
      | (apply VWp.condF; focus (simp [c0]; done))
      | (refine (big_v hn _).mono ?_; rintro _ _ ⟨rfl, rfl⟩; try simp [c0])
      | (refine (specDrawMeet_v hb _).mono ?_ ; rintro _ _ ⟨x, y, _, rfl, rfl⟩; try simp [c0])
      | (refine (tail_v hb _).mono ?_ ; rintro v _ ⟨hb2, rfl⟩ ; (try simp) ; refine (specDrawMeet_v hb2 _).mono ?_ ; rintro _ _ ⟨c, d, _, rfl, rfl⟩; try simp [c0])
    have hcm := meet_comm x y
    rcases h1 : meet x y with _ | m
    ·
      repeat' first
        | (refine hK _ _ ?_; clear hK K)
        | (refine VWp.seqK fun K hK => ?_)
        | (refine VWp.region ?_; simp [h1, hcm, optV])
        | (refine VWp.ret ?_)
        | (refine VWp.block ?_)
        | (refine VWp.skip ?_; simp only [vthen, vinBlock])
        | (refine VWp.exit ?_; simp only [vthen, vinBlock, if_true])
        | (apply VWp.condT; focus (simp [h1, hcm, optV]; done))
        | (apply VWp.condF; focus (simp [h1, hcm, optV]; done))
        | (refine (specMeet_v _ _ _).mono ?_; rintro _ _ ⟨rfl, rfl⟩; try simp [h1, hcm, optV])
        | (refine (implMeet_v _ _ _).mono ?_; rintro _ _ ⟨rfl, rfl⟩; try simp [h1, hcm, optV])
      simp
    rcases h2 : meet y c with _ | n'
    ·
      repeat' first
        | (refine hK _ _ ?_; clear hK K)
        | (refine VWp.seqK fun K hK => ?_)
        | (refine VWp.region ?_; simp [h1, h2, hcm, optV])
        | (refine VWp.ret ?_)
        | (refine VWp.block ?_)
        | (refine VWp.skip ?_; simp only [vthen, vinBlock])
        | (refine VWp.exit ?_; simp only [vthen, vinBlock, if_true])
        | (apply VWp.condT; focus (simp [h1, h2, hcm, optV]; done))
        | (apply VWp.condF; focus (simp [h1, h2, hcm, optV]; done))
        | (refine (specMeet_v _ _ _).mono ?_; rintro _ _ ⟨rfl, rfl⟩; try simp [h1, h2, hcm, optV])
        | (refine (implMeet_v _ _ _).mono ?_; rintro _ _ ⟨rfl, rfl⟩; try simp [h1, h2, hcm, optV])
      simp
    have has := meet_assoc h1 h2
    repeat' first
      | (refine hK _ _ ?_; clear hK K)
      | (refine VWp.seqK fun K hK => ?_)
      | (refine VWp.region ?_; simp [h1, h2, hcm, has, optV])
      | (refine VWp.ret ?_)
      | (refine VWp.block ?_)
      | (refine VWp.skip ?_; simp only [vthen, vinBlock])
      | (refine VWp.exit ?_; simp only [vthen, vinBlock, if_true])
      | (apply VWp.condT; focus (simp [h1, h2, hcm, has, optV]; done))
      | (apply VWp.condF; focus (simp [h1, h2, hcm, has, optV]; done))
      | (refine (specMeet_v _ _ _).mono ?_; rintro _ _ ⟨rfl, rfl⟩; try simp [h1, h2, hcm, has, optV])
      | (refine (implMeet_v _ _ _).mono ?_; rintro _ _ ⟨rfl, rfl⟩; try simp [h1, h2, hcm, has, optV])
    simp

end Go.Proofs.Ytkchiflcpecbeaa
