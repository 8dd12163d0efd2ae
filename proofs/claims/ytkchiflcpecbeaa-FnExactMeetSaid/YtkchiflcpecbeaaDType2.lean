/-
  BinType, of the program and of the reference, at the value level. Own work; no condition.
-/
import Derived.Test.YtkchiflcpecbeaaDType
namespace Go.Proofs.Ytkchiflcpecbeaa
open Go
set_option linter.unusedSimpArgs false
set_option maxHeartbeats 8000000

theorem isTy_truthy {a : Int} (h : isTy a = false) : truthy a = false := by
  simp [isTy, inR, truthy] at h ⊢; omega
theorem isTy_like1 {a : Int} (h : isTy a = false) : like a 1 = false := by
  simp [isTy, inR, like] at h ⊢; omega
theorem isTy_like2 {a : Int} (h : isTy a = false) : like a 2 = false := by
  simp [isTy, inR, like] at h ⊢; omega
theorem binTy_a {op a b : Int} (h : isTy a = false) : binTy op a b = none := by
  simp [binTy, isTy_truthy h, isTy_like1 h, isTy_like2 h, meet, h]
theorem binTy_b {op a b : Int} (h : isTy b = false) : binTy op a b = none := by
  simp [binTy, isTy_truthy h, isTy_like1 h, isTy_like2 h, meet, h]
theorem inR_out1 {op : Int} (h : decide (op < 1) = true) : inR op 1 14 = false := by
  simp [inR] at h ⊢; omega
theorem inR_out2 {op : Int} (h : decide (14 < op) = true) : inR op 1 14 = false := by
  simp [inR] at h ⊢; omega
theorem inR_in {op : Int} (h : decide (op < 1) = false) (h' : decide (14 < op) = false) : inR op 1 14 = true := by
  simp [inR] at h h' ⊢; omega

theorem specBinType_v (op a b : Int) (s : S) : VCalls Try.prog 26 [.int .i64 op, .int .i64 a, .int .i64 b] s (fun v s' => v = optV (binTy op a b) ∧ s' = s) := by
  refine VCalls.pureE Try.func26 rfl (by simp [Try.ntmps26]) (by simp) ?_
  rw [Try.ntmps26, Try.results26]
  cases h0 : inR op 1 14
  case false =>
    repeat' first
      | (refine hK _ _ ?_; clear hK K)
      | (refine VWp.seqK fun K hK => ?_)
      | (refine VWp.region ?_; simp [h0])
      | (refine VWp.ret ?_)
      | (refine VWp.block ?_)
      | (refine VWp.skip ?_; simp only [vthen])
      | (apply VWp.condT; focus (simp [h0]; done))
      | (apply VWp.condF; focus (simp [h0]; done))
      | (refine (specl1In_v _ _ _ _).mono ?_; rintro _ _ ⟨rfl, rfl⟩; try simp [h0])
      | (refine (specl17Type_v _ _).mono ?_; rintro _ _ ⟨rfl, rfl⟩; try simp [h0])
    simp [optV, binTy, h0]
    exact ⟨_, rfl⟩
  cases ha : isTy a
  case false =>
    repeat' first
      | (refine hK _ _ ?_; clear hK K)
      | (refine VWp.seqK fun K hK => ?_)
      | (refine VWp.region ?_; simp [h0, ha])
      | (refine VWp.ret ?_)
      | (refine VWp.block ?_)
      | (refine VWp.skip ?_; simp only [vthen])
      | (apply VWp.condT; focus (simp [h0, ha]; done))
      | (apply VWp.condF; focus (simp [h0, ha]; done))
      | (refine (specl1In_v _ _ _ _).mono ?_; rintro _ _ ⟨rfl, rfl⟩; try simp [h0, ha])
      | (refine (specl17Type_v _ _).mono ?_; rintro _ _ ⟨rfl, rfl⟩; try simp [h0, ha])
    simp [optV, binTy_a ha]
    exact ⟨_, rfl⟩
  cases hb : isTy b
  case false =>
    repeat' first
      | (refine hK _ _ ?_; clear hK K)
      | (refine VWp.seqK fun K hK => ?_)
      | (refine VWp.region ?_; simp [h0, ha, hb])
      | (refine VWp.ret ?_)
      | (refine VWp.block ?_)
      | (refine VWp.skip ?_; simp only [vthen])
      | (apply VWp.condT; focus (simp [h0, ha, hb]; done))
      | (apply VWp.condF; focus (simp [h0, ha, hb]; done))
      | (refine (specl1In_v _ _ _ _).mono ?_; rintro _ _ ⟨rfl, rfl⟩; try simp [h0, ha, hb])
      | (refine (specl17Type_v _ _).mono ?_; rintro _ _ ⟨rfl, rfl⟩; try simp [h0, ha, hb])
    simp [optV, binTy_b hb]
    exact ⟨_, rfl⟩
  cases h2 : decide (op ≤ 2)
  case true =>
    cases ta : truthy a
    all_goals
      repeat' first
        | (refine hK _ _ ?_; clear hK K)
        | (refine VWp.seqK fun K hK => ?_)
        | (refine VWp.region ?_; simp [h0, ha, hb, h2, ta])
        | (refine VWp.ret ?_)
        | (refine VWp.block ?_)
        | (refine VWp.skip ?_; simp only [vthen])
        | (apply VWp.condT; focus (simp [h0, ha, hb, h2, ta]; done))
        | (apply VWp.condF; focus (simp [h0, ha, hb, h2, ta]; done))
        | (refine (specl1In_v _ _ _ _).mono ?_; rintro _ _ ⟨rfl, rfl⟩; try simp [h0, ha, hb, h2, ta])
        | (refine (specl17Type_v _ _).mono ?_; rintro _ _ ⟨rfl, rfl⟩; try simp [h0, ha, hb, h2, ta])
        | (refine (specTruthy_v _ _).mono ?_; rintro _ _ ⟨rfl, rfl⟩; try simp [h0, ha, hb, h2, ta])
        | (refine (specl17If_v _ _ _).mono ?_; rintro _ _ ⟨rfl, rfl⟩; try simp [h0, ha, hb, h2, ta])
      simp [optV, binTy, h0, ha, hb, h2, ta]
      exact ⟨_, rfl⟩
  cases h8 : decide (op ≤ 8)
  case true =>
    repeat' first
      | (refine hK _ _ ?_; clear hK K)
      | (refine VWp.seqK fun K hK => ?_)
      | (refine VWp.region ?_; simp [h0, ha, hb, h2, h8, optV])
      | (refine VWp.ret ?_)
      | (refine VWp.block ?_)
      | (refine VWp.skip ?_; simp only [vthen])
      | (apply VWp.condT; focus (simp [h0, ha, hb, h2, h8, optV]; done))
      | (apply VWp.condF; focus (simp [h0, ha, hb, h2, h8, optV]; done))
      | (refine (specl1In_v _ _ _ _).mono ?_; rintro _ _ ⟨rfl, rfl⟩; try simp [h0, ha, hb, h2, h8, optV])
      | (refine (specl17Type_v _ _).mono ?_; rintro _ _ ⟨rfl, rfl⟩; try simp [h0, ha, hb, h2, h8, optV])
      | (refine (specMeet_v _ _ _).mono ?_; rintro _ _ ⟨rfl, rfl⟩; try simp [h0, ha, hb, h2, h8, optV])
      | (refine (specl17If_v _ _ _).mono ?_; rintro _ _ ⟨rfl, rfl⟩; try simp [h0, ha, hb, h2, h8, optV])
    simp [optV, binTy, h0, h2, h8]
    exact ⟨_, rfl⟩
  cases h9 : decide (op = 9)
  case true =>
    cases ta : like a 2
    all_goals
      repeat' first
        | (refine hK _ _ ?_; clear hK K)
        | (refine VWp.seqK fun K hK => ?_)
        | (refine VWp.region ?_; simp [h0, ha, hb, h2, h8, h9, ta])
        | (refine VWp.ret ?_)
        | (refine VWp.block ?_)
        | (refine VWp.skip ?_; simp only [vthen])
        | (apply VWp.condT; focus (simp [h0, ha, hb, h2, h8, h9, ta]; done))
        | (apply VWp.condF; focus (simp [h0, ha, hb, h2, h8, h9, ta]; done))
        | (refine (specl1In_v _ _ _ _).mono ?_; rintro _ _ ⟨rfl, rfl⟩; try simp [h0, ha, hb, h2, h8, h9, ta])
        | (refine (specl17Type_v _ _).mono ?_; rintro _ _ ⟨rfl, rfl⟩; try simp [h0, ha, hb, h2, h8, h9, ta])
        | (refine (specl17Like_v _ _ _).mono ?_; rintro _ _ ⟨rfl, rfl⟩; try simp [h0, ha, hb, h2, h8, h9, ta])
        | (refine (specl17If_v _ _ _).mono ?_; rintro _ _ ⟨rfl, rfl⟩; try simp [h0, ha, hb, h2, h8, h9, ta])
      simp [optV, binTy, h0, ha, hb, h2, h8, h9, ta]
      exact ⟨_, rfl⟩
  cases ta : like a 1
  all_goals
    repeat' first
      | (refine hK _ _ ?_; clear hK K)
      | (refine VWp.seqK fun K hK => ?_)
      | (refine VWp.region ?_; simp [h0, ha, hb, h2, h8, h9, ta])
      | (refine VWp.ret ?_)
      | (refine VWp.block ?_)
      | (refine VWp.skip ?_; simp only [vthen])
      | (apply VWp.condT; focus (simp [h0, ha, hb, h2, h8, h9, ta]; done))
      | (apply VWp.condF; focus (simp [h0, ha, hb, h2, h8, h9, ta]; done))
      | (refine (specl1In_v _ _ _ _).mono ?_; rintro _ _ ⟨rfl, rfl⟩; try simp [h0, ha, hb, h2, h8, h9, ta])
      | (refine (specl17Type_v _ _).mono ?_; rintro _ _ ⟨rfl, rfl⟩; try simp [h0, ha, hb, h2, h8, h9, ta])
      | (refine (specl17Like_v _ _ _).mono ?_; rintro _ _ ⟨rfl, rfl⟩; try simp [h0, ha, hb, h2, h8, h9, ta])
      | (refine (specl17If_v _ _ _).mono ?_; rintro _ _ ⟨rfl, rfl⟩; try simp [h0, ha, hb, h2, h8, h9, ta])
    simp [optV, binTy, h0, ha, hb, h2, h8, h9, ta]
    exact ⟨_, rfl⟩

theorem implBinType_v (op a b : Int) (s : S) : VCalls Try.prog 27 [.int .i64 op, .int .i64 a, .int .i64 b] s (fun v s' => v = optV (binTy op a b) ∧ s' = s) := by
  refine VCalls.pureE Try.func27 rfl (by simp [Try.ntmps27]) (by simp) ?_
  rw [Try.ntmps27, Try.results27]
  cases h0 : decide (op < 1)
  case true =>
    repeat' first
      | (refine hK _ _ ?_; clear hK K)
      | (refine VWp.seqK fun K hK => ?_)
      | (refine VWp.region ?_; simp [h0])
      | (refine VWp.ret ?_)
      | (refine VWp.block ?_)
      | (refine VWp.skip ?_; simp only [vthen])
      | (apply VWp.condT; focus (simp [h0]; done))
      | (apply VWp.condF; focus (simp [h0]; done))
    simp [optV, binTy, inR_out1 h0]
    exact ⟨_, rfl⟩
  cases h1 : decide (14 < op)
  case true =>
    repeat' first
      | (refine hK _ _ ?_; clear hK K)
      | (refine VWp.seqK fun K hK => ?_)
      | (refine VWp.region ?_; simp [h0, h1])
      | (refine VWp.ret ?_)
      | (refine VWp.block ?_)
      | (refine VWp.skip ?_; simp only [vthen])
      | (apply VWp.condT; focus (simp [h0, h1]; done))
      | (apply VWp.condF; focus (simp [h0, h1]; done))
    simp [optV, binTy, inR_out2 h1]
    exact ⟨_, rfl⟩
  have h := inR_in h0 h1
  cases h2 : decide (op ≤ 2)
  case true =>
    cases ta : truthy a
    case false =>
      repeat' first
        | (refine hK _ _ ?_; clear hK K)
        | (refine VWp.seqK fun K hK => ?_)
        | (refine VWp.region ?_; simp [h0, h1, h2, ta])
        | (refine VWp.ret ?_)
        | (refine VWp.block ?_)
        | (refine VWp.skip ?_; simp only [vthen])
        | (apply VWp.condT; focus (simp [h0, h1, h2, ta]; done))
        | (apply VWp.condF; focus (simp [h0, h1, h2, ta]; done))
        | (refine (implTruthy_v _ _).mono ?_; rintro _ _ ⟨rfl, rfl⟩; try simp [h0, h1, h2, ta])
      simp [optV, binTy, h, h0, h1, h2, ta]
      exact ⟨_, rfl⟩
    cases tb : truthy b
    all_goals
      repeat' first
        | (refine hK _ _ ?_; clear hK K)
        | (refine VWp.seqK fun K hK => ?_)
        | (refine VWp.region ?_; simp [h0, h1, h2, ta, tb])
        | (refine VWp.ret ?_)
        | (refine VWp.block ?_)
        | (refine VWp.skip ?_; simp only [vthen])
        | (apply VWp.condT; focus (simp [h0, h1, h2, ta, tb]; done))
        | (apply VWp.condF; focus (simp [h0, h1, h2, ta, tb]; done))
        | (refine (implTruthy_v _ _).mono ?_; rintro _ _ ⟨rfl, rfl⟩; try simp [h0, h1, h2, ta, tb])
      simp [optV, binTy, h, h0, h1, h2, ta, tb]
      exact ⟨_, rfl⟩
  cases h8 : decide (op ≤ 8)
  case true =>
    cases m : (meet a b).isSome
    all_goals
      repeat' first
        | (refine hK _ _ ?_; clear hK K)
        | (refine VWp.seqK fun K hK => ?_)
        | (refine VWp.region ?_; simp [h0, h1, h2, h8, optV, m])
        | (refine VWp.ret ?_)
        | (refine VWp.block ?_)
        | (refine VWp.skip ?_; simp only [vthen])
        | (apply VWp.condT; focus (simp [h0, h1, h2, h8, optV, m]; done))
        | (apply VWp.condF; focus (simp [h0, h1, h2, h8, optV, m]; done))
        | (refine (implMeet_v _ _ _).mono ?_; rintro _ _ ⟨rfl, rfl⟩; try simp [h0, h1, h2, h8, optV, m])
      simp [optV, binTy, h, h0, h1, h2, h8, optV, m]
      exact ⟨_, rfl⟩
  cases h9 : decide (op = 9)
  case true =>
    cases ta : like a 2
    all_goals
      cases tb : like b 2
      all_goals
        repeat' first
          | (refine hK _ _ ?_; clear hK K)
          | (refine VWp.seqK fun K hK => ?_)
          | (refine VWp.region ?_; simp [h0, h1, h2, h8, h9, ta, tb])
          | (refine VWp.ret ?_)
          | (refine VWp.block ?_)
          | (refine VWp.skip ?_; simp only [vthen])
          | (apply VWp.condT; focus (simp [h0, h1, h2, h8, h9, ta, tb]; done))
          | (apply VWp.condF; focus (simp [h0, h1, h2, h8, h9, ta, tb]; done))
          | (refine (implareOf_v _ _ _ _).mono ?_; rintro _ _ ⟨rfl, rfl⟩; try simp [h0, h1, h2, h8, h9, ta, tb])
        simp [optV, binTy, h, h0, h1, h2, h8, h9, ta, tb]
        exact ⟨_, rfl⟩
  cases ta : like a 1
  all_goals
    cases tb : like b 1
    all_goals
      repeat' first
        | (refine hK _ _ ?_; clear hK K)
        | (refine VWp.seqK fun K hK => ?_)
        | (refine VWp.region ?_; simp [h0, h1, h2, h8, h9, ta, tb])
        | (refine VWp.ret ?_)
        | (refine VWp.block ?_)
        | (refine VWp.skip ?_; simp only [vthen])
        | (apply VWp.condT; focus (simp [h0, h1, h2, h8, h9, ta, tb]; done))
        | (apply VWp.condF; focus (simp [h0, h1, h2, h8, h9, ta, tb]; done))
        | (refine (implareOf_v _ _ _ _).mono ?_; rintro _ _ ⟨rfl, rfl⟩; try simp [h0, h1, h2, h8, h9, ta, tb])
      simp [optV, binTy, h, h0, h1, h2, h8, h9, ta, tb]
      exact ⟨_, rfl⟩

theorem lawMeet_v (a b : Int) (s : S) : VCalls Try.prog 5 [.int .i64 a, .int .i64 b] s (fun v _ => v = .bool true) := by
  refine VCalls.bodyE Try.func5 rfl (by simp [Try.ntmps5]) ?_
  rw [Try.ntmps5, Try.results5]
  repeat' first
    | (refine hK _ _ ?_; clear hK K)
    | (refine VWp.seqK fun K hK => ?_)
    | (refine VWp.region ?_; simp [optV])
    | (refine VWp.ret ?_)
    | (refine VWp.block ?_)
    | (refine VWp.skip ?_; simp only [vthen])
    | (apply VWp.condT; focus (simp [optV]; done))
    | (apply VWp.condF; focus (simp [optV]; done))
    | (refine (specMeet_v _ _ _).mono ?_; rintro _ _ ⟨rfl, rfl⟩; try simp [optV])
    | (refine (implMeet_v _ _ _).mono ?_; rintro _ _ ⟨rfl, rfl⟩; try simp [optV])
  simp

theorem lawUnType_v (a b : Int) (s : S) : VCalls Try.prog 6 [.int .i64 a, .int .i64 b] s (fun v _ => v = .bool true) := by
  refine VCalls.bodyE Try.func6 rfl (by simp [Try.ntmps6]) ?_
  rw [Try.ntmps6, Try.results6]
  repeat' first
    | (refine hK _ _ ?_; clear hK K)
    | (refine VWp.seqK fun K hK => ?_)
    | (refine VWp.region ?_; simp [optV])
    | (refine VWp.ret ?_)
    | (refine VWp.block ?_)
    | (refine VWp.skip ?_; simp only [vthen])
    | (apply VWp.condT; focus (simp [optV]; done))
    | (apply VWp.condF; focus (simp [optV]; done))
    | (refine (specUnType_v _ _ _).mono ?_; rintro _ _ ⟨rfl, rfl⟩; try simp [optV])
    | (refine (implUnType_v _ _ _).mono ?_; rintro _ _ ⟨rfl, rfl⟩; try simp [optV])
  simp

theorem lawBinType_v (op a b : Int) (s : S) : VCalls Try.prog 9 [.int .i64 op, .int .i64 a, .int .i64 b] s (fun v _ => v = .bool true) := by
  refine VCalls.bodyE Try.func9 rfl (by simp [Try.ntmps9]) ?_
  rw [Try.ntmps9, Try.results9]
  repeat' first
    | (refine hK _ _ ?_; clear hK K)
    | (refine VWp.seqK fun K hK => ?_)
    | (refine VWp.region ?_; simp [optV])
    | (refine VWp.ret ?_)
    | (refine VWp.block ?_)
    | (refine VWp.skip ?_; simp only [vthen])
    | (apply VWp.condT; focus (simp [optV]; done))
    | (apply VWp.condF; focus (simp [optV]; done))
    | (refine (specBinType_v _ _ _ _).mono ?_; rintro _ _ ⟨rfl, rfl⟩; try simp [optV])
    | (refine (implBinType_v _ _ _ _).mono ?_; rintro _ _ ⟨rfl, rfl⟩; try simp [optV])
  simp

end Go.Proofs.Ytkchiflcpecbeaa
