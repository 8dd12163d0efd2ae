/-
  Types of operators: Truthy, Meet, UnType, BinType, TypeText, of the program and of the reference, at the value level. Own work; no condition.
-/
import Derived.Test.YtkchiflcpecbeaaVTys
import Derived.Test.YtkchiflcpecbeaaVGlue
namespace Go.Proofs.Ytkchiflcpecbeaa
open Go
set_option linter.unusedSimpArgs false

def inR (x lo hi : Int) : Bool := decide (lo ≤ x) && decide (x ≤ hi)
def isTy (a : Int) : Bool := inR a 0 3
def truthy (ty : Int) : Bool := decide (ty = 0) || decide (ty = 3)
def like (a ty : Int) : Bool := decide (a = 0) || decide (a = ty)
def meet (a b : Int) : Option Int := if isTy a then (if isTy b then (if decide (a = 0) then some b else if decide (b = 0) then some a else if decide (a = b) then some a else none) else none) else none
def unTy (op a : Int) : Option Int := if decide (op = 15) then (if truthy a then some 3 else none) else if decide (op = 16) then (if like a 1 then some 1 else none) else none
def binTy (op a b : Int) : Option Int :=
  if inR op 1 14 then if decide (op ≤ 2) then (if truthy a && truthy b then some 3 else none) else if decide (op ≤ 8) then (if (meet a b).isSome then some 3 else none) else
  if decide (op = 9) then (if like a 2 && like b 2 then some 2 else none) else (if like a 1 && like b 1 then some 1 else none) else none
def optV (o : Option Int) : V := .tup [.int .i64 (o.getD 0), .bool o.isSome]
@[simp] theorem dat_optV (o : Option Int) : (optV o).dat = true := by simp [optV]

theorem specl1In_v (x lo hi : Int) (s : S) : VCalls Try.prog 29 [.int .i64 x, .int .i64 lo, .int .i64 hi] s (fun v s' => v = .bool (inR x lo hi) ∧ s' = s) := by
  refine VCalls.pureE Try.func29 rfl (by simp [Try.ntmps29]) (by simp) ?_
  rw [Try.ntmps29, Try.results29]
  cases h : decide (lo ≤ x)
  all_goals
    repeat' first
      | (refine hK _ _ ?_; clear hK K)
      | (refine VWp.seqK fun K hK => ?_)
      | (refine VWp.region ?_; simp [h])
      | (refine VWp.ret ?_)
      | (refine VWp.block ?_)
      | (refine VWp.skip ?_; simp only [vthen])
      | (apply VWp.condT; focus (simp [h]; done))
      | (apply VWp.condF; focus (simp [h]; done))
    simp [inR, h]
    exact ⟨_, rfl⟩

theorem specl17Type_v (x : Int) (s : S) : VCalls Try.prog 30 [.int .i64 x] s (fun v s' => v = .bool (isTy x) ∧ s' = s) := by
  refine VCalls.pureE Try.func30 rfl (by simp [Try.ntmps30]) (by simp) ?_
  rw [Try.ntmps30, Try.results30]
  repeat' first
    | (refine hK _ _ ?_; clear hK K)
    | (refine VWp.seqK fun K hK => ?_)
    | (refine VWp.region ?_; simp)
    | (refine VWp.ret ?_)
    | (refine VWp.block ?_)
    | (refine VWp.skip ?_; simp only [vthen])
    | (apply VWp.condT; focus (simp; done))
    | (apply VWp.condF; focus (simp; done))
    | (refine (specl1In_v _ _ _ _).mono ?_; rintro _ _ ⟨rfl, rfl⟩; try simp)
  simp [isTy]
  exact ⟨_, rfl⟩

theorem implisType_v (x : Int) (s : S) : VCalls Try.prog 31 [.int .i64 x] s (fun v s' => v = .bool (isTy x) ∧ s' = s) := by
  refine VCalls.pureE Try.func31 rfl (by simp [Try.ntmps31]) (by simp) ?_
  rw [Try.ntmps31, Try.results31]
  cases h : decide (0 ≤ x)
  all_goals
    repeat' first
      | (refine hK _ _ ?_; clear hK K)
      | (refine VWp.seqK fun K hK => ?_)
      | (refine VWp.region ?_; simp [h])
      | (refine VWp.ret ?_)
      | (refine VWp.block ?_)
      | (refine VWp.skip ?_; simp only [vthen])
      | (apply VWp.condT; focus (simp [h]; done))
      | (apply VWp.condF; focus (simp [h]; done))
    simp [isTy, inR, h]
    exact ⟨_, rfl⟩

theorem specl17If_v (ty : Int) (b : Bool) (s : S) : VCalls Try.prog 32 [.int .i64 ty, .bool b] s (fun v s' => v = optV (if b then some ty else none) ∧ s' = s) := by
  refine VCalls.pureE Try.func32 rfl (by simp [Try.ntmps32]) (by simp) ?_
  rw [Try.ntmps32, Try.results32]
  cases b
  all_goals
    repeat' first
      | (refine hK _ _ ?_; clear hK K)
      | (refine VWp.seqK fun K hK => ?_)
      | (refine VWp.region ?_; simp)
      | (refine VWp.ret ?_)
      | (refine VWp.block ?_)
      | (refine VWp.skip ?_; simp only [vthen])
      | (apply VWp.condT; focus (simp; done))
      | (apply VWp.condF; focus (simp; done))
    simp [optV]
    exact ⟨_, rfl⟩

theorem specTruthy_v (ty : Int) (s : S) : VCalls Try.prog 33 [.int .i64 ty] s (fun v s' => v = .bool (truthy ty) ∧ s' = s) := by
  refine VCalls.pureE Try.func33 rfl (by simp [Try.ntmps33]) (by simp) ?_
  rw [Try.ntmps33, Try.results33]
  cases h : decide (ty = 0)
  all_goals
    repeat' first
      | (refine hK _ _ ?_; clear hK K)
      | (refine VWp.seqK fun K hK => ?_)
      | (refine VWp.region ?_; simp [h])
      | (refine VWp.ret ?_)
      | (refine VWp.block ?_)
      | (refine VWp.skip ?_; simp only [vthen])
      | (apply VWp.condT; focus (simp [h]; done))
      | (apply VWp.condF; focus (simp [h]; done))
    simp [truthy, h]
    exact ⟨_, rfl⟩

theorem implTruthy_v (ty : Int) (s : S) : VCalls Try.prog 35 [.int .i64 ty] s (fun v s' => v = .bool (truthy ty) ∧ s' = s) := by
  refine VCalls.pureE Try.func35 rfl (by simp [Try.ntmps35]) (by simp) ?_
  rw [Try.ntmps35, Try.results35]
  cases h : decide (ty = 0)
  all_goals
    repeat' first
      | (refine hK _ _ ?_; clear hK K)
      | (refine VWp.seqK fun K hK => ?_)
      | (refine VWp.region ?_; simp [h])
      | (refine VWp.ret ?_)
      | (refine VWp.block ?_)
      | (refine VWp.skip ?_; simp only [vthen])
      | (apply VWp.condT; focus (simp [h]; done))
      | (apply VWp.condF; focus (simp [h]; done))
    simp [truthy, h]
    exact ⟨_, rfl⟩

theorem specl17Like_v (a ty : Int) (s : S) : VCalls Try.prog 34 [.int .i64 a, .int .i64 ty] s (fun v s' => v = .bool (like a ty) ∧ s' = s) := by
  refine VCalls.pureE Try.func34 rfl (by simp [Try.ntmps34]) (by simp) ?_
  rw [Try.ntmps34, Try.results34]
  cases h : decide (a = 0)
  all_goals
    repeat' first
      | (refine hK _ _ ?_; clear hK K)
      | (refine VWp.seqK fun K hK => ?_)
      | (refine VWp.region ?_; simp [h])
      | (refine VWp.ret ?_)
      | (refine VWp.block ?_)
      | (refine VWp.skip ?_; simp only [vthen])
      | (apply VWp.condT; focus (simp [h]; done))
      | (apply VWp.condF; focus (simp [h]; done))
    simp [like, h]
    exact ⟨_, rfl⟩

theorem implareOf_v (ty a b : Int) (s : S) : VCalls Try.prog 36 [.int .i64 ty, .int .i64 a, .int .i64 b] s (fun v s' => v = .bool (like a ty && like b ty) ∧ s' = s) := by
  refine VCalls.pureE Try.func36 rfl (by simp [Try.ntmps36]) (by simp) ?_
  rw [Try.ntmps36, Try.results36]
  cases h1 : decide (a = ty) <;> cases h2 : decide (a = 0) <;> cases h3 : decide (b = ty)
  all_goals
    repeat' first
      | (refine hK _ _ ?_; clear hK K)
      | (refine VWp.seqK fun K hK => ?_)
      | (refine VWp.region ?_; simp [h1, h2, h3])
      | (refine VWp.ret ?_)
      | (refine VWp.block ?_)
      | (refine VWp.skip ?_; simp only [vthen])
      | (apply VWp.condT; focus (simp [h1, h2, h3]; done))
      | (apply VWp.condF; focus (simp [h1, h2, h3]; done))
    simp [like, h1, h2, h3]
    exact ⟨_, rfl⟩

theorem specMeet_v (a b : Int) (s : S) : VCalls Try.prog 15 [.int .i64 a, .int .i64 b] s (fun v s' => v = optV (meet a b) ∧ s' = s) := by
  refine VCalls.pureE Try.func15 rfl (by simp [Try.ntmps15]) (by simp) ?_
  rw [Try.ntmps15, Try.results15]
  cases ha : isTy a
  case false =>
    repeat' first
      | (refine hK _ _ ?_; clear hK K)
      | (refine VWp.seqK fun K hK => ?_)
      | (refine VWp.region ?_; simp [ha])
      | (refine VWp.ret ?_)
      | (refine VWp.block ?_)
      | (refine VWp.skip ?_; simp only [vthen])
      | (apply VWp.condT; focus (simp [ha]; done))
      | (apply VWp.condF; focus (simp [ha]; done))
      | (refine (specl17Type_v _ _).mono ?_; rintro _ _ ⟨rfl, rfl⟩; try simp [ha])
    simp [optV, meet, ha]
    exact ⟨_, rfl⟩
  cases hb : isTy b
  case false =>
    repeat' first
      | (refine hK _ _ ?_; clear hK K)
      | (refine VWp.seqK fun K hK => ?_)
      | (refine VWp.region ?_; simp [ha, hb])
      | (refine VWp.ret ?_)
      | (refine VWp.block ?_)
      | (refine VWp.skip ?_; simp only [vthen])
      | (apply VWp.condT; focus (simp [ha, hb]; done))
      | (apply VWp.condF; focus (simp [ha, hb]; done))
      | (refine (specl17Type_v _ _).mono ?_; rintro _ _ ⟨rfl, rfl⟩; try simp [ha, hb])
    simp [optV, meet, ha, hb]
    exact ⟨_, rfl⟩
  cases h1 : decide (a = 0)
  case true =>
    repeat' first
      | (refine hK _ _ ?_; clear hK K)
      | (refine VWp.seqK fun K hK => ?_)
      | (refine VWp.region ?_; simp [ha, hb, h1])
      | (refine VWp.ret ?_)
      | (refine VWp.block ?_)
      | (refine VWp.skip ?_; simp only [vthen])
      | (apply VWp.condT; focus (simp [ha, hb, h1]; done))
      | (apply VWp.condF; focus (simp [ha, hb, h1]; done))
      | (refine (specl17Type_v _ _).mono ?_; rintro _ _ ⟨rfl, rfl⟩; try simp [ha, hb, h1])
    simp [optV, meet, ha, hb, h1]
    exact ⟨_, rfl⟩
  cases h2 : decide (b = 0)
  case true =>
    repeat' first
      | (refine hK _ _ ?_; clear hK K)
      | (refine VWp.seqK fun K hK => ?_)
      | (refine VWp.region ?_; simp [ha, hb, h1, h2])
      | (refine VWp.ret ?_)
      | (refine VWp.block ?_)
      | (refine VWp.skip ?_; simp only [vthen])
      | (apply VWp.condT; focus (simp [ha, hb, h1, h2]; done))
      | (apply VWp.condF; focus (simp [ha, hb, h1, h2]; done))
      | (refine (specl17Type_v _ _).mono ?_; rintro _ _ ⟨rfl, rfl⟩; try simp [ha, hb, h1, h2])
    simp [optV, meet, ha, hb, h1, h2]
    exact ⟨_, rfl⟩
  cases h3 : decide (a = b)
  all_goals
    repeat' first
      | (refine hK _ _ ?_; clear hK K)
      | (refine VWp.seqK fun K hK => ?_)
      | (refine VWp.region ?_; simp [ha, hb, h1, h2, h3])
      | (refine VWp.ret ?_)
      | (refine VWp.block ?_)
      | (refine VWp.skip ?_; simp only [vthen])
      | (apply VWp.condT; focus (simp [ha, hb, h1, h2, h3]; done))
      | (apply VWp.condF; focus (simp [ha, hb, h1, h2, h3]; done))
      | (refine (specl17Type_v _ _).mono ?_; rintro _ _ ⟨rfl, rfl⟩; try simp [ha, hb, h1, h2, h3])
    simp [optV, meet, ha, hb, h1, h2, h3]
    exact ⟨_, rfl⟩

theorem implMeet_v (a b : Int) (s : S) : VCalls Try.prog 16 [.int .i64 a, .int .i64 b] s (fun v s' => v = optV (meet a b) ∧ s' = s) := by
  refine VCalls.pureE Try.func16 rfl (by simp [Try.ntmps16]) (by simp) ?_
  rw [Try.ntmps16, Try.results16]
  cases ha : isTy a
  case false =>
    repeat' first
      | (refine hK _ _ ?_; clear hK K)
      | (refine VWp.seqK fun K hK => ?_)
      | (refine VWp.region ?_; simp [ha])
      | (refine VWp.ret ?_)
      | (refine VWp.block ?_)
      | (refine VWp.skip ?_; simp only [vthen])
      | (apply VWp.condT; focus (simp [ha]; done))
      | (apply VWp.condF; focus (simp [ha]; done))
      | (refine (implisType_v _ _).mono ?_; rintro _ _ ⟨rfl, rfl⟩; try simp [ha])
    simp [optV, meet, ha]
    exact ⟨_, rfl⟩
  cases hb : isTy b
  case false =>
    repeat' first
      | (refine hK _ _ ?_; clear hK K)
      | (refine VWp.seqK fun K hK => ?_)
      | (refine VWp.region ?_; simp [ha, hb])
      | (refine VWp.ret ?_)
      | (refine VWp.block ?_)
      | (refine VWp.skip ?_; simp only [vthen])
      | (apply VWp.condT; focus (simp [ha, hb]; done))
      | (apply VWp.condF; focus (simp [ha, hb]; done))
      | (refine (implisType_v _ _).mono ?_; rintro _ _ ⟨rfl, rfl⟩; try simp [ha, hb])
    simp [optV, meet, ha, hb]
    exact ⟨_, rfl⟩
  cases h1 : decide (a = 0)
  case true =>
    repeat' first
      | (refine hK _ _ ?_; clear hK K)
      | (refine VWp.seqK fun K hK => ?_)
      | (refine VWp.region ?_; simp [ha, hb, h1])
      | (refine VWp.ret ?_)
      | (refine VWp.block ?_)
      | (refine VWp.skip ?_; simp only [vthen])
      | (apply VWp.condT; focus (simp [ha, hb, h1]; done))
      | (apply VWp.condF; focus (simp [ha, hb, h1]; done))
      | (refine (implisType_v _ _).mono ?_; rintro _ _ ⟨rfl, rfl⟩; try simp [ha, hb, h1])
    simp [optV, meet, ha, hb, h1]
    exact ⟨_, rfl⟩
  cases h2 : decide (b = 0)
  case true =>
    repeat' first
      | (refine hK _ _ ?_; clear hK K)
      | (refine VWp.seqK fun K hK => ?_)
      | (refine VWp.region ?_; simp [ha, hb, h1, h2])
      | (refine VWp.ret ?_)
      | (refine VWp.block ?_)
      | (refine VWp.skip ?_; simp only [vthen])
      | (apply VWp.condT; focus (simp [ha, hb, h1, h2]; done))
      | (apply VWp.condF; focus (simp [ha, hb, h1, h2]; done))
      | (refine (implisType_v _ _).mono ?_; rintro _ _ ⟨rfl, rfl⟩; try simp [ha, hb, h1, h2])
    simp [optV, meet, ha, hb, h1, h2]
    exact ⟨_, rfl⟩
  cases h3 : decide (a = b)
  all_goals
    repeat' first
      | (refine hK _ _ ?_; clear hK K)
      | (refine VWp.seqK fun K hK => ?_)
      | (refine VWp.region ?_; simp [ha, hb, h1, h2, h3])
      | (refine VWp.ret ?_)
      | (refine VWp.block ?_)
      | (refine VWp.skip ?_; simp only [vthen])
      | (apply VWp.condT; focus (simp [ha, hb, h1, h2, h3]; done))
      | (apply VWp.condF; focus (simp [ha, hb, h1, h2, h3]; done))
      | (refine (implisType_v _ _).mono ?_; rintro _ _ ⟨rfl, rfl⟩; try simp [ha, hb, h1, h2, h3])
    simp [optV, meet, ha, hb, h1, h2, h3]
    exact ⟨_, rfl⟩

theorem specUnType_v (op a : Int) (s : S) : VCalls Try.prog 17 [.int .i64 op, .int .i64 a] s (fun v s' => v = optV (unTy op a) ∧ s' = s) := by
  refine VCalls.pureE Try.func17 rfl (by simp [Try.ntmps17]) (by simp) ?_
  rw [Try.ntmps17, Try.results17]
  cases h1 : decide (op = 15)
  case true =>
    repeat' first
      | (refine hK _ _ ?_; clear hK K)
      | (refine VWp.seqK fun K hK => ?_)
      | (refine VWp.region ?_; simp [h1])
      | (refine VWp.ret ?_)
      | (refine VWp.block ?_)
      | (refine VWp.skip ?_; simp only [vthen])
      | (apply VWp.condT; focus (simp [h1]; done))
      | (apply VWp.condF; focus (simp [h1]; done))
      | (refine (specTruthy_v _ _).mono ?_; rintro _ _ ⟨rfl, rfl⟩; try simp [h1])
      | (refine (specl17Like_v _ _ _).mono ?_; rintro _ _ ⟨rfl, rfl⟩; try simp [h1])
      | (refine (specl17If_v _ _ _).mono ?_; rintro _ _ ⟨rfl, rfl⟩; try simp [h1])
    simp [optV, unTy, h1]
    exact ⟨_, rfl⟩
  cases h2 : decide (op = 16)
  all_goals
    repeat' first
      | (refine hK _ _ ?_; clear hK K)
      | (refine VWp.seqK fun K hK => ?_)
      | (refine VWp.region ?_; simp [h1, h2])
      | (refine VWp.ret ?_)
      | (refine VWp.block ?_)
      | (refine VWp.skip ?_; simp only [vthen])
      | (apply VWp.condT; focus (simp [h1, h2]; done))
      | (apply VWp.condF; focus (simp [h1, h2]; done))
      | (refine (specTruthy_v _ _).mono ?_; rintro _ _ ⟨rfl, rfl⟩; try simp [h1, h2])
      | (refine (specl17Like_v _ _ _).mono ?_; rintro _ _ ⟨rfl, rfl⟩; try simp [h1, h2])
      | (refine (specl17If_v _ _ _).mono ?_; rintro _ _ ⟨rfl, rfl⟩; try simp [h1, h2])
    simp [optV, unTy, h1, h2]
    exact ⟨_, rfl⟩

theorem implUnType_v (op a : Int) (s : S) : VCalls Try.prog 18 [.int .i64 op, .int .i64 a] s (fun v s' => v = optV (unTy op a) ∧ s' = s) := by
  refine VCalls.pureE Try.func18 rfl (by simp [Try.ntmps18]) (by simp) ?_
  rw [Try.ntmps18, Try.results18]
  cases e1 : decide (op = 15)
  case true =>
    have e2 : decide (op = 16) = false := by simp at e1 ⊢; omega
    cases h1 : truthy a
    all_goals
      repeat' first
        | (refine hK _ _ ?_; clear hK K)
        | (refine VWp.seqK fun K hK => ?_)
        | (refine VWp.region ?_; simp [e1, e2, h1])
        | (refine VWp.ret ?_)
        | (refine VWp.block ?_)
        | (refine VWp.skip ?_; simp only [vthen])
        | (apply VWp.condT; focus (simp [e1, e2, h1]; done))
        | (apply VWp.condF; focus (simp [e1, e2, h1]; done))
        | (refine (implTruthy_v _ _).mono ?_; rintro _ _ ⟨rfl, rfl⟩; try simp [e1, e2, h1])
        | (refine (implareOf_v _ _ _ _).mono ?_; rintro _ _ ⟨rfl, rfl⟩; try simp [e1, e2, h1])
      simp [optV, unTy, e1, e2, h1]
      exact ⟨_, rfl⟩
  case false =>
    cases e2 : decide (op = 16)
    case false =>
      repeat' first
        | (refine hK _ _ ?_; clear hK K)
        | (refine VWp.seqK fun K hK => ?_)
        | (refine VWp.region ?_; simp [e1, e2])
        | (refine VWp.ret ?_)
        | (refine VWp.block ?_)
        | (refine VWp.skip ?_; simp only [vthen])
        | (apply VWp.condT; focus (simp [e1, e2]; done))
        | (apply VWp.condF; focus (simp [e1, e2]; done))
        | (refine (implTruthy_v _ _).mono ?_; rintro _ _ ⟨rfl, rfl⟩; try simp [e1, e2])
        | (refine (implareOf_v _ _ _ _).mono ?_; rintro _ _ ⟨rfl, rfl⟩; try simp [e1, e2])
      simp [optV, unTy, e1, e2]
      exact ⟨_, rfl⟩
    cases h1 : like a 1
    all_goals
      repeat' first
        | (refine hK _ _ ?_; clear hK K)
        | (refine VWp.seqK fun K hK => ?_)
        | (refine VWp.region ?_; simp [e1, e2, h1])
        | (refine VWp.ret ?_)
        | (refine VWp.block ?_)
        | (refine VWp.skip ?_; simp only [vthen])
        | (apply VWp.condT; focus (simp [e1, e2, h1]; done))
        | (apply VWp.condF; focus (simp [e1, e2, h1]; done))
        | (refine (implTruthy_v _ _).mono ?_; rintro _ _ ⟨rfl, rfl⟩; try simp [e1, e2, h1])
        | (refine (implareOf_v _ _ _ _).mono ?_; rintro _ _ ⟨rfl, rfl⟩; try simp [e1, e2, h1])
      simp [optV, unTy, e1, e2, h1]
      exact ⟨_, rfl⟩

end Go.Proofs.Ytkchiflcpecbeaa
