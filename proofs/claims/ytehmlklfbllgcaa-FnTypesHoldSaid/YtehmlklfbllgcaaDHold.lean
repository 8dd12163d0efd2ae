/-
  Binary operators on values and their types, what is drawn for them, and the law that well-typed operators hold. Own work; no condition.
-/
import Derived.Test.YtehmlklfbllgcaaDBig
import Derived.Test.YtehmlklfbllgcaaDTy
import Derived.Test.YtehmlklfbllgcaaDVal
import Derived.Test.YtehmlklfbllgcaaVFac
namespace Go.Proofs.Ytehmlklfbllgcaa
open Go
set_option linter.unusedSimpArgs false
set_option linter.unusedVariables false

theorem AnsL.quoN {P : Program} {L : Kn} {s : S} {T U : TypeId} {x y : Operand} {k : IntKind} {m n : Int} (hx : opd L x = some (.int k m)) (hy : opd L y = some (.int k n)) (h : n ≠ 0) : AnsL P (.binOp .quo T x y U) L s (.int k (k.wrap (m.tdiv n))) :=
  .of fun σ hσ _ _ _ _ _ => by simp only [vop, opd_eq hσ hx, opd_eq hσ hy, vbin, vint, h, Option.bind_some, if_true, if_false, Option.map_some]
theorem AnsL.remN {P : Program} {L : Kn} {s : S} {T U : TypeId} {x y : Operand} {k : IntKind} {m n : Int} (hx : opd L x = some (.int k m)) (hy : opd L y = some (.int k n)) (h : n ≠ 0) : AnsL P (.binOp .rem T x y U) L s (.int k (m.tmod n)) :=
  .of fun σ hσ _ _ _ _ _ => by simp only [vop, opd_eq hσ hx, opd_eq hσ hy, vbin, vint, h, Option.bind_some, if_true, if_false, Option.map_some]

def V0 : V := .agg [.int .i64 0, .int .i64 0, .str []]
def numV (n : Int) : V := .agg [.int .i64 1, .int .i64 n, .str []]
def txtV (t : List UInt8) : V := .agg [.int .i64 2, .int .i64 0, .str t]
def booV (b : Bool) : V := .agg [.int .i64 3, .int .i64 (if b then 1 else 0), .str []]
@[simp] theorem V0_dat : V0.dat = true := by simp [V0]
@[simp] theorem numV_dat (n : Int) : (numV n).dat = true := by simp [numV]
@[simp] theorem txtV_dat (n : List UInt8) : (txtV n).dat = true := by simp [txtV]
@[simp] theorem booV_dat (n : Bool) : (booV n).dat = true := by simp [booV]
/-- An answer of an operator on numbers. -/
def NumR (r : V × Int) : Prop := (∃ n, r = (numV n, 0)) ∨ r = (V0, 2) ∨ r = (V0, 3)
def resV (r : V × Int) : V := .tup [r.1, .int .i64 r.2]
@[simp] theorem resV_dat (v : V) (n : Int) (h : v.dat = true) : (resV (v, n)).dat = true := by simp [resV, h]

theorem implIntValue_h (n : Int) (s : S) : VCalls Try.prog 142 [.int .i64 n] s (fun v s' => v = numV n ∧ s' = s) := by
  refine LCalls.pure Try.func142 rfl (by kernel_rfl) (by simp) ?_
  repeat' first
    | (refine kOps ?_; first | (refine LOps.nil ?_) | (refine kStore ?_; refine LOps.storeP tT_ok rfl rfl rfl rfl rfl rfl rfl rfl rfl ?_) | (refine LOps.ev tT_ok rfl ?_) | (refine kAlloc ?_; refine LOps.alloc tT_ok rfl rfl rfl rfl ?_))
    | (refine kWL ?_; first | (refine WL.seq ?_) | (refine WL.region (by kernel_rfl) ?_) | (refine WL.ret ?_))
    | (refine lthen_n ?_)
    | (refine LPost.r1 (r := .cell 2 45) (.inl rfl) (Res1.cell tT_ok rfl rfl rfl rfl) ?_)
    | (refine PureR.mk ?_)
  rfl
theorem implTextValue_h (t : List UInt8) (s : S) : VCalls Try.prog 88 [.str t] s (fun v s' => v = txtV t ∧ s' = s) := by
  refine LCalls.pure Try.func88 rfl (by kernel_rfl) (by simp) ?_
  repeat' first
    | (refine kOps ?_; first | (refine LOps.nil ?_) | (refine kStore ?_; refine LOps.storeP tT_ok rfl rfl rfl rfl rfl rfl rfl rfl rfl ?_) | (refine LOps.ev tT_ok rfl ?_) | (refine kAlloc ?_; refine LOps.alloc tT_ok rfl rfl rfl rfl ?_))
    | (refine kWL ?_; first | (refine WL.seq ?_) | (refine WL.region (by kernel_rfl) ?_) | (refine WL.ret ?_))
    | (refine lthen_n ?_)
    | (refine LPost.r1 (r := .cell 2 45) (.inl rfl) (Res1.cell tT_ok rfl rfl rfl rfl) ?_)
    | (refine PureR.mk ?_)
  rfl
theorem implBoolValue_h (b : Bool) (s : S) : VCalls Try.prog 136 [.bool b] s (fun v s' => v = booV b ∧ s' = s) := by
  cases b
  all_goals
    refine LCalls.pure Try.func136 rfl (by kernel_rfl) (by simp) ?_
    repeat' first
      | (refine kOps ?_; first | (refine LOps.nil ?_) | (refine kStore ?_; refine LOps.storeP tT_ok rfl rfl rfl rfl rfl rfl rfl rfl rfl ?_) | (refine LOps.ev tT_ok rfl ?_) | (refine kAlloc ?_; refine LOps.alloc tT_ok rfl rfl rfl rfl ?_) | (refine kLoad ?_; first | (refine LOps.ans (AnsL.loadP tT_ok rfl rfl rfl rfl) ?_)))
      | (refine kWL ?_; first | (refine WL.seq ?_) | (refine WL.region (by kernel_rfl) ?_) | (refine WL.skip ?_) | (refine WL.ret ?_) | (refine kCond ?_; first | (refine WL.condT rfl ?_) | (refine WL.condF rfl ?_)))
      | (refine lthen_n ?_)
      | (refine LPost.r1 (r := .cell 2 45) (.inl rfl) (Res1.cell tT_ok rfl rfl rfl rfl) ?_)
      | (refine PureR.mk ?_)
    rfl
def W64 (a : Int) : Prop := -9223372036854775808 ≤ a ∧ a ≤ 9223372036854775807
theorem implAddNum_e (a b : Int) (ha : W64 a) (hb : W64 b) : ∃ r : Int × Bool, ∀ s, VCalls Try.prog 138 [.int .i64 a, .int .i64 b] s (fun v s' => v = .tup [.int .i64 r.1, .bool r.2] ∧ s' = s) := by
  obtain ⟨a1, a2⟩ := ha
  obtain ⟨b1, b2⟩ := hb
  by_cases c1 : 0 < b
  · by_cases c2 : 9223372036854775807 - b < a
    · refine ⟨(0, false), fun s => ?_⟩
      refine LCalls.pure Try.func138 rfl (by kernel_rfl) (by simp) ?_
      repeat' first
        | (refine kOps ?_; first | (refine LOps.nil ?_) | (refine kG ?_; first | (refine LOps.gT rfl rfl rfl ?_) | (refine LOps.gF rfl rfl rfl ?_) | (refine LOps.gU rfl rfl ?_) | (refine LOps.gD true rfl rfl rfl ?_ ?_; (focus (first | (exact decide_eq_true (by assumption)))))) | (refine LOps.ev tT_ok rfl ?_) | (refine kBin ?_; first | (refine LOps.ans (AnsL.sub rfl rfl ?_) ?_; (focus (constructor <;> omega)))))
        | (refine kWL ?_; first | (refine WL.seq ?_) | (refine WL.region (by kernel_rfl) ?_) | (refine WL.ret ?_) | (refine kCond ?_; first | (refine WL.condT rfl ?_)))
        | (refine lthen_n ?_)
        | (refine lthen_r ?_)
        | (refine LPost.r2 (r := .tmp 4) (r' := .tmp 5) (.inl rfl) (Res1.tmp rfl) (Res1.tmp rfl) ?_)
        | (refine PureR.mk ?_)
      rfl
    · have c3 : ¬ b < 0 := by omega
      refine ⟨(a + b, true), fun s => ?_⟩
      refine LCalls.pure Try.func138 rfl (by kernel_rfl) (by simp) ?_
      repeat' first
        | (refine kOps ?_; first | (refine LOps.nil ?_) | (refine kG ?_; first | (refine LOps.gT rfl rfl rfl ?_) | (refine LOps.gF rfl rfl rfl ?_) | (refine LOps.gD true rfl rfl rfl ?_ ?_; (focus (first | (exact decide_eq_true (by assumption))))) | (refine LOps.gD false rfl rfl rfl ?_ ?_; (focus (first | (exact decide_eq_false (by assumption)))))) | (refine LOps.ev tT_ok rfl ?_) | (refine kBin ?_; first | (refine LOps.ans (AnsL.add rfl rfl ?_) ?_; (focus (constructor <;> omega))) | (refine LOps.ans (AnsL.sub rfl rfl ?_) ?_; (focus (constructor <;> omega)))))
        | (refine kWL ?_; first | (refine WL.seq ?_) | (refine WL.region (by kernel_rfl) ?_) | (refine WL.skip ?_) | (refine WL.ret ?_) | (refine kCond ?_; first | (refine WL.condF rfl ?_)))
        | (refine lthen_n ?_)
        | (refine LPost.r2 (r := .tmp 4) (r' := .tmp 5) (.inl rfl) (Res1.tmp rfl) (Res1.tmp rfl) ?_)
        | (refine PureR.mk ?_)
      rfl
  · by_cases c3 : b < 0
    · by_cases c2 : a < -9223372036854775808 - b
      · refine ⟨(0, false), fun s => ?_⟩
        refine LCalls.pure Try.func138 rfl (by kernel_rfl) (by simp) ?_
        repeat' first
          | (refine kOps ?_; first | (refine LOps.nil ?_) | (refine kG ?_; first | (refine LOps.gT rfl rfl rfl ?_) | (refine LOps.gF rfl rfl rfl ?_) | (refine LOps.gD true rfl rfl rfl ?_ ?_; (focus (first | (exact decide_eq_true (by assumption))))) | (refine LOps.gD false rfl rfl rfl ?_ ?_; (focus (first | (exact decide_eq_false (by assumption)))))) | (refine LOps.ev tT_ok rfl ?_) | (refine kBin ?_; first | (refine LOps.ans (AnsL.sub rfl rfl ?_) ?_; (focus (constructor <;> omega)))))
          | (refine kWL ?_; first | (refine WL.seq ?_) | (refine WL.region (by kernel_rfl) ?_) | (refine WL.ret ?_) | (refine kCond ?_; first | (refine WL.condT' rfl ?_ ?_; (focus (first | (exact decide_eq_true (by assumption)))))))
          | (refine lthen_n ?_)
          | (refine lthen_r ?_)
          | (refine LPost.r2 (r := .tmp 4) (r' := .tmp 5) (.inl rfl) (Res1.tmp rfl) (Res1.tmp rfl) ?_)
          | (refine PureR.mk ?_)
        rfl
      · refine ⟨(a + b, true), fun s => ?_⟩
        refine LCalls.pure Try.func138 rfl (by kernel_rfl) (by simp) ?_
        repeat' first
          | (refine kOps ?_; first | (refine LOps.nil ?_) | (refine kG ?_; first | (refine LOps.gT rfl rfl rfl ?_) | (refine LOps.gF rfl rfl rfl ?_) | (refine LOps.gD true rfl rfl rfl ?_ ?_; (focus (first | (exact decide_eq_true (by assumption))))) | (refine LOps.gD false rfl rfl rfl ?_ ?_; (focus (first | (exact decide_eq_false (by assumption)))))) | (refine LOps.ev tT_ok rfl ?_) | (refine kBin ?_; first | (refine LOps.ans (AnsL.add rfl rfl ?_) ?_; (focus (constructor <;> omega))) | (refine LOps.ans (AnsL.sub rfl rfl ?_) ?_; (focus (constructor <;> omega)))))
          | (refine kWL ?_; first | (refine WL.seq ?_) | (refine WL.region (by kernel_rfl) ?_) | (refine WL.skip ?_) | (refine WL.ret ?_) | (refine kCond ?_; first | (refine WL.condF' rfl ?_ ?_; (focus (first | (exact decide_eq_false (by assumption)))))))
          | (refine lthen_n ?_)
          | (refine LPost.r2 (r := .tmp 4) (r' := .tmp 5) (.inl rfl) (Res1.tmp rfl) (Res1.tmp rfl) ?_)
          | (refine PureR.mk ?_)
        rfl
    · refine ⟨(a + b, true), fun s => ?_⟩
      refine LCalls.pure Try.func138 rfl (by kernel_rfl) (by simp) ?_
      repeat' first
        | (refine kOps ?_; first | (refine LOps.nil ?_) | (refine kG ?_; first | (refine LOps.gT rfl rfl rfl ?_) | (refine LOps.gF rfl rfl rfl ?_) | (refine LOps.gD false rfl rfl rfl ?_ ?_; (focus (first | (exact decide_eq_false (by assumption)))))) | (refine LOps.ev tT_ok rfl ?_) | (refine kBin ?_; first | (refine LOps.ans (AnsL.add rfl rfl ?_) ?_; (focus (constructor <;> omega)))))
        | (refine kWL ?_; first | (refine WL.seq ?_) | (refine WL.region (by kernel_rfl) ?_) | (refine WL.skip ?_) | (refine WL.ret ?_) | (refine kCond ?_; first | (refine WL.condF rfl ?_)))
        | (refine lthen_n ?_)
        | (refine LPost.r2 (r := .tmp 4) (r' := .tmp 5) (.inl rfl) (Res1.tmp rfl) (Res1.tmp rfl) ?_)
        | (refine PureR.mk ?_)
      rfl
theorem implSubNum_e (a b : Int) (ha : W64 a) (hb : W64 b) : ∃ r : Int × Bool, ∀ s, VCalls Try.prog 139 [.int .i64 a, .int .i64 b] s (fun v s' => v = .tup [.int .i64 r.1, .bool r.2] ∧ s' = s) := by
  obtain ⟨a1, a2⟩ := ha
  obtain ⟨b1, b2⟩ := hb
  by_cases c1 : b < 0
  · by_cases c2 : 9223372036854775807 + b < a
    · refine ⟨(0, false), fun s => ?_⟩
      refine LCalls.pure Try.func139 rfl (by kernel_rfl) (by simp) ?_
      repeat' first
        | (refine kOps ?_; first | (refine LOps.nil ?_) | (refine kG ?_; first | (refine LOps.gT rfl rfl rfl ?_) | (refine LOps.gF rfl rfl rfl ?_) | (refine LOps.gU rfl rfl ?_) | (refine LOps.gD true rfl rfl rfl ?_ ?_; (focus (first | (exact decide_eq_true (by assumption)))))) | (refine LOps.ev tT_ok rfl ?_) | (refine kBin ?_; first | (refine LOps.ans (AnsL.add rfl rfl ?_) ?_; (focus (constructor <;> omega)))))
        | (refine kWL ?_; first | (refine WL.seq ?_) | (refine WL.region (by kernel_rfl) ?_) | (refine WL.ret ?_) | (refine kCond ?_; first | (refine WL.condT rfl ?_)))
        | (refine lthen_n ?_)
        | (refine lthen_r ?_)
        | (refine LPost.r2 (r := .tmp 4) (r' := .tmp 5) (.inl rfl) (Res1.tmp rfl) (Res1.tmp rfl) ?_)
        | (refine PureR.mk ?_)
      rfl
    · have c3 : ¬ 0 < b := by omega
      refine ⟨(a - b, true), fun s => ?_⟩
      refine LCalls.pure Try.func139 rfl (by kernel_rfl) (by simp) ?_
      repeat' first
        | (refine kOps ?_; first | (refine LOps.nil ?_) | (refine kG ?_; first | (refine LOps.gT rfl rfl rfl ?_) | (refine LOps.gF rfl rfl rfl ?_) | (refine LOps.gD true rfl rfl rfl ?_ ?_; (focus (first | (exact decide_eq_true (by assumption))))) | (refine LOps.gD false rfl rfl rfl ?_ ?_; (focus (first | (exact decide_eq_false (by assumption)))))) | (refine LOps.ev tT_ok rfl ?_) | (refine kBin ?_; first | (refine LOps.ans (AnsL.add rfl rfl ?_) ?_; (focus (constructor <;> omega))) | (refine LOps.ans (AnsL.sub rfl rfl ?_) ?_; (focus (constructor <;> omega)))))
        | (refine kWL ?_; first | (refine WL.seq ?_) | (refine WL.region (by kernel_rfl) ?_) | (refine WL.skip ?_) | (refine WL.ret ?_) | (refine kCond ?_; first | (refine WL.condF rfl ?_)))
        | (refine lthen_n ?_)
        | (refine LPost.r2 (r := .tmp 4) (r' := .tmp 5) (.inl rfl) (Res1.tmp rfl) (Res1.tmp rfl) ?_)
        | (refine PureR.mk ?_)
      rfl
  · by_cases c3 : 0 < b
    · by_cases c2 : a < -9223372036854775808 + b
      · refine ⟨(0, false), fun s => ?_⟩
        refine LCalls.pure Try.func139 rfl (by kernel_rfl) (by simp) ?_
        repeat' first
          | (refine kOps ?_; first | (refine LOps.nil ?_) | (refine kG ?_; first | (refine LOps.gT rfl rfl rfl ?_) | (refine LOps.gF rfl rfl rfl ?_) | (refine LOps.gD true rfl rfl rfl ?_ ?_; (focus (first | (exact decide_eq_true (by assumption))))) | (refine LOps.gD false rfl rfl rfl ?_ ?_; (focus (first | (exact decide_eq_false (by assumption)))))) | (refine LOps.ev tT_ok rfl ?_) | (refine kBin ?_; first | (refine LOps.ans (AnsL.add rfl rfl ?_) ?_; (focus (constructor <;> omega)))))
          | (refine kWL ?_; first | (refine WL.seq ?_) | (refine WL.region (by kernel_rfl) ?_) | (refine WL.ret ?_) | (refine kCond ?_; first | (refine WL.condT' rfl ?_ ?_; (focus (first | (exact decide_eq_true (by assumption)))))))
          | (refine lthen_n ?_)
          | (refine lthen_r ?_)
          | (refine LPost.r2 (r := .tmp 4) (r' := .tmp 5) (.inl rfl) (Res1.tmp rfl) (Res1.tmp rfl) ?_)
          | (refine PureR.mk ?_)
        rfl
      · refine ⟨(a - b, true), fun s => ?_⟩
        refine LCalls.pure Try.func139 rfl (by kernel_rfl) (by simp) ?_
        repeat' first
          | (refine kOps ?_; first | (refine LOps.nil ?_) | (refine kG ?_; first | (refine LOps.gT rfl rfl rfl ?_) | (refine LOps.gF rfl rfl rfl ?_) | (refine LOps.gD true rfl rfl rfl ?_ ?_; (focus (first | (exact decide_eq_true (by assumption))))) | (refine LOps.gD false rfl rfl rfl ?_ ?_; (focus (first | (exact decide_eq_false (by assumption)))))) | (refine LOps.ev tT_ok rfl ?_) | (refine kBin ?_; first | (refine LOps.ans (AnsL.add rfl rfl ?_) ?_; (focus (constructor <;> omega))) | (refine LOps.ans (AnsL.sub rfl rfl ?_) ?_; (focus (constructor <;> omega)))))
          | (refine kWL ?_; first | (refine WL.seq ?_) | (refine WL.region (by kernel_rfl) ?_) | (refine WL.skip ?_) | (refine WL.ret ?_) | (refine kCond ?_; first | (refine WL.condF' rfl ?_ ?_; (focus (first | (exact decide_eq_false (by assumption)))))))
          | (refine lthen_n ?_)
          | (refine LPost.r2 (r := .tmp 4) (r' := .tmp 5) (.inl rfl) (Res1.tmp rfl) (Res1.tmp rfl) ?_)
          | (refine PureR.mk ?_)
        rfl
    · refine ⟨(a - b, true), fun s => ?_⟩
      refine LCalls.pure Try.func139 rfl (by kernel_rfl) (by simp) ?_
      repeat' first
        | (refine kOps ?_; first | (refine LOps.nil ?_) | (refine kG ?_; first | (refine LOps.gT rfl rfl rfl ?_) | (refine LOps.gF rfl rfl rfl ?_) | (refine LOps.gD false rfl rfl rfl ?_ ?_; (focus (first | (exact decide_eq_false (by assumption)))))) | (refine LOps.ev tT_ok rfl ?_) | (refine kBin ?_; first | (refine LOps.ans (AnsL.sub rfl rfl ?_) ?_; (focus (constructor <;> omega)))))
        | (refine kWL ?_; first | (refine WL.seq ?_) | (refine WL.region (by kernel_rfl) ?_) | (refine WL.skip ?_) | (refine WL.ret ?_) | (refine kCond ?_; first | (refine WL.condF rfl ?_)))
        | (refine lthen_n ?_)
        | (refine LPost.r2 (r := .tmp 4) (r' := .tmp 5) (.inl rfl) (Res1.tmp rfl) (Res1.tmp rfl) ?_)
        | (refine PureR.mk ?_)
      rfl
theorem implMulNum_e (a b : Int) : ∃ r : Int × Bool, ∀ s, VCalls Try.prog 140 [.int .i64 a, .int .i64 b] s (fun v s' => v = .tup [.int .i64 r.1, .bool r.2] ∧ s' = s) := by
  by_cases c1 : a = 0
  · refine ⟨(IntKind.i64.wrap (a * b), true), fun s => ?_⟩
    refine LCalls.pure Try.func140 rfl (by kernel_rfl) (by simp) ?_
    repeat' first
      | (refine kOps ?_; first | (refine LOps.nil ?_) | (refine kG ?_; first | (refine LOps.gF rfl rfl rfl ?_) | (refine LOps.gU rfl rfl ?_) | (refine LOps.gD false rfl rfl rfl ?_ ?_; (focus (first | (simp only [decide_eq_true_eq, decide_eq_false_iff_not, Bool.not_eq_true', Bool.not_eq_false', Int.ofNat_lt, Int.ofNat_le, Int.ofNat_inj, not_true_eq_false, not_false_eq_true]; omega))))) | (refine LOps.ev tT_ok rfl ?_) | (refine kBin ?_; first | (refine LOps.ans (AnsL.arith rfl rfl rfl) ?_)))
      | (refine kWL ?_; first | (refine WL.seq ?_) | (refine WL.region (by kernel_rfl) ?_) | (refine WL.skip ?_) | (refine WL.ret ?_) | (refine kCond ?_; first | (refine WL.condF rfl ?_)))
      | (refine lthen_n ?_)
      | (refine LPost.r2 (r := .tmp 4) (r' := .tmp 5) (.inl rfl) (Res1.tmp rfl) (Res1.tmp rfl) ?_)
      | (refine PureR.mk ?_)
    rfl
  · by_cases c2 : IntKind.i64.wrap ((IntKind.i64.wrap (a * b)).tdiv a) = b
    · by_cases c3 : a = -1
      · by_cases c4 : b = -9223372036854775808
        · refine ⟨(0, false), fun s => ?_⟩
          refine LCalls.pure Try.func140 rfl (by kernel_rfl) (by simp) ?_
          repeat' first
            | (refine kOps ?_; first | (refine LOps.nil ?_) | (refine kG ?_; first | (refine LOps.gT rfl rfl rfl ?_) | (refine LOps.gD true rfl rfl rfl ?_ ?_; (focus (first | (exact decide_eq_true (by assumption)) | (simp only [decide_eq_true_eq, decide_eq_false_iff_not, Bool.not_eq_true', Bool.not_eq_false', Int.ofNat_lt, Int.ofNat_le, Int.ofNat_inj, not_true_eq_false, not_false_eq_true]; omega)))) | (refine LOps.gD false rfl rfl rfl ?_ ?_; (focus (first | (simp only [decide_eq_true_eq, decide_eq_false_iff_not, Bool.not_eq_true', Bool.not_eq_false', Int.ofNat_lt, Int.ofNat_le, Int.ofNat_inj, not_true_eq_false, not_false_eq_true]; omega))))) | (refine LOps.ev tT_ok rfl ?_) | (refine kBin ?_; first | (refine LOps.ans (AnsL.arith rfl rfl rfl) ?_) | (refine LOps.ans (AnsL.quoN rfl rfl c1) ?_)))
            | (refine kWL ?_; first | (refine WL.seq ?_) | (refine WL.region (by kernel_rfl) ?_) | (refine WL.ret ?_) | (refine kCond ?_; first | (refine WL.condT' rfl ?_ ?_; (focus (first | (exact decide_eq_true (by assumption)))))))
            | (refine lthen_n ?_)
            | (refine lthen_r ?_)
            | (refine LPost.r2 (r := .tmp 4) (r' := .tmp 5) (.inl rfl) (Res1.tmp rfl) (Res1.tmp rfl) ?_)
            | (refine PureR.mk ?_)
          rfl
        · refine ⟨(IntKind.i64.wrap (a * b), true), fun s => ?_⟩
          refine LCalls.pure Try.func140 rfl (by kernel_rfl) (by simp) ?_
          repeat' first
            | (refine kOps ?_; first | (refine LOps.nil ?_) | (refine kG ?_; first | (refine LOps.gT rfl rfl rfl ?_) | (refine LOps.gD true rfl rfl rfl ?_ ?_; (focus (first | (exact decide_eq_true (by assumption)) | (simp only [decide_eq_true_eq, decide_eq_false_iff_not, Bool.not_eq_true', Bool.not_eq_false', Int.ofNat_lt, Int.ofNat_le, Int.ofNat_inj, not_true_eq_false, not_false_eq_true]; omega)))) | (refine LOps.gD false rfl rfl rfl ?_ ?_; (focus (first | (simp only [decide_eq_true_eq, decide_eq_false_iff_not, Bool.not_eq_true', Bool.not_eq_false', Int.ofNat_lt, Int.ofNat_le, Int.ofNat_inj, not_true_eq_false, not_false_eq_true]; omega))))) | (refine LOps.ev tT_ok rfl ?_) | (refine kBin ?_; first | (refine LOps.ans (AnsL.arith rfl rfl rfl) ?_) | (refine LOps.ans (AnsL.quoN rfl rfl c1) ?_)))
            | (refine kWL ?_; first | (refine WL.seq ?_) | (refine WL.region (by kernel_rfl) ?_) | (refine WL.skip ?_) | (refine WL.ret ?_) | (refine kCond ?_; first | (refine WL.condF' rfl ?_ ?_; (focus (first | (exact decide_eq_false (by assumption)))))))
            | (refine lthen_n ?_)
            | (refine LPost.r2 (r := .tmp 4) (r' := .tmp 5) (.inl rfl) (Res1.tmp rfl) (Res1.tmp rfl) ?_)
            | (refine PureR.mk ?_)
          rfl
      · refine ⟨(IntKind.i64.wrap (a * b), true), fun s => ?_⟩
        refine LCalls.pure Try.func140 rfl (by kernel_rfl) (by simp) ?_
        repeat' first
          | (refine kOps ?_; first | (refine LOps.nil ?_) | (refine kG ?_; first | (refine LOps.gT rfl rfl rfl ?_) | (refine LOps.gF rfl rfl rfl ?_) | (refine LOps.gD true rfl rfl rfl ?_ ?_; (focus (first | (simp only [decide_eq_true_eq, decide_eq_false_iff_not, Bool.not_eq_true', Bool.not_eq_false', Int.ofNat_lt, Int.ofNat_le, Int.ofNat_inj, not_true_eq_false, not_false_eq_true]; omega)))) | (refine LOps.gD false rfl rfl rfl ?_ ?_; (focus (first | (exact decide_eq_false (by assumption)) | (simp only [decide_eq_true_eq, decide_eq_false_iff_not, Bool.not_eq_true', Bool.not_eq_false', Int.ofNat_lt, Int.ofNat_le, Int.ofNat_inj, not_true_eq_false, not_false_eq_true]; omega))))) | (refine LOps.ev tT_ok rfl ?_) | (refine kBin ?_; first | (refine LOps.ans (AnsL.arith rfl rfl rfl) ?_) | (refine LOps.ans (AnsL.quoN rfl rfl c1) ?_)))
          | (refine kWL ?_; first | (refine WL.seq ?_) | (refine WL.region (by kernel_rfl) ?_) | (refine WL.skip ?_) | (refine WL.ret ?_) | (refine kCond ?_; first | (refine WL.condF rfl ?_)))
          | (refine lthen_n ?_)
          | (refine LPost.r2 (r := .tmp 4) (r' := .tmp 5) (.inl rfl) (Res1.tmp rfl) (Res1.tmp rfl) ?_)
          | (refine PureR.mk ?_)
        rfl
    · refine ⟨(0, false), fun s => ?_⟩
      refine LCalls.pure Try.func140 rfl (by kernel_rfl) (by simp) ?_
      repeat' first
        | (refine kOps ?_; first | (refine LOps.nil ?_) | (refine kG ?_; first | (refine LOps.gT rfl rfl rfl ?_) | (refine LOps.gF rfl rfl rfl ?_) | (refine LOps.gU rfl rfl ?_) | (refine LOps.gD true rfl rfl rfl ?_ ?_; (focus (first | (simp only [decide_eq_true_eq, decide_eq_false_iff_not, Bool.not_eq_true', Bool.not_eq_false', Int.ofNat_lt, Int.ofNat_le, Int.ofNat_inj, not_true_eq_false, not_false_eq_true]; omega))))) | (refine LOps.ev tT_ok rfl ?_) | (refine kBin ?_; first | (refine LOps.ans (AnsL.arith rfl rfl rfl) ?_) | (refine LOps.ans (AnsL.quoN rfl rfl c1) ?_)))
        | (refine kWL ?_; first | (refine WL.seq ?_) | (refine WL.region (by kernel_rfl) ?_) | (refine WL.ret ?_) | (refine kCond ?_; first | (refine WL.condT rfl ?_)))
        | (refine lthen_n ?_)
        | (refine lthen_r ?_)
        | (refine LPost.r2 (r := .tmp 4) (r' := .tmp 5) (.inl rfl) (Res1.tmp rfl) (Res1.tmp rfl) ?_)
        | (refine PureR.mk ?_)
      rfl
theorem impldivided_e (op a b : Int) : ∃ r, NumR r ∧ ∀ s, VCalls Try.prog 141 [.int .i64 op, .int .i64 a, .int .i64 b] s (fun v s' => v = resV r ∧ s' = s) := by
  by_cases c1 : b = 0
  · refine ⟨(V0, 3), .inr (.inr rfl), fun s => ?_⟩
    refine LCalls.pure Try.func141 rfl (by kernel_rfl) (by simp) ?_
    repeat' first
      | (refine kOps ?_; first | (refine LOps.nil ?_) | (refine kStore ?_; refine LOps.storeP tT_ok rfl rfl rfl rfl rfl rfl rfl rfl rfl ?_) | (refine LOps.ev tT_ok rfl ?_) | (refine kAlloc ?_; refine LOps.alloc tT_ok rfl rfl rfl rfl ?_))
      | (refine kWL ?_; first | (refine WL.seq ?_) | (refine WL.region (by kernel_rfl) ?_) | (refine WL.block ?_) | (refine WL.ret ?_) | (refine kCond ?_; first | (refine WL.condT' rfl ?_ ?_; (focus (first | (exact decide_eq_true (by assumption)))))))
      | (refine lthen_n ?_)
      | (refine lthen_r ?_)
      | (refine lblock_r ?_)
      | (refine LPost.r2 (r := .cell 6 45) (r' := .tmp 7) (.inl rfl) (Res1.cell tT_ok rfl rfl rfl rfl) (Res1.tmp rfl) ?_)
      | (refine PureR.mk ?_)
    rfl
  by_cases c2 : op = 14
  · refine ⟨(numV (a.tmod b), 0), .inl ⟨_, rfl⟩, fun s => ?_⟩
    refine LCalls.pure Try.func141 rfl (by kernel_rfl) (by simp) ?_
    repeat' first
      | (refine kOps ?_; first | (refine LOps.nil ?_) | (refine kStore ?_; refine LOps.storeP tT_ok rfl rfl rfl rfl rfl rfl rfl rfl rfl ?_) | (refine LOps.ev tT_ok rfl ?_) | (refine kAlloc ?_; refine LOps.alloc tT_ok rfl rfl rfl rfl ?_) | (refine kBin ?_; first | (refine LOps.ans (AnsL.remN rfl rfl c1) ?_)) | (refine kCallN 142 ?_; first | (refine LOps.ans (AnsL.callP rfl rfl rfl (ok142) (implIntValue_h _ _)) ?_)))
      | (refine kWL ?_; first | (refine WL.seq ?_) | (refine WL.region (by kernel_rfl) ?_) | (refine WL.block ?_) | (refine WL.ret ?_) | (refine kCond ?_; first | (refine WL.condT' rfl ?_ ?_; (focus (first | (exact decide_eq_true (by assumption))))) | (refine WL.condF' rfl ?_ ?_; (focus (first | (exact decide_eq_false (by assumption)))))))
      | (refine lthen_n ?_)
      | (refine lthen_r ?_)
      | (refine lblock_r ?_)
      | (refine LPost.r2 (r := .cell 6 45) (r' := .tmp 7) (.inl rfl) (Res1.cell tT_ok rfl rfl rfl rfl) (Res1.tmp rfl) ?_)
      | (refine PureR.mk ?_)
    rfl
  by_cases c3 : a = -9223372036854775808
  · by_cases c4 : b = -1
    · refine ⟨(V0, 2), .inr (.inl rfl), fun s => ?_⟩
      refine LCalls.pure Try.func141 rfl (by kernel_rfl) (by simp) ?_
      repeat' first
        | (refine kOps ?_; first | (refine LOps.nil ?_) | (refine kG ?_; first | (refine LOps.gT rfl rfl rfl ?_) | (refine LOps.gD true rfl rfl rfl ?_ ?_; (focus (first | (exact decide_eq_true (by assumption)))))) | (refine kStore ?_; refine LOps.storeP tT_ok rfl rfl rfl rfl rfl rfl rfl rfl rfl ?_) | (refine LOps.ev tT_ok rfl ?_) | (refine kAlloc ?_; refine LOps.alloc tT_ok rfl rfl rfl rfl ?_))
        | (refine kWL ?_; first | (refine WL.seq ?_) | (refine WL.region (by kernel_rfl) ?_) | (refine WL.block ?_) | (refine WL.ret ?_) | (refine kCond ?_; first | (refine WL.condT' rfl ?_ ?_; (focus (first | (exact decide_eq_true (by assumption))))) | (refine WL.condF' rfl ?_ ?_; (focus (first | (exact decide_eq_false (by assumption)))))))
        | (refine lthen_n ?_)
        | (refine lthen_r ?_)
        | (refine lblock_r ?_)
        | (refine LPost.r2 (r := .cell 6 45) (r' := .tmp 7) (.inl rfl) (Res1.cell tT_ok rfl rfl rfl rfl) (Res1.tmp rfl) ?_)
        | (refine PureR.mk ?_)
      rfl
    · refine ⟨(numV (IntKind.i64.wrap (a.tdiv b)), 0), .inl ⟨_, rfl⟩, fun s => ?_⟩
      refine LCalls.pure Try.func141 rfl (by kernel_rfl) (by simp) ?_
      repeat' first
        | (refine kOps ?_; first | (refine LOps.nil ?_) | (refine kG ?_; first | (refine LOps.gT rfl rfl rfl ?_) | (refine LOps.gD true rfl rfl rfl ?_ ?_; (focus (first | (exact decide_eq_true (by assumption)))))) | (refine kStore ?_; refine LOps.storeP tT_ok rfl rfl rfl rfl rfl rfl rfl rfl rfl ?_) | (refine LOps.ev tT_ok rfl ?_) | (refine kAlloc ?_; refine LOps.alloc tT_ok rfl rfl rfl rfl ?_) | (refine kBin ?_; first | (refine LOps.ans (AnsL.quoN rfl rfl c1) ?_)) | (refine kCallN 142 ?_; first | (refine LOps.ans (AnsL.callP rfl rfl rfl (ok142) (implIntValue_h _ _)) ?_)))
        | (refine kWL ?_; first | (refine WL.seq ?_) | (refine WL.region (by kernel_rfl) ?_) | (refine WL.block ?_) | (refine WL.skip ?_) | (refine WL.ret ?_) | (refine kCond ?_; first | (refine WL.condF' rfl ?_ ?_; (focus (first | (exact decide_eq_false (by assumption)))))))
        | (refine lthen_n ?_)
        | (refine lblock_n ?_)
        | (refine LPost.r2 (r := .cell 6 45) (r' := .tmp 7) (.inl rfl) (Res1.cell tT_ok rfl rfl rfl rfl) (Res1.tmp rfl) ?_)
        | (refine PureR.mk ?_)
      rfl
  · refine ⟨(numV (IntKind.i64.wrap (a.tdiv b)), 0), .inl ⟨_, rfl⟩, fun s => ?_⟩
    refine LCalls.pure Try.func141 rfl (by kernel_rfl) (by simp) ?_
    repeat' first
      | (refine kOps ?_; first | (refine LOps.nil ?_) | (refine kG ?_; first | (refine LOps.gF rfl rfl rfl ?_) | (refine LOps.gD false rfl rfl rfl ?_ ?_; (focus (first | (exact decide_eq_false (by assumption)))))) | (refine kStore ?_; refine LOps.storeP tT_ok rfl rfl rfl rfl rfl rfl rfl rfl rfl ?_) | (refine LOps.ev tT_ok rfl ?_) | (refine kAlloc ?_; refine LOps.alloc tT_ok rfl rfl rfl rfl ?_) | (refine kBin ?_; first | (refine LOps.ans (AnsL.quoN rfl rfl c1) ?_)) | (refine kCallN 142 ?_; first | (refine LOps.ans (AnsL.callP rfl rfl rfl (ok142) (implIntValue_h _ _)) ?_)))
      | (refine kWL ?_; first | (refine WL.seq ?_) | (refine WL.region (by kernel_rfl) ?_) | (refine WL.block ?_) | (refine WL.skip ?_) | (refine WL.ret ?_) | (refine kCond ?_; first | (refine WL.condF rfl ?_) | (refine WL.condF' rfl ?_ ?_; (focus (first | (exact decide_eq_false (by assumption)))))))
      | (refine lthen_n ?_)
      | (refine lblock_n ?_)
      | (refine LPost.r2 (r := .cell 6 45) (r' := .tmp 7) (.inl rfl) (Res1.cell tT_ok rfl rfl rfl rfl) (Res1.tmp rfl) ?_)
      | (refine PureR.mk ?_)
    rfl
theorem implarithmetic_e (op a b : Int) (ha : W64 a) (hb : W64 b) : ∃ r, NumR r ∧ ∀ s, VCalls Try.prog 87 [.int .i64 op, .int .i64 a, .int .i64 b] s (fun v s' => v = resV r ∧ s' = s) := by
  by_cases c1 : op = 10
  · obtain ⟨⟨n, c⟩, hA⟩ := implAddNum_e a b ha hb
    cases c
    · refine ⟨(V0, 2), .inr (.inl rfl), fun s => ?_⟩
      refine LCalls.pure Try.func87 rfl (by kernel_rfl) (by simp) ?_
      repeat' first
        | (refine kOps ?_; first | (refine LOps.nil ?_) | (refine kStore ?_; refine LOps.storeP tT_ok rfl rfl rfl rfl rfl rfl rfl rfl rfl ?_) | (refine LOps.ev tT_ok rfl ?_) | (refine kAlloc ?_; refine LOps.alloc tT_ok rfl rfl rfl rfl ?_) | (refine kCallN 138 ?_; first | (refine LOps.ans (AnsL.callP rfl rfl rfl (ok138) (hA _)) ?_)))
        | (refine kWL ?_; first | (refine WL.seq ?_) | (refine WL.region (by kernel_rfl) ?_) | (refine WL.block ?_) | (refine WL.ret ?_) | (refine kCond ?_; first | (refine WL.condT rfl ?_) | (refine WL.condT' rfl ?_ ?_; (focus (first | (exact decide_eq_true (by assumption)))))))
        | (refine lthen_n ?_)
        | (refine lthen_r ?_)
        | (refine lblock_n ?_)
        | (refine LPost.r2 (r := .cell 6 45) (r' := .tmp 7) (.inl rfl) (Res1.cell tT_ok rfl rfl rfl rfl) (Res1.tmp rfl) ?_)
        | (refine PureR.mk ?_)
      rfl
    · refine ⟨(numV n, 0), .inl ⟨_, rfl⟩, fun s => ?_⟩
      refine LCalls.pure Try.func87 rfl (by kernel_rfl) (by simp) ?_
      repeat' first
        | (refine kOps ?_; first | (refine LOps.nil ?_) | (refine kStore ?_; refine LOps.storeP tT_ok rfl rfl rfl rfl rfl rfl rfl rfl rfl ?_) | (refine LOps.ev tT_ok rfl ?_) | (refine kAlloc ?_; refine LOps.alloc tT_ok rfl rfl rfl rfl ?_) | (refine kCallN 138 ?_; first | (refine LOps.ans (AnsL.callP rfl rfl rfl (ok138) (hA _)) ?_)) | (refine kCallN 142 ?_; first | (refine LOps.ans (AnsL.callP rfl rfl rfl (ok142) (implIntValue_h _ _)) ?_)))
        | (refine kWL ?_; first | (refine WL.seq ?_) | (refine WL.region (by kernel_rfl) ?_) | (refine WL.block ?_) | (refine WL.skip ?_) | (refine WL.ret ?_) | (refine kCond ?_; first | (refine WL.condF rfl ?_) | (refine WL.condT' rfl ?_ ?_; (focus (first | (exact decide_eq_true (by assumption)))))))
        | (refine lthen_n ?_)
        | (refine lblock_n ?_)
        | (refine LPost.r2 (r := .cell 6 45) (r' := .tmp 7) (.inl rfl) (Res1.cell tT_ok rfl rfl rfl rfl) (Res1.tmp rfl) ?_)
        | (refine PureR.mk ?_)
      rfl
  by_cases c2 : op = 11
  · obtain ⟨⟨n, c⟩, hA⟩ := implSubNum_e a b ha hb
    cases c
    · refine ⟨(V0, 2), .inr (.inl rfl), fun s => ?_⟩
      refine LCalls.pure Try.func87 rfl (by kernel_rfl) (by simp) ?_
      repeat' first
        | (refine kOps ?_; first | (refine LOps.nil ?_) | (refine kStore ?_; refine LOps.storeP tT_ok rfl rfl rfl rfl rfl rfl rfl rfl rfl ?_) | (refine LOps.ev tT_ok rfl ?_) | (refine kAlloc ?_; refine LOps.alloc tT_ok rfl rfl rfl rfl ?_) | (refine kCallN 139 ?_; first | (refine LOps.ans (AnsL.callP rfl rfl rfl (ok139) (hA _)) ?_)))
        | (refine kWL ?_; first | (refine WL.seq ?_) | (refine WL.region (by kernel_rfl) ?_) | (refine WL.block ?_) | (refine WL.ret ?_) | (refine kCond ?_; first | (refine WL.condT rfl ?_) | (refine WL.condT' rfl ?_ ?_; (focus (first | (exact decide_eq_true (by assumption))))) | (refine WL.condF' rfl ?_ ?_; (focus (first | (exact decide_eq_false (by assumption)))))))
        | (refine lthen_n ?_)
        | (refine lthen_r ?_)
        | (refine lblock_n ?_)
        | (refine LPost.r2 (r := .cell 6 45) (r' := .tmp 7) (.inl rfl) (Res1.cell tT_ok rfl rfl rfl rfl) (Res1.tmp rfl) ?_)
        | (refine PureR.mk ?_)
      rfl
    · refine ⟨(numV n, 0), .inl ⟨_, rfl⟩, fun s => ?_⟩
      refine LCalls.pure Try.func87 rfl (by kernel_rfl) (by simp) ?_
      repeat' first
        | (refine kOps ?_; first | (refine LOps.nil ?_) | (refine kStore ?_; refine LOps.storeP tT_ok rfl rfl rfl rfl rfl rfl rfl rfl rfl ?_) | (refine LOps.ev tT_ok rfl ?_) | (refine kAlloc ?_; refine LOps.alloc tT_ok rfl rfl rfl rfl ?_) | (refine kCallN 139 ?_; first | (refine LOps.ans (AnsL.callP rfl rfl rfl (ok139) (hA _)) ?_)) | (refine kCallN 142 ?_; first | (refine LOps.ans (AnsL.callP rfl rfl rfl (ok142) (implIntValue_h _ _)) ?_)))
        | (refine kWL ?_; first | (refine WL.seq ?_) | (refine WL.region (by kernel_rfl) ?_) | (refine WL.block ?_) | (refine WL.skip ?_) | (refine WL.ret ?_) | (refine kCond ?_; first | (refine WL.condF rfl ?_) | (refine WL.condT' rfl ?_ ?_; (focus (first | (exact decide_eq_true (by assumption))))) | (refine WL.condF' rfl ?_ ?_; (focus (first | (exact decide_eq_false (by assumption)))))))
        | (refine lthen_n ?_)
        | (refine lblock_n ?_)
        | (refine LPost.r2 (r := .cell 6 45) (r' := .tmp 7) (.inl rfl) (Res1.cell tT_ok rfl rfl rfl rfl) (Res1.tmp rfl) ?_)
        | (refine PureR.mk ?_)
      rfl
  by_cases c3 : op = 12
  · obtain ⟨⟨n, c⟩, hA⟩ := implMulNum_e a b
    cases c
    · refine ⟨(V0, 2), .inr (.inl rfl), fun s => ?_⟩
      refine LCalls.pure Try.func87 rfl (by kernel_rfl) (by simp) ?_
      repeat' first
        | (refine kOps ?_; first | (refine LOps.nil ?_) | (refine kStore ?_; refine LOps.storeP tT_ok rfl rfl rfl rfl rfl rfl rfl rfl rfl ?_) | (refine LOps.ev tT_ok rfl ?_) | (refine kAlloc ?_; refine LOps.alloc tT_ok rfl rfl rfl rfl ?_) | (refine kCallN 140 ?_; first | (refine LOps.ans (AnsL.callP rfl rfl rfl (ok140) (hA _)) ?_)))
        | (refine kWL ?_; first | (refine WL.seq ?_) | (refine WL.region (by kernel_rfl) ?_) | (refine WL.block ?_) | (refine WL.ret ?_) | (refine kCond ?_; first | (refine WL.condT rfl ?_) | (refine WL.condT' rfl ?_ ?_; (focus (first | (exact decide_eq_true (by assumption))))) | (refine WL.condF' rfl ?_ ?_; (focus (first | (exact decide_eq_false (by assumption)))))))
        | (refine lthen_n ?_)
        | (refine lthen_r ?_)
        | (refine lblock_n ?_)
        | (refine LPost.r2 (r := .cell 6 45) (r' := .tmp 7) (.inl rfl) (Res1.cell tT_ok rfl rfl rfl rfl) (Res1.tmp rfl) ?_)
        | (refine PureR.mk ?_)
      rfl
    · refine ⟨(numV n, 0), .inl ⟨_, rfl⟩, fun s => ?_⟩
      refine LCalls.pure Try.func87 rfl (by kernel_rfl) (by simp) ?_
      repeat' first
        | (refine kOps ?_; first | (refine LOps.nil ?_) | (refine kStore ?_; refine LOps.storeP tT_ok rfl rfl rfl rfl rfl rfl rfl rfl rfl ?_) | (refine LOps.ev tT_ok rfl ?_) | (refine kAlloc ?_; refine LOps.alloc tT_ok rfl rfl rfl rfl ?_) | (refine kCallN 140 ?_; first | (refine LOps.ans (AnsL.callP rfl rfl rfl (ok140) (hA _)) ?_)) | (refine kCallN 142 ?_; first | (refine LOps.ans (AnsL.callP rfl rfl rfl (ok142) (implIntValue_h _ _)) ?_)))
        | (refine kWL ?_; first | (refine WL.seq ?_) | (refine WL.region (by kernel_rfl) ?_) | (refine WL.block ?_) | (refine WL.skip ?_) | (refine WL.ret ?_) | (refine kCond ?_; first | (refine WL.condF rfl ?_) | (refine WL.condT' rfl ?_ ?_; (focus (first | (exact decide_eq_true (by assumption))))) | (refine WL.condF' rfl ?_ ?_; (focus (first | (exact decide_eq_false (by assumption)))))))
        | (refine lthen_n ?_)
        | (refine lblock_n ?_)
        | (refine LPost.r2 (r := .cell 6 45) (r' := .tmp 7) (.inl rfl) (Res1.cell tT_ok rfl rfl rfl rfl) (Res1.tmp rfl) ?_)
        | (refine PureR.mk ?_)
      rfl
  · obtain ⟨r, hr, hA⟩ := impldivided_e op a b
    refine ⟨r, hr, fun s => ?_⟩
    rcases hr with ⟨n, rfl⟩ | rfl | rfl
    all_goals
      refine LCalls.pure Try.func87 rfl (by kernel_rfl) (by simp) ?_
      repeat' first
        | (refine kOps ?_; first | (refine LOps.nil ?_) | (refine kStore ?_; refine LOps.storeP tT_ok rfl rfl rfl rfl rfl rfl rfl rfl rfl ?_) | (refine LOps.ev tT_ok rfl ?_) | (refine kAlloc ?_; refine LOps.alloc tT_ok rfl rfl rfl rfl ?_) | (refine kCallN 141 ?_; first | (refine LOps.ans (AnsL.callP rfl rfl rfl (ok141) (hA _)) ?_)))
        | (refine kWL ?_; first | (refine WL.seq ?_) | (refine WL.region (by kernel_rfl) ?_) | (refine WL.block ?_) | (refine WL.ret ?_) | (refine kCond ?_; first | (refine WL.condF' rfl ?_ ?_; (focus (first | (exact decide_eq_false (by assumption)))))))
        | (refine lthen_n ?_)
        | (refine lthen_r ?_)
        | (refine lblock_r ?_)
        | (refine LPost.r2 (r := .cell 6 45) (r' := .tmp 7) (.inl rfl) (Res1.cell tT_ok rfl rfl rfl rfl) (Res1.tmp rfl) ?_)
        | (refine PureR.mk ?_)
      rfl

end Go.Proofs.Ytehmlklfbllgcaa
