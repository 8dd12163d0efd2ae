/-
  Slices of plans' trees hold no variables.
  Values and whether a row's values fit types, of the program and of the reference.
  What has a type of plans' trees is one.
  Copies, sizes and comparisons of plans' trees and plans. Printed by a program of our own; no condition.
  Own work; no condition.
-/
import Derived.Test.YtolhegocbkckdaaDPE
import Derived.Test.YtolhegocbkckdaaMg12
namespace Go.Proofs.Ytolhegocbkckdaa
open Go
theorem plainL_of' {id : Nat} {xs : List V} (h : V.plain (.sl id xs) = true) : V.plainL xs = true := by
 simp only [V.plain, Bool.and_eq_true] at h
 exact h.2
@[simp] theorem PE.under_S (n : Nat) (l : List PE) : V.underL n (l.map PE.toV) = true := underL_dat (plainL_dat _ (plainL_of' (plain_PExprS l)))
@[simp] theorem PE.under_SS (n : Nat) (l : List (List PE)) : V.underL n (l.map PE.vS) = true := underL_dat (plainL_dat _ (plainL_of' (plain_PExprSS l)))
@[simp] theorem PE.under_O (n : Nat) (l : List (PE × Bool)) : V.underL n (l.map PE.sv) = true := underL_dat (plainL_dat _ (plainL_of' (plain_PSortS l)))
@[simp] theorem PE.under_P (n : Nat) (l : List PL) : V.underL n (l.map PE.planV) = true := underL_dat (plainL_dat _ (plainL_of' (plain_PlanS l)))
end Go.Proofs.Ytolhegocbkckdaa

namespace Go.Proofs.Ytolhegocbkckdaa
open Go
set_option linter.unusedSimpArgs false
set_option linter.unusedVariables false
def inR (x lo hi : Int) : Bool := decide (lo ≤ x) && decide (x ≤ hi)
theorem specl1In_v (x lo hi : Int) (s : S) : VCalls Try.prog 36 [.int .i64 x, .int .i64 lo, .int .i64 hi] s (fun v s' => v = .bool (inR x lo hi) ∧ s' = s) := by
 refine LCalls.pure Try.func36 rfl (by kernel_rfl) (by simp) ?_
 repeat' first | (refine kOps ?_; first | (refine LOps.nil ?_) | (refine kG ?_; first | (refine LOps.gT rfl rfl rfl ?_) | (refine LOps.gF rfl rfl rfl ?_) | (refine LOps.gC rfl rfl rfl (fun h => ?_) (fun h => ?_))) | (refine LOps.ev tT_ok rfl ?_)) | (refine kWL ?_; first | (refine WL.seq ?_) | (refine WL.region (by kernel_rfl) ?_) | (refine WL.ret ?_)) | (refine lthen_n ?_) | (refine LPost.r1 (r := .tmp 6) (.inl rfl) (Res1.tmp rfl) ?_) | (refine PureR.mk ?_)
 all_goals (simp_all [inR] <;> omega)
def Val.ok (v : Val) : Bool :=
 if v.kind = 0 then decide (v.num = 0) && decide (v.text = []) else if v.kind = 1 then decide (v.text = []) else
 if v.kind = 2 then decide (v.num = 0) && decide ((v.text.length : Int) ≤ 200) else if v.kind = 3 then inR v.num 0 1 && decide (v.text = []) else false
def Val.fits (v : Val) (ty : Int) : Bool := v.ok && (decide (v.kind = 0) || decide (v.kind = ty))
theorem inR01 {n : Int} : inR n 0 1 = (decide (n = 0) || decide (n = 1)) := by
 unfold inR
 by_cases h0 : n = 0
 · subst h0; decide
 by_cases h1 : n = 1
 · subst h1; decide
 simp only [h0, h1, decide_false, Bool.or_self, Bool.and_eq_false_iff, decide_eq_false_iff_not]
 omega
theorem specValueOk_v (v : Val) (s : S) : VCalls Try.prog 152 [v.toV] s (fun r s' => r = .bool v.ok ∧ s' = s) := by
 refine LCalls.pure Try.func152 rfl (by kernel_rfl) (by simp) ?_
 repeat' first | (refine kOps ?_; first | (refine LOps.nil ?_) | (refine kG ?_; first | (refine LOps.gT rfl rfl rfl ?_) | (refine LOps.gF rfl rfl rfl ?_) | (refine LOps.gC rfl rfl rfl (fun h => ?_) (fun h => ?_))) | (refine LOps.ev tT_ok rfl ?_) | (refine kBox ?_; refine LOps.box rfl rfl rfl rfl ?_) | (refine kLoad ?_; first | (refine LOps.ans (AnsL.loadP tT_ok rfl rfl rfl rfl) ?_)) | (refine kCallN 36 ?_; first | (refine LOps.ans (AnsL.callP rfl rfl rfl (ok36) (specl1In_v _ _ _ _)) ?_))) | (refine kWL ?_; first | (refine WL.seq ?_) | (refine WL.region (by kernel_rfl) ?_) | (refine WL.block ?_) | (refine WL.skip ?_) | (refine WL.ret ?_) | (refine kCond ?_; first | (refine WL.cond rfl (fun h => ?_) (fun h => ?_)))) | (refine lthen_n ?_) | (refine lthen_r ?_) | (refine lblock_n ?_) | (refine lblock_r ?_) | (refine LPost.r1 (r := .tmp 2) (.inl rfl) (Res1.tmp rfl) ?_) | (refine PureR.mk ?_)
 all_goals simp_all [Val.ok]
theorem implValueOk_v (v : Val) (s : S) : VCalls Try.prog 148 [v.toV] s (fun r s' => r = .bool v.ok ∧ s' = s) := by
 refine LCalls.pure Try.func148 rfl (by kernel_rfl) (by simp) ?_
 repeat' first | (refine kOps ?_; first | (refine LOps.nil ?_) | (refine kG ?_; first | (refine LOps.gT rfl rfl rfl ?_) | (refine LOps.gF rfl rfl rfl ?_) | (refine LOps.gC rfl rfl rfl (fun h => ?_) (fun h => ?_))) | (refine LOps.ev tT_ok rfl ?_) | (refine kBox ?_; refine LOps.box rfl rfl rfl rfl ?_) | (refine kLoad ?_; first | (refine LOps.ans (AnsL.loadP tT_ok rfl rfl rfl rfl) ?_))) | (refine kWL ?_; first | (refine WL.seq ?_) | (refine WL.region (by kernel_rfl) ?_) | (refine WL.block ?_) | (refine WL.skip ?_) | (refine WL.ret ?_) | (refine kCond ?_; first | (refine WL.cond rfl (fun h => ?_) (fun h => ?_)))) | (refine lthen_n ?_) | (refine lthen_r ?_) | (refine lblock_n ?_) | (refine lblock_r ?_) | (refine LPost.r1 (r := .tmp 2) (.inl rfl) (Res1.tmp rfl) ?_) | (refine PureR.mk ?_)
 all_goals simp_all [Val.ok, inR01]
def fitsAll : List Val → List Int → Bool
 | v :: vs, t :: ts => v.fits t && fitsAll vs ts
 | _, _ => true
def rowFits (row : List Val) (types : List Int) : Bool := decide (row.length = types.length) && fitsAll row types
end Go.Proofs.Ytolhegocbkckdaa

namespace Go.Proofs.Ytolhegocbkckdaa
open Go
set_option linter.unusedSimpArgs false
set_option linter.unusedVariables false
end Go.Proofs.Ytolhegocbkckdaa

namespace Go.Proofs.Ytolhegocbkckdaa
open Go
set_option linter.unusedSimpArgs false
set_option linter.unusedVariables false
def ToC (P : Program) (g : FuncId) (d : V) : Prop := ∀ t : S, VCalls P g [d] t (fun v t' => Own2 d v t')
def SzC (P : Program) (g : FuncId) (d : V) : Prop := ∀ (left : Int) (s : S), 0 ≤ left → left ≤ 1048576 → VCalls P g [d, .int .i64 left] s (fun v s' => v = .int .i64 (szI (wgt d) left) ∧ s' = s)
def EqC (P : Program) (g : FuncId) (d : V) : Prop := ∀ s : S, VCalls P g [d, d] s (fun v s' => v = .bool true ∧ s' = s)
theorem ToC.pure {P : Program} {g : FuncId} {d : V} (h : ToC P g d) (hd : d.plain = true) (s : S) : VCalls P g [d] s (fun v s' => v = d ∧ s' = s) := VCalls.pureOf (plainL_cons hd rfl) hd h s
theorem plainL_of {id : Nat} {xs : List V} (h : V.plain (.sl id xs) = true) : V.plainL xs = true := by
 simp only [V.plain, Bool.and_eq_true] at h
 exact h.2
theorem PE.wgt_eq2 (x : PE) : wgt x.v = x.value.wt + wgt (.sl 0 (x.kids.map PE.toV)) + wgt (.sl 0 (x.sub.map PE.planV)) := PE.wgt_eq x
theorem PExprS_len (l : List PE) : ∀ x ∈ l.map PE.toV, x.cells.length = 10 := by
 intro v hv
 obtain ⟨x, _, rfl⟩ := List.mem_map.1 hv
 rw [PE.toV_eq]; rfl
theorem PExprS_wgt (l : List PE) : wgt (.sl 0 (l.map PE.toV)) = slW (fun x => wgt (PE.v x)) l := by
 rw [wgt_sl]
 simp only [PE.toV_eq]
theorem PExprSS_len (l : List (List PE)) : ∀ x ∈ l.map PE.vS, x.cells.length = 1 := by
 intro v hv
 obtain ⟨x, _, rfl⟩ := List.mem_map.1 hv
 rfl
theorem PExprSS_wgt (l : List (List PE)) : wgt (.sl 0 (l.map PE.vS)) = slW (fun x => wgt (PE.vS x)) l := by
 rw [wgt_sl]
theorem PSortS_len (l : List (PE × Bool)) : ∀ x ∈ l.map PE.sv, x.cells.length = 11 := by
 intro v hv
 obtain ⟨x, _, rfl⟩ := List.mem_map.1 hv
 rfl
theorem PSortS_wgt (l : List (PE × Bool)) : wgt (.sl 0 (l.map PE.sv)) = slW (fun x => wgt (PE.sv x)) l := by
 rw [wgt_sl]
theorem PlanS_len (l : List PL) : ∀ x ∈ l.map PE.planV, x.cells.length = 8 := by
 intro v hv
 obtain ⟨x, _, rfl⟩ := List.mem_map.1 hv
 rw [PE.planV_eq]; rfl
theorem PlanS_wgt (l : List PL) : wgt (.sl 0 (l.map PE.planV)) = slW (fun x => wgt (PL.v x)) l := by
 rw [wgt_sl]
 simp only [PE.planV_eq]
theorem PE.wgt_kid {e k : PE} (h : k ∈ e.kids) : wgt k.v ≤ wgt e.v := by
 have h1 := wgt_mem (f := PE.toV) h
 rw [PE.toV_eq] at h1
 have := PE.wgt_eq2 e
 omega
theorem PE.wgt_sub {e : PE} {p : PL} (h : p ∈ e.sub) : wgt p.v ≤ wgt e.v := by
 have h1 := wgt_mem (f := PE.planV) h
 rw [PE.planV_eq] at h1
 have := PE.wgt_eq2 e
 omega
theorem PL.wgt_part2 {p : PL} {k : PE} (h : k ∈ p.parts) : wgt k.v ≤ wgt p.v := by
 have := PL.wgt_part h
 rwa [PE.toV_eq] at this
theorem PL.wgt_on {p : PL} {l : List PE} (h : l ∈ p.on) : wgt (.sl 0 (l.map PE.toV)) ≤ wgt p.v := by
 have h1 := wgt_mem (f := PE.vS) h
 have := PL.wgt_eq p
 simp only [PE.vS] at h1
 omega
end Go.Proofs.Ytolhegocbkckdaa
