/-
  Plans' trees and plans compared, of the program and of the reference. Printed by a program of our own; no condition.
-/
import Derived.Test.YtolhegocbkckdaaDPE
import Derived.Test.YtolhegocbkckdaaDSame
namespace Go.Proofs.Ytolhegocbkckdaa
open Go
set_option linter.unusedSimpArgs false
set_option linter.unusedVariables false

theorem plainL_of' {id : Nat} {xs : List V} (h : V.plain (.sl id xs) = true) : V.plainL xs = true := by
  simp only [V.plain, Bool.and_eq_true] at h
  exact h.2
mutual
def PE.eqB : PE → PE → Bool
  | .mk k o n v u p kids sub, y => decide (k = y.kind) && (decide (o = y.op) && (decide (n = y.nt) && (valEq v y.value && (decide (u = y.up) && (decide (p = y.pos) && (PE.eqL kids y.kids && PE.eqPs sub y.sub))))))
def PE.eqL : List PE → List PE → Bool
  | x :: xs, y :: ys => PE.eqB x y && PE.eqL xs ys
  | [], [] => true
  | _, _ => false
def PE.eqPs : List (PlanOf PE) → List (PlanOf PE) → Bool
  | x :: xs, y :: ys => PE.eqP x y && PE.eqPs xs ys
  | [], [] => true
  | _, _ => false
def PE.eqP : PlanOf PE → PlanOf PE → Bool
  | ⟨t, on, w, o, i, n, d, l⟩, q => same intEq t q.tables && (PE.eqLL on q.on && (PE.eqL w q.wher && (PE.eqO o q.order && (PE.eqL i q.items && (same strEq n q.names && (decide (d = q.distinct) && decide (l = q.limit)))))))
def PE.eqLL : List (List PE) → List (List PE) → Bool
  | x :: xs, y :: ys => PE.eqL x y && PE.eqLL xs ys
  | [], [] => true
  | _, _ => false
def PE.eqO : List (PE × Bool) → List (PE × Bool) → Bool
  | x :: xs, y :: ys => PE.eqS x y && PE.eqO xs ys
  | [], [] => true
  | _, _ => false
def PE.eqS : PE × Bool → PE × Bool → Bool
  | (e, d), y => decide (d = y.2) && PE.eqB e y.1
end
theorem same_cons {α : Type} (p : α → α → Bool) (x y : α) (xs ys : List α) : same p (x :: xs) (y :: ys) = (p x y && same p xs ys) := by
  unfold same
  simp only [List.length_cons, Nat.add_right_cancel_iff, eqAll]
  cases p x y <;> cases decide (xs.length = ys.length) <;> rfl
theorem same_nc {α : Type} (p : α → α → Bool) (x : α) (xs : List α) : same p [] (x :: xs) = false ∧ same p (x :: xs) [] = false := by constructor <;> simp [same]
theorem PE.eqL_eq : ∀ (a b : List PE), PE.eqL a b = same PE.eqB a b
  | x :: xs, y :: ys => by rw [same_cons, PE.eqL, PE.eqL_eq xs ys]
  | [], [] => by simp [PE.eqL, same, eqAll]
  | [], y :: ys => by rw [(same_nc _ y ys).1]; simp [PE.eqL]
  | y :: ys, [] => by rw [(same_nc _ y ys).2]; simp [PE.eqL]
theorem PE.eqPs_eq : ∀ (a b : List (PlanOf PE)), PE.eqPs a b = same PE.eqP a b
  | x :: xs, y :: ys => by rw [same_cons, PE.eqPs, PE.eqPs_eq xs ys]
  | [], [] => by simp [PE.eqPs, same, eqAll]
  | [], y :: ys => by rw [(same_nc _ y ys).1]; simp [PE.eqPs]
  | y :: ys, [] => by rw [(same_nc _ y ys).2]; simp [PE.eqPs]
theorem PE.eqO_eq : ∀ (a b : List (PE × Bool)), PE.eqO a b = same PE.eqS a b
  | x :: xs, y :: ys => by rw [same_cons, PE.eqO, PE.eqO_eq xs ys]
  | [], [] => by simp [PE.eqO, same, eqAll]
  | [], y :: ys => by rw [(same_nc _ y ys).1]; simp [PE.eqO]
  | y :: ys, [] => by rw [(same_nc _ y ys).2]; simp [PE.eqO]
theorem PE.eqLL_eq : ∀ (a b : List (List PE)), PE.eqLL a b = same (same PE.eqB) a b
  | x :: xs, y :: ys => by rw [same_cons, PE.eqLL, PE.eqLL_eq xs ys, PE.eqL_eq]
  | [], [] => by simp [PE.eqLL, same, eqAll]
  | [], y :: ys => by rw [(same_nc _ y ys).1]; simp [PE.eqLL]
  | y :: ys, [] => by rw [(same_nc _ y ys).2]; simp [PE.eqLL]
theorem PE.eqB_eq (x y : PE) : x.eqB y = (decide (x.kind = y.kind) && (decide (x.op = y.op) && (decide (x.nt = y.nt) && (valEq x.value y.value && (decide (x.up = y.up) && (decide (x.pos = y.pos) && (same PE.eqB x.kids y.kids && same PE.eqP x.sub y.sub))))))) := by
  cases x
  cases y
  simp only [PE.eqB, PE.eqL_eq, PE.eqPs_eq, PE.kind, PE.op, PE.nt, PE.value, PE.up, PE.pos, PE.kids, PE.sub]
  rfl
theorem PE.eqS_eq (x y : PE × Bool) : PE.eqS x y = (decide (x.2 = y.2) && PE.eqB x.1 y.1) := by
  obtain ⟨e, d⟩ := x
  obtain ⟨e2, d2⟩ := y
  simp only [PE.eqS]
theorem PE.eqP_eq (p q : PL) : PE.eqP p q = (same intEq p.tables q.tables && (same (same PE.eqB) p.on q.on && (same PE.eqB p.wher q.wher && (same PE.eqS p.order q.order && (same PE.eqB p.items q.items && (same strEq p.names q.names && (decide (p.distinct = q.distinct) && decide (p.limit = q.limit)))))))) := by
  obtain ⟨t, on, w, o, i, n, d, l⟩ := p
  simp only [PE.eqP, PE.eqL_eq, PE.eqLL_eq, PE.eqO_eq]
theorem same_refl {α : Type} {p : α → α → Bool} : ∀ (l : List α), (∀ x ∈ l, p x x = true) → same p l l = true
  | [], _ => by simp [same, eqAll]
  | x :: l, h => by rw [same_cons, h x (by simp), same_refl l fun y hy => h y (by simp [hy])]; rfl
theorem valEq_refl (v : Val) : valEq v v = true := by simp [valEq]
theorem PE.eqP_refl (p : PL) (h : ∀ k ∈ p.parts, PE.eqB k k = true) : PE.eqP p p = true := by
  rw [PE.eqP_eq, same_refl p.tables (by simp [intEq]), same_refl p.on fun l hl => same_refl l fun k hk => h k (PlanOf.mem_on hl hk), same_refl p.wher fun k hk => h k (PlanOf.mem_wher hk),
    same_refl p.order fun x hx => by rw [PE.eqS_eq, h x.1 (PlanOf.mem_order hx)]; simp, same_refl p.items fun k hk => h k (PlanOf.mem_items hk), same_refl p.names (by simp [strEq])]
  simp
theorem PE.eqB_refl (x : PE) : x.eqB x = true := by
  induction x using PE.ind with
  | h e ih1 ih2 => rw [PE.eqB_eq, valEq_refl, same_refl e.kids ih1, same_refl e.sub fun p hp => PE.eqP_refl p (ih2 p hp)]; simp
theorem wf_len2 {i j : Nat} {xs ys : List V} {r : List V} (h : (V.sl i xs :: V.sl j ys :: r).all V.wf = true) : xs.length ≤ 9223372036854775807 ∧ ys.length ≤ 9223372036854775807 := by
  simp only [List.all_cons, Bool.and_eq_true, V.wf, decide_eq_true_eq] at h
  obtain ⟨⟨h1, _⟩, ⟨h2, _⟩, _⟩ := h
  unfold maxLen at h1 h2
  omega

theorem equalFuncPE_v (a b : List PE) (s : S) (p : PE → PE → Bool) (g : FuncId) (caps : List V) (hg : CallOk Try.prog g) (hcd : V.underL s.next caps = true) (hp1 : ∀ x, x ∈ a → ∀ y, y ∈ b → ∀ ys, VCalls Try.prog g (PE.v x :: PE.v y :: caps) (s.ext ys) (fun v s' => v = .bool (p x y) ∧ s' = s.ext ys)) : VCalls Try.prog 85 [.sl 0 (a.map PE.toV), .sl 0 (b.map PE.toV), .fn g caps] s (fun v s' => v = .bool (same p a b) ∧ s' = s) := by
  refine VCalls.wf fun hwf => ?_
  obtain ⟨h1, h2⟩ := wf_len2 hwf
  rw [List.length_map] at h1 h2
  refine LCalls.pure Try.func85 rfl (by kernel_rfl) (by simp) ?_
  by_cases hnn : ¬ (a.length : Int) = b.length
  · skip
    repeat' first
      | (refine kOps ?_; first | (refine LOps.nil ?_) | (refine LOps.ev tT_ok rfl ?_) | (refine kLen ?_; first | (refine LOps.ans (AnsL.lenM tT_ok rfl rfl rfl) ?_)))
      | (refine kWL ?_; first | (refine WL.seq ?_) | (refine WL.region (by kernel_rfl) ?_) | (refine WL.ret ?_) | (refine kCond ?_; first | (refine WL.condT' rfl ?_ ?_; (focus (first | (simp only [decide_eq_true_eq, decide_eq_false_iff_not, Bool.not_eq_true', Bool.not_eq_false', Int.ofNat_lt, Int.ofNat_le, Int.ofNat_inj, not_true_eq_false, not_false_eq_true]; omega))))))
      | (refine lthen_n ?_)
      | (refine lthen_r ?_)
      | (refine LPost.r1 (r := .tmp 6) (.inl rfl) (Res1.tmp rfl) ?_)
      | (refine PureR.mk ?_)
    rw [same_ne hnn]; rfl
  have hne : (a.length : Int) = b.length := by omega
  repeat' first
    | (refine kOps ?_; first | (refine LOps.nil ?_) | (refine LOps.ev tT_ok rfl ?_) | (refine kLen ?_; first | (refine LOps.ans (AnsL.lenM tT_ok rfl rfl rfl) ?_)))
    | (refine kWL ?_; first | (refine WL.seq ?_) | (refine WL.region (by kernel_rfl) ?_) | (refine WL.block ?_) | (refine WL.skip ?_) | (refine kCond ?_; first | (refine WL.condF' rfl ?_ ?_; (focus (first | (simp only [decide_eq_true_eq, decide_eq_false_iff_not, Bool.not_eq_true', Bool.not_eq_false', Int.ofNat_lt, Int.ofNat_le, Int.ofNat_inj, not_true_eq_false, not_false_eq_true]; omega))))))
    | (refine lthen_n ?_)
  refine WL.loopD (fun i : Nat => a.length - i) (fun i => [(1, .sl 0 (b.map PE.toV)), (2, .fn g caps), (15, .sl 0 (a.map PE.toV)), (16, .int .i64 a.length), (17, .int .i64 (i : Int))]) (fun i => [])
    (fun i => i ≤ a.length ∧ same p a b = eqAll p (a.drop i) (b.drop i)) 0 0 ⟨by omega, same_eq hne⟩ (fun _ => rfl) ⟨rfl, rfl, rfl, rfl, rfl, trivial⟩ rfl (fun i hi => ?_) (fun i hi => ?_)
  · refine ⟨?_, rfl⟩
    simp only [UnderK, List.all_cons, List.all_nil, Bool.and_true, Bool.and_eq_true]
    refine ⟨under_dat (plain_dat _ (plain_PExprS _)), hcd, under_dat (plain_dat _ (plain_PExprS _)), rfl, rfl⟩
  obtain ⟨hi, hc⟩ := hi
  rcases Nat.lt_or_ge i a.length with hlt | hge
  · have hlt2 : i < b.length := by omega
    have hga : (a.map PE.toV)[i]? = some (PE.v a[i]) := by rw [List.getElem?_map, List.getElem?_eq_getElem hlt]; simp only [Option.map_some, PE.toV_eq]
    have hgb : (b.map PE.toV)[i]? = some (PE.v b[i]) := by rw [List.getElem?_map, List.getElem?_eq_getElem hlt2]; simp only [Option.map_some, PE.toV_eq]
    rw [eqAll_drop hlt hlt2] at hc
    have hE := hp1 a[i] (List.getElem_mem hlt) b[i] (List.getElem_mem hlt2)
    cases hp : p a[i] b[i]
    all_goals rw [hp] at hE
    · skip
      repeat' first
        | (refine kOps ?_; first | (refine LOps.nil ?_) | (refine kStore ?_; refine LOps.storeP tT_ok rfl rfl rfl rfl rfl rfl rfl rfl rfl ?_) | (refine LOps.ev tT_ok rfl ?_) | (refine kAlloc ?_; refine LOps.alloc tT_ok rfl rfl rfl rfl ?_) | (refine kLoad ?_; first | (refine LOps.ans (AnsL.loadP tT_ok rfl rfl rfl rfl) ?_)) | (refine kIdx ?_; first | (refine LOps.ans (AnsL.idx tT_ok rfl rfl rfl rfl rfl hga rfl rfl) ?_) | (refine LOps.ans (AnsL.idx tT_ok rfl rfl rfl rfl rfl hgb rfl rfl) ?_)) | (refine kCall ?_; first | (refine LOps.ans (AnsL.callP rfl rfl rfl (hg) (hE _)) ?_)))
        | (refine kWL ?_; first | (refine WL.seq ?_) | (refine WL.region (by kernel_rfl) ?_) | (refine WL.block ?_) | (refine WL.skip ?_) | (refine WL.ret ?_) | (refine kCond ?_; first | (refine WL.condT rfl ?_) | (refine WL.condT' rfl ?_ ?_; (focus (first | (simp only [decide_eq_true_eq, decide_eq_false_iff_not, Bool.not_eq_true', Bool.not_eq_false', Int.ofNat_lt, Int.ofNat_le, Int.ofNat_inj, not_true_eq_false, not_false_eq_true]; omega))))))
        | (refine lthen_n ?_)
        | (refine lthen_r ?_)
        | (refine lblock_r ?_)
        | (refine lbackD_r ?_)
        | (refine LPost.r1 (r := .tmp 6) (.inl rfl) (Res1.tmp rfl) ?_)
        | (refine PureR.mk ?_)
      all_goals simp_all
    · skip
      repeat' first
        | (refine kOps ?_; first | (refine LOps.nil ?_) | (refine kStore ?_; refine LOps.storeP tT_ok rfl rfl rfl rfl rfl rfl rfl rfl rfl ?_) | (refine LOps.ev tT_ok rfl ?_) | (refine kAlloc ?_; refine LOps.alloc tT_ok rfl rfl rfl rfl ?_) | (refine kLoad ?_; first | (refine LOps.ans (AnsL.loadP tT_ok rfl rfl rfl rfl) ?_)) | (refine kBin ?_; first | (refine LOps.ans (AnsL.add rfl rfl ?_) ?_; (focus (constructor <;> omega)))) | (refine kIdx ?_; first | (refine LOps.ans (AnsL.idx tT_ok rfl rfl rfl rfl rfl hga rfl rfl) ?_) | (refine LOps.ans (AnsL.idx tT_ok rfl rfl rfl rfl rfl hgb rfl rfl) ?_)) | (refine kCall ?_; first | (refine LOps.ans (AnsL.callP rfl rfl rfl (hg) (hE _)) ?_)))
        | (refine kWL ?_; first | (refine WL.seq ?_) | (refine WL.region (by kernel_rfl) ?_) | (refine WL.block ?_) | (refine WL.skip ?_) | (refine kCond ?_; first | (refine WL.condF rfl ?_) | (refine WL.condT' rfl ?_ ?_; (focus (first | (simp only [decide_eq_true_eq, decide_eq_false_iff_not, Bool.not_eq_true', Bool.not_eq_false', Int.ofNat_lt, Int.ofNat_le, Int.ofNat_inj, not_true_eq_false, not_false_eq_true]; omega))))))
        | (refine lthen_n ?_)
        | (refine lblock_n ?_)
      all_goals
        refine lbackD.of (i + 1) ?_ ?_ ?_ ?_
        · first | omega | (refine ⟨?_, ?_⟩; (focus (first | omega | (simp; omega))); (first | omega | (simp_all [hc, hp] <;> fail) | (simp_all [hc, hp]; omega))) | (simp_all [hc, hp] <;> fail) | (simp_all [hc, hp]; omega)
        · first | omega | (simp; omega) | simp_all
        · repeat' first
            | exact SubL.nil
            | (refine SubL.mk rfl ?_ ?_)
            | rfl
            | (simp [hc, hp] <;> fail)
            | (simp [hc, hp]; omega)
        · first | rfl | (simp [hc, hp] <;> fail) | (simp [hc, hp]; omega)
  · rw [eqAll_end hge] at hc
    repeat' first
      | (refine kOps ?_; first | (refine LOps.nil ?_) | (refine LOps.ev tT_ok rfl ?_))
      | (refine kWL ?_; first | (refine WL.seq ?_) | (refine WL.region (by kernel_rfl) ?_) | (refine WL.exit ?_) | (refine WL.ret ?_) | (refine kCond ?_; first | (refine WL.condF' rfl ?_ ?_; (focus (first | (simp only [decide_eq_true_eq, decide_eq_false_iff_not, Bool.not_eq_true', Bool.not_eq_false', Int.ofNat_lt, Int.ofNat_le, Int.ofNat_inj, not_true_eq_false, not_false_eq_true]; omega))))))
      | (refine lthen_n ?_)
      | (refine lthen_e ?_)
      | (refine lblock_e ?_)
      | (refine lbackD_e ?_)
      | (refine LPost.r1 (r := .tmp 6) (.inl rfl) (Res1.tmp rfl) ?_)
      | (refine PureR.mk ?_)
    rw [hc]; rfl
theorem equalFuncPEL_v (a b : List (List PE)) (s : S) (p : (List PE) → (List PE) → Bool) (g : FuncId) (caps : List V) (hg : CallOk Try.prog g) (hcd : V.underL s.next caps = true) (hp1 : ∀ x, x ∈ a → ∀ y, y ∈ b → ∀ ys, VCalls Try.prog g (PE.vS x :: PE.vS y :: caps) (s.ext ys) (fun v s' => v = .bool (p x y) ∧ s' = s.ext ys)) : VCalls Try.prog 51 [.sl 0 (a.map PE.vS), .sl 0 (b.map PE.vS), .fn g caps] s (fun v s' => v = .bool (same p a b) ∧ s' = s) := by
  refine VCalls.wf fun hwf => ?_
  obtain ⟨h1, h2⟩ := wf_len2 hwf
  rw [List.length_map] at h1 h2
  refine LCalls.pure Try.func51 rfl (by kernel_rfl) (by simp) ?_
  by_cases hnn : ¬ (a.length : Int) = b.length
  · skip
    repeat' first
      | (refine kOps ?_; first | (refine LOps.nil ?_) | (refine LOps.ev tT_ok rfl ?_) | (refine kLen ?_; first | (refine LOps.ans (AnsL.lenM tT_ok rfl rfl rfl) ?_)))
      | (refine kWL ?_; first | (refine WL.seq ?_) | (refine WL.region (by kernel_rfl) ?_) | (refine WL.ret ?_) | (refine kCond ?_; first | (refine WL.condT' rfl ?_ ?_; (focus (first | (simp only [decide_eq_true_eq, decide_eq_false_iff_not, Bool.not_eq_true', Bool.not_eq_false', Int.ofNat_lt, Int.ofNat_le, Int.ofNat_inj, not_true_eq_false, not_false_eq_true]; omega))))))
      | (refine lthen_n ?_)
      | (refine lthen_r ?_)
      | (refine LPost.r1 (r := .tmp 6) (.inl rfl) (Res1.tmp rfl) ?_)
      | (refine PureR.mk ?_)
    rw [same_ne hnn]; rfl
  have hne : (a.length : Int) = b.length := by omega
  repeat' first
    | (refine kOps ?_; first | (refine LOps.nil ?_) | (refine LOps.ev tT_ok rfl ?_) | (refine kLen ?_; first | (refine LOps.ans (AnsL.lenM tT_ok rfl rfl rfl) ?_)))
    | (refine kWL ?_; first | (refine WL.seq ?_) | (refine WL.region (by kernel_rfl) ?_) | (refine WL.block ?_) | (refine WL.skip ?_) | (refine kCond ?_; first | (refine WL.condF' rfl ?_ ?_; (focus (first | (simp only [decide_eq_true_eq, decide_eq_false_iff_not, Bool.not_eq_true', Bool.not_eq_false', Int.ofNat_lt, Int.ofNat_le, Int.ofNat_inj, not_true_eq_false, not_false_eq_true]; omega))))))
    | (refine lthen_n ?_)
  refine WL.loopD (fun i : Nat => a.length - i) (fun i => [(1, .sl 0 (b.map PE.vS)), (2, .fn g caps), (15, .sl 0 (a.map PE.vS)), (16, .int .i64 a.length), (17, .int .i64 (i : Int))]) (fun i => [])
    (fun i => i ≤ a.length ∧ same p a b = eqAll p (a.drop i) (b.drop i)) 0 0 ⟨by omega, same_eq hne⟩ (fun _ => rfl) ⟨rfl, rfl, rfl, rfl, rfl, trivial⟩ rfl (fun i hi => ?_) (fun i hi => ?_)
  · refine ⟨?_, rfl⟩
    simp only [UnderK, List.all_cons, List.all_nil, Bool.and_true, Bool.and_eq_true]
    refine ⟨under_dat (plain_dat _ (plain_PExprSS _)), hcd, under_dat (plain_dat _ (plain_PExprSS _)), rfl, rfl⟩
  obtain ⟨hi, hc⟩ := hi
  rcases Nat.lt_or_ge i a.length with hlt | hge
  · have hlt2 : i < b.length := by omega
    have hga : (a.map PE.vS)[i]? = some (PE.vS a[i]) := by rw [List.getElem?_map, List.getElem?_eq_getElem hlt]; rfl
    have hgb : (b.map PE.vS)[i]? = some (PE.vS b[i]) := by rw [List.getElem?_map, List.getElem?_eq_getElem hlt2]; rfl
    rw [eqAll_drop hlt hlt2] at hc
    have hE := hp1 a[i] (List.getElem_mem hlt) b[i] (List.getElem_mem hlt2)
    cases hp : p a[i] b[i]
    all_goals rw [hp] at hE
    · skip
      repeat' first
        | (refine kOps ?_; first | (refine LOps.nil ?_) | (refine LOps.ev tT_ok rfl ?_) | (refine kIdx ?_; first | (refine LOps.ans (AnsL.idx tT_ok rfl rfl rfl rfl rfl hga rfl rfl) ?_) | (refine LOps.ans (AnsL.idx tT_ok rfl rfl rfl rfl rfl hgb rfl rfl) ?_)) | (refine kCall ?_; first | (refine LOps.ans (AnsL.callP rfl rfl rfl (hg) (hE _)) ?_)))
        | (refine kWL ?_; first | (refine WL.seq ?_) | (refine WL.region (by kernel_rfl) ?_) | (refine WL.block ?_) | (refine WL.skip ?_) | (refine WL.ret ?_) | (refine kCond ?_; first | (refine WL.condT rfl ?_) | (refine WL.condT' rfl ?_ ?_; (focus (first | (simp only [decide_eq_true_eq, decide_eq_false_iff_not, Bool.not_eq_true', Bool.not_eq_false', Int.ofNat_lt, Int.ofNat_le, Int.ofNat_inj, not_true_eq_false, not_false_eq_true]; omega))))))
        | (refine lthen_n ?_)
        | (refine lthen_r ?_)
        | (refine lblock_r ?_)
        | (refine lbackD_r ?_)
        | (refine LPost.r1 (r := .tmp 6) (.inl rfl) (Res1.tmp rfl) ?_)
        | (refine PureR.mk ?_)
      all_goals simp_all
    · skip
      repeat' first
        | (refine kOps ?_; first | (refine LOps.nil ?_) | (refine LOps.ev tT_ok rfl ?_) | (refine kBin ?_; first | (refine LOps.ans (AnsL.add rfl rfl ?_) ?_; (focus (constructor <;> omega)))) | (refine kIdx ?_; first | (refine LOps.ans (AnsL.idx tT_ok rfl rfl rfl rfl rfl hga rfl rfl) ?_) | (refine LOps.ans (AnsL.idx tT_ok rfl rfl rfl rfl rfl hgb rfl rfl) ?_)) | (refine kCall ?_; first | (refine LOps.ans (AnsL.callP rfl rfl rfl (hg) (hE _)) ?_)))
        | (refine kWL ?_; first | (refine WL.seq ?_) | (refine WL.region (by kernel_rfl) ?_) | (refine WL.block ?_) | (refine WL.skip ?_) | (refine kCond ?_; first | (refine WL.condF rfl ?_) | (refine WL.condT' rfl ?_ ?_; (focus (first | (simp only [decide_eq_true_eq, decide_eq_false_iff_not, Bool.not_eq_true', Bool.not_eq_false', Int.ofNat_lt, Int.ofNat_le, Int.ofNat_inj, not_true_eq_false, not_false_eq_true]; omega))))))
        | (refine lthen_n ?_)
        | (refine lblock_n ?_)
      all_goals
        refine lbackD.of (i + 1) ?_ ?_ ?_ ?_
        · first | omega | (refine ⟨?_, ?_⟩; (focus (first | omega | (simp; omega))); (first | omega | (simp_all [hc, hp] <;> fail) | (simp_all [hc, hp]; omega))) | (simp_all [hc, hp] <;> fail) | (simp_all [hc, hp]; omega)
        · first | omega | (simp; omega) | simp_all
        · repeat' first
            | exact SubL.nil
            | (refine SubL.mk rfl ?_ ?_)
            | rfl
            | (simp [hc, hp] <;> fail)
            | (simp [hc, hp]; omega)
        · first | rfl | (simp [hc, hp] <;> fail) | (simp [hc, hp]; omega)
  · rw [eqAll_end hge] at hc
    repeat' first
      | (refine kOps ?_; first | (refine LOps.nil ?_) | (refine LOps.ev tT_ok rfl ?_))
      | (refine kWL ?_; first | (refine WL.seq ?_) | (refine WL.region (by kernel_rfl) ?_) | (refine WL.exit ?_) | (refine WL.ret ?_) | (refine kCond ?_; first | (refine WL.condF' rfl ?_ ?_; (focus (first | (simp only [decide_eq_true_eq, decide_eq_false_iff_not, Bool.not_eq_true', Bool.not_eq_false', Int.ofNat_lt, Int.ofNat_le, Int.ofNat_inj, not_true_eq_false, not_false_eq_true]; omega))))))
      | (refine lthen_n ?_)
      | (refine lthen_e ?_)
      | (refine lblock_e ?_)
      | (refine lbackD_e ?_)
      | (refine LPost.r1 (r := .tmp 6) (.inl rfl) (Res1.tmp rfl) ?_)
      | (refine PureR.mk ?_)
    rw [hc]; rfl
theorem equalFuncPS_v (a b : List (PE × Bool)) (s : S) (p : (PE × Bool) → (PE × Bool) → Bool) (g : FuncId) (caps : List V) (hg : CallOk Try.prog g) (hcd : V.underL s.next caps = true) (hp1 : ∀ x, x ∈ a → ∀ y, y ∈ b → ∀ ys, VCalls Try.prog g (PE.sv x :: PE.sv y :: caps) (s.ext ys) (fun v s' => v = .bool (p x y) ∧ s' = s.ext ys)) : VCalls Try.prog 52 [.sl 0 (a.map PE.sv), .sl 0 (b.map PE.sv), .fn g caps] s (fun v s' => v = .bool (same p a b) ∧ s' = s) := by
  refine VCalls.wf fun hwf => ?_
  obtain ⟨h1, h2⟩ := wf_len2 hwf
  rw [List.length_map] at h1 h2
  refine LCalls.pure Try.func52 rfl (by kernel_rfl) (by simp) ?_
  by_cases hnn : ¬ (a.length : Int) = b.length
  · skip
    repeat' first
      | (refine kOps ?_; first | (refine LOps.nil ?_) | (refine LOps.ev tT_ok rfl ?_) | (refine kLen ?_; first | (refine LOps.ans (AnsL.lenM tT_ok rfl rfl rfl) ?_)))
      | (refine kWL ?_; first | (refine WL.seq ?_) | (refine WL.region (by kernel_rfl) ?_) | (refine WL.ret ?_) | (refine kCond ?_; first | (refine WL.condT' rfl ?_ ?_; (focus (first | (simp only [decide_eq_true_eq, decide_eq_false_iff_not, Bool.not_eq_true', Bool.not_eq_false', Int.ofNat_lt, Int.ofNat_le, Int.ofNat_inj, not_true_eq_false, not_false_eq_true]; omega))))))
      | (refine lthen_n ?_)
      | (refine lthen_r ?_)
      | (refine LPost.r1 (r := .tmp 6) (.inl rfl) (Res1.tmp rfl) ?_)
      | (refine PureR.mk ?_)
    rw [same_ne hnn]; rfl
  have hne : (a.length : Int) = b.length := by omega
  repeat' first
    | (refine kOps ?_; first | (refine LOps.nil ?_) | (refine LOps.ev tT_ok rfl ?_) | (refine kLen ?_; first | (refine LOps.ans (AnsL.lenM tT_ok rfl rfl rfl) ?_)))
    | (refine kWL ?_; first | (refine WL.seq ?_) | (refine WL.region (by kernel_rfl) ?_) | (refine WL.block ?_) | (refine WL.skip ?_) | (refine kCond ?_; first | (refine WL.condF' rfl ?_ ?_; (focus (first | (simp only [decide_eq_true_eq, decide_eq_false_iff_not, Bool.not_eq_true', Bool.not_eq_false', Int.ofNat_lt, Int.ofNat_le, Int.ofNat_inj, not_true_eq_false, not_false_eq_true]; omega))))))
    | (refine lthen_n ?_)
  refine WL.loopD (fun i : Nat => a.length - i) (fun i => [(1, .sl 0 (b.map PE.sv)), (2, .fn g caps), (15, .sl 0 (a.map PE.sv)), (16, .int .i64 a.length), (17, .int .i64 (i : Int))]) (fun i => [])
    (fun i => i ≤ a.length ∧ same p a b = eqAll p (a.drop i) (b.drop i)) 0 0 ⟨by omega, same_eq hne⟩ (fun _ => rfl) ⟨rfl, rfl, rfl, rfl, rfl, trivial⟩ rfl (fun i hi => ?_) (fun i hi => ?_)
  · refine ⟨?_, rfl⟩
    simp only [UnderK, List.all_cons, List.all_nil, Bool.and_true, Bool.and_eq_true]
    refine ⟨under_dat (plain_dat _ (plain_PSortS _)), hcd, under_dat (plain_dat _ (plain_PSortS _)), rfl, rfl⟩
  obtain ⟨hi, hc⟩ := hi
  rcases Nat.lt_or_ge i a.length with hlt | hge
  · have hlt2 : i < b.length := by omega
    have hga : (a.map PE.sv)[i]? = some (PE.sv a[i]) := by rw [List.getElem?_map, List.getElem?_eq_getElem hlt]; rfl
    have hgb : (b.map PE.sv)[i]? = some (PE.sv b[i]) := by rw [List.getElem?_map, List.getElem?_eq_getElem hlt2]; rfl
    rw [eqAll_drop hlt hlt2] at hc
    have hE := hp1 a[i] (List.getElem_mem hlt) b[i] (List.getElem_mem hlt2)
    cases hp : p a[i] b[i]
    all_goals rw [hp] at hE
    · skip
      repeat' first
        | (refine kOps ?_; first | (refine LOps.nil ?_) | (refine kStore ?_; refine LOps.storeP tT_ok rfl rfl rfl rfl rfl rfl rfl rfl rfl ?_) | (refine LOps.ev tT_ok rfl ?_) | (refine kAlloc ?_; refine LOps.alloc tT_ok rfl rfl rfl rfl ?_) | (refine kLoad ?_; first | (refine LOps.ans (AnsL.loadP tT_ok rfl rfl rfl rfl) ?_)) | (refine kIdx ?_; first | (refine LOps.ans (AnsL.idx tT_ok rfl rfl rfl rfl rfl hga rfl rfl) ?_) | (refine LOps.ans (AnsL.idx tT_ok rfl rfl rfl rfl rfl hgb rfl rfl) ?_)) | (refine kCall ?_; first | (refine LOps.ans (AnsL.callP rfl rfl rfl (hg) (hE _)) ?_)))
        | (refine kWL ?_; first | (refine WL.seq ?_) | (refine WL.region (by kernel_rfl) ?_) | (refine WL.block ?_) | (refine WL.skip ?_) | (refine WL.ret ?_) | (refine kCond ?_; first | (refine WL.condT rfl ?_) | (refine WL.condT' rfl ?_ ?_; (focus (first | (simp only [decide_eq_true_eq, decide_eq_false_iff_not, Bool.not_eq_true', Bool.not_eq_false', Int.ofNat_lt, Int.ofNat_le, Int.ofNat_inj, not_true_eq_false, not_false_eq_true]; omega))))))
        | (refine lthen_n ?_)
        | (refine lthen_r ?_)
        | (refine lblock_r ?_)
        | (refine lbackD_r ?_)
        | (refine LPost.r1 (r := .tmp 6) (.inl rfl) (Res1.tmp rfl) ?_)
        | (refine PureR.mk ?_)
      all_goals simp_all
    · skip
      repeat' first
        | (refine kOps ?_; first | (refine LOps.nil ?_) | (refine kStore ?_; refine LOps.storeP tT_ok rfl rfl rfl rfl rfl rfl rfl rfl rfl ?_) | (refine LOps.ev tT_ok rfl ?_) | (refine kAlloc ?_; refine LOps.alloc tT_ok rfl rfl rfl rfl ?_) | (refine kLoad ?_; first | (refine LOps.ans (AnsL.loadP tT_ok rfl rfl rfl rfl) ?_)) | (refine kBin ?_; first | (refine LOps.ans (AnsL.add rfl rfl ?_) ?_; (focus (constructor <;> omega)))) | (refine kIdx ?_; first | (refine LOps.ans (AnsL.idx tT_ok rfl rfl rfl rfl rfl hga rfl rfl) ?_) | (refine LOps.ans (AnsL.idx tT_ok rfl rfl rfl rfl rfl hgb rfl rfl) ?_)) | (refine kCall ?_; first | (refine LOps.ans (AnsL.callP rfl rfl rfl (hg) (hE _)) ?_)))
        | (refine kWL ?_; first | (refine WL.seq ?_) | (refine WL.region (by kernel_rfl) ?_) | (refine WL.block ?_) | (refine WL.skip ?_) | (refine kCond ?_; first | (refine WL.condF rfl ?_) | (refine WL.condT' rfl ?_ ?_; (focus (first | (simp only [decide_eq_true_eq, decide_eq_false_iff_not, Bool.not_eq_true', Bool.not_eq_false', Int.ofNat_lt, Int.ofNat_le, Int.ofNat_inj, not_true_eq_false, not_false_eq_true]; omega))))))
        | (refine lthen_n ?_)
        | (refine lblock_n ?_)
      all_goals
        refine lbackD.of (i + 1) ?_ ?_ ?_ ?_
        · first | omega | (refine ⟨?_, ?_⟩; (focus (first | omega | (simp; omega))); (first | omega | (simp_all [hc, hp] <;> fail) | (simp_all [hc, hp]; omega))) | (simp_all [hc, hp] <;> fail) | (simp_all [hc, hp]; omega)
        · first | omega | (simp; omega) | simp_all
        · repeat' first
            | exact SubL.nil
            | (refine SubL.mk rfl ?_ ?_)
            | rfl
            | (simp [hc, hp] <;> fail)
            | (simp [hc, hp]; omega)
        · first | rfl | (simp [hc, hp] <;> fail) | (simp [hc, hp]; omega)
  · rw [eqAll_end hge] at hc
    repeat' first
      | (refine kOps ?_; first | (refine LOps.nil ?_) | (refine LOps.ev tT_ok rfl ?_))
      | (refine kWL ?_; first | (refine WL.seq ?_) | (refine WL.region (by kernel_rfl) ?_) | (refine WL.exit ?_) | (refine WL.ret ?_) | (refine kCond ?_; first | (refine WL.condF' rfl ?_ ?_; (focus (first | (simp only [decide_eq_true_eq, decide_eq_false_iff_not, Bool.not_eq_true', Bool.not_eq_false', Int.ofNat_lt, Int.ofNat_le, Int.ofNat_inj, not_true_eq_false, not_false_eq_true]; omega))))))
      | (refine lthen_n ?_)
      | (refine lthen_e ?_)
      | (refine lblock_e ?_)
      | (refine lbackD_e ?_)
      | (refine LPost.r1 (r := .tmp 6) (.inl rfl) (Res1.tmp rfl) ?_)
      | (refine PureR.mk ?_)
    rw [hc]; rfl
theorem equalFuncPL_v (a b : List PL) (s : S) (p : PL → PL → Bool) (g : FuncId) (caps : List V) (hg : CallOk Try.prog g) (hcd : V.underL s.next caps = true) (hp1 : ∀ x, x ∈ a → ∀ y, y ∈ b → ∀ ys, VCalls Try.prog g (PL.v x :: PL.v y :: caps) (s.ext ys) (fun v s' => v = .bool (p x y) ∧ s' = s.ext ys)) : VCalls Try.prog 42 [.sl 0 (a.map PE.planV), .sl 0 (b.map PE.planV), .fn g caps] s (fun v s' => v = .bool (same p a b) ∧ s' = s) := by
  refine VCalls.wf fun hwf => ?_
  obtain ⟨h1, h2⟩ := wf_len2 hwf
  rw [List.length_map] at h1 h2
  refine LCalls.pure Try.func42 rfl (by kernel_rfl) (by simp) ?_
  by_cases hnn : ¬ (a.length : Int) = b.length
  · skip
    repeat' first
      | (refine kOps ?_; first | (refine LOps.nil ?_) | (refine LOps.ev tT_ok rfl ?_) | (refine kLen ?_; first | (refine LOps.ans (AnsL.lenM tT_ok rfl rfl rfl) ?_)))
      | (refine kWL ?_; first | (refine WL.seq ?_) | (refine WL.region (by kernel_rfl) ?_) | (refine WL.ret ?_) | (refine kCond ?_; first | (refine WL.condT' rfl ?_ ?_; (focus (first | (simp only [decide_eq_true_eq, decide_eq_false_iff_not, Bool.not_eq_true', Bool.not_eq_false', Int.ofNat_lt, Int.ofNat_le, Int.ofNat_inj, not_true_eq_false, not_false_eq_true]; omega))))))
      | (refine lthen_n ?_)
      | (refine lthen_r ?_)
      | (refine LPost.r1 (r := .tmp 6) (.inl rfl) (Res1.tmp rfl) ?_)
      | (refine PureR.mk ?_)
    rw [same_ne hnn]; rfl
  have hne : (a.length : Int) = b.length := by omega
  repeat' first
    | (refine kOps ?_; first | (refine LOps.nil ?_) | (refine LOps.ev tT_ok rfl ?_) | (refine kLen ?_; first | (refine LOps.ans (AnsL.lenM tT_ok rfl rfl rfl) ?_)))
    | (refine kWL ?_; first | (refine WL.seq ?_) | (refine WL.region (by kernel_rfl) ?_) | (refine WL.block ?_) | (refine WL.skip ?_) | (refine kCond ?_; first | (refine WL.condF' rfl ?_ ?_; (focus (first | (simp only [decide_eq_true_eq, decide_eq_false_iff_not, Bool.not_eq_true', Bool.not_eq_false', Int.ofNat_lt, Int.ofNat_le, Int.ofNat_inj, not_true_eq_false, not_false_eq_true]; omega))))))
    | (refine lthen_n ?_)
  refine WL.loopD (fun i : Nat => a.length - i) (fun i => [(1, .sl 0 (b.map PE.planV)), (2, .fn g caps), (15, .sl 0 (a.map PE.planV)), (16, .int .i64 a.length), (17, .int .i64 (i : Int))]) (fun i => [])
    (fun i => i ≤ a.length ∧ same p a b = eqAll p (a.drop i) (b.drop i)) 0 0 ⟨by omega, same_eq hne⟩ (fun _ => rfl) ⟨rfl, rfl, rfl, rfl, rfl, trivial⟩ rfl (fun i hi => ?_) (fun i hi => ?_)
  · refine ⟨?_, rfl⟩
    simp only [UnderK, List.all_cons, List.all_nil, Bool.and_true, Bool.and_eq_true]
    refine ⟨under_dat (plain_dat _ (plain_PlanS _)), hcd, under_dat (plain_dat _ (plain_PlanS _)), rfl, rfl⟩
  obtain ⟨hi, hc⟩ := hi
  rcases Nat.lt_or_ge i a.length with hlt | hge
  · have hlt2 : i < b.length := by omega
    have hga : (a.map PE.planV)[i]? = some (PL.v a[i]) := by rw [List.getElem?_map, List.getElem?_eq_getElem hlt]; simp only [Option.map_some, PE.planV_eq]
    have hgb : (b.map PE.planV)[i]? = some (PL.v b[i]) := by rw [List.getElem?_map, List.getElem?_eq_getElem hlt2]; simp only [Option.map_some, PE.planV_eq]
    rw [eqAll_drop hlt hlt2] at hc
    have hE := hp1 a[i] (List.getElem_mem hlt) b[i] (List.getElem_mem hlt2)
    cases hp : p a[i] b[i]
    all_goals rw [hp] at hE
    · skip
      repeat' first
        | (refine kOps ?_; first | (refine LOps.nil ?_) | (refine kStore ?_; refine LOps.storeP tT_ok rfl rfl rfl rfl rfl rfl rfl rfl rfl ?_) | (refine LOps.ev tT_ok rfl ?_) | (refine kAlloc ?_; refine LOps.alloc tT_ok rfl rfl rfl rfl ?_) | (refine kLoad ?_; first | (refine LOps.ans (AnsL.loadP tT_ok rfl rfl rfl rfl) ?_)) | (refine kIdx ?_; first | (refine LOps.ans (AnsL.idx tT_ok rfl rfl rfl rfl rfl hga rfl rfl) ?_) | (refine LOps.ans (AnsL.idx tT_ok rfl rfl rfl rfl rfl hgb rfl rfl) ?_)) | (refine kCall ?_; first | (refine LOps.ans (AnsL.callP rfl rfl rfl (hg) (hE _)) ?_)))
        | (refine kWL ?_; first | (refine WL.seq ?_) | (refine WL.region (by kernel_rfl) ?_) | (refine WL.block ?_) | (refine WL.skip ?_) | (refine WL.ret ?_) | (refine kCond ?_; first | (refine WL.condT rfl ?_) | (refine WL.condT' rfl ?_ ?_; (focus (first | (simp only [decide_eq_true_eq, decide_eq_false_iff_not, Bool.not_eq_true', Bool.not_eq_false', Int.ofNat_lt, Int.ofNat_le, Int.ofNat_inj, not_true_eq_false, not_false_eq_true]; omega))))))
        | (refine lthen_n ?_)
        | (refine lthen_r ?_)
        | (refine lblock_r ?_)
        | (refine lbackD_r ?_)
        | (refine LPost.r1 (r := .tmp 6) (.inl rfl) (Res1.tmp rfl) ?_)
        | (refine PureR.mk ?_)
      all_goals simp_all
    · skip
      repeat' first
        | (refine kOps ?_; first | (refine LOps.nil ?_) | (refine kStore ?_; refine LOps.storeP tT_ok rfl rfl rfl rfl rfl rfl rfl rfl rfl ?_) | (refine LOps.ev tT_ok rfl ?_) | (refine kAlloc ?_; refine LOps.alloc tT_ok rfl rfl rfl rfl ?_) | (refine kLoad ?_; first | (refine LOps.ans (AnsL.loadP tT_ok rfl rfl rfl rfl) ?_)) | (refine kBin ?_; first | (refine LOps.ans (AnsL.add rfl rfl ?_) ?_; (focus (constructor <;> omega)))) | (refine kIdx ?_; first | (refine LOps.ans (AnsL.idx tT_ok rfl rfl rfl rfl rfl hga rfl rfl) ?_) | (refine LOps.ans (AnsL.idx tT_ok rfl rfl rfl rfl rfl hgb rfl rfl) ?_)) | (refine kCall ?_; first | (refine LOps.ans (AnsL.callP rfl rfl rfl (hg) (hE _)) ?_)))
        | (refine kWL ?_; first | (refine WL.seq ?_) | (refine WL.region (by kernel_rfl) ?_) | (refine WL.block ?_) | (refine WL.skip ?_) | (refine kCond ?_; first | (refine WL.condF rfl ?_) | (refine WL.condT' rfl ?_ ?_; (focus (first | (simp only [decide_eq_true_eq, decide_eq_false_iff_not, Bool.not_eq_true', Bool.not_eq_false', Int.ofNat_lt, Int.ofNat_le, Int.ofNat_inj, not_true_eq_false, not_false_eq_true]; omega))))))
        | (refine lthen_n ?_)
        | (refine lblock_n ?_)
      all_goals
        refine lbackD.of (i + 1) ?_ ?_ ?_ ?_
        · first | omega | (refine ⟨?_, ?_⟩; (focus (first | omega | (simp; omega))); (first | omega | (simp_all [hc, hp] <;> fail) | (simp_all [hc, hp]; omega))) | (simp_all [hc, hp] <;> fail) | (simp_all [hc, hp]; omega)
        · first | omega | (simp; omega) | simp_all
        · repeat' first
            | exact SubL.nil
            | (refine SubL.mk rfl ?_ ?_)
            | rfl
            | (simp [hc, hp] <;> fail)
            | (simp [hc, hp]; omega)
        · first | rfl | (simp [hc, hp] <;> fail) | (simp [hc, hp]; omega)
  · rw [eqAll_end hge] at hc
    repeat' first
      | (refine kOps ?_; first | (refine LOps.nil ?_) | (refine LOps.ev tT_ok rfl ?_))
      | (refine kWL ?_; first | (refine WL.seq ?_) | (refine WL.region (by kernel_rfl) ?_) | (refine WL.exit ?_) | (refine WL.ret ?_) | (refine kCond ?_; first | (refine WL.condF' rfl ?_ ?_; (focus (first | (simp only [decide_eq_true_eq, decide_eq_false_iff_not, Bool.not_eq_true', Bool.not_eq_false', Int.ofNat_lt, Int.ofNat_le, Int.ofNat_inj, not_true_eq_false, not_false_eq_true]; omega))))))
      | (refine lthen_n ?_)
      | (refine lthen_e ?_)
      | (refine lblock_e ?_)
      | (refine lbackD_e ?_)
      | (refine LPost.r1 (r := .tmp 6) (.inl rfl) (Res1.tmp rfl) ?_)
      | (refine PureR.mk ?_)
    rw [hc]; rfl

def SameC (P : Program) (g : FuncId) (x : PE) : Prop := ∀ (y : PE) (s : S), VCalls P g [x.v, y.v] s (fun v s' => v = .bool (x.eqB y) ∧ s' = s)
theorem samePExprs_v (a b : List PE) (ih : ∀ x ∈ a, SameC Try.prog 17 x) (s : S) : VCalls Try.prog 41 [.sl 0 (a.map PE.toV), .sl 0 (b.map PE.toV)] s (fun v s' => v = .bool (same PE.eqB a b) ∧ s' = s) := by
  refine LCalls.pure Try.func41 rfl (by kernel_rfl) (by simp) ?_
  repeat' first
    | (refine kOps ?_; first | (refine LOps.nil ?_) | (refine LOps.ev tT_ok rfl ?_) | (refine kCallN 85 ?_; first | (refine LOps.ans (AnsL.callP rfl rfl rfl (ok85) (equalFuncPE_v _ _ _ PE.eqB _ [] ok17 rfl ?_)) ?_; (focus (exact fun x hx y _ ys => ih x hx y _)))))
    | (refine kWL ?_; first | (refine WL.seq ?_) | (refine WL.region (by kernel_rfl) ?_) | (refine WL.ret ?_))
    | (refine lthen_n ?_)
    | (refine LPost.r1 (r := .tmp 4) (.inl rfl) (Res1.tmp rfl) ?_)
    | (refine PureR.mk ?_)
  rfl
theorem samePSort_v (x y : PE × Bool) (ih : SameC Try.prog 17 x.1) (s : S) : VCalls Try.prog 49 [PE.sv x, PE.sv y] s (fun v s' => v = .bool (PE.eqS x y) ∧ s' = s) := by
  rw [PE.eqS_eq]
  refine LCalls.pure Try.func49 rfl (by kernel_rfl) (by simp) ?_
  repeat' first
    | (refine kOps ?_; first | (refine LOps.nil ?_) | (refine kG ?_; first | (refine LOps.gT rfl rfl rfl ?_) | (refine LOps.gF rfl rfl rfl ?_) | (refine LOps.gC rfl rfl rfl (fun h => ?_) (fun h => ?_))) | (refine LOps.ev tT_ok rfl ?_) | (refine kBox ?_; refine LOps.box rfl rfl rfl rfl ?_) | (refine kLoad ?_; first | (refine LOps.ans (AnsL.loadP tT_ok rfl rfl rfl rfl) ?_)) | (refine kCallN 17 ?_; first | (refine LOps.ans (AnsL.callP rfl rfl rfl (ok17) (ih _ _)) ?_)))
    | (refine kWL ?_; first | (refine WL.seq ?_) | (refine WL.region (by kernel_rfl) ?_) | (refine WL.ret ?_))
    | (refine lthen_n ?_)
    | (refine LPost.r1 (r := .tmp 4) (.inl rfl) (Res1.tmp rfl) ?_)
    | (refine PureR.mk ?_)
  all_goals simp_all
theorem samePlan_r (p q : PL) (ih : ∀ k ∈ p.parts, SameC Try.prog 17 k) (s : S) : VCalls Try.prog 21 [p.v, q.v] s (fun v s' => v = .bool (PE.eqP p q) ∧ s' = s) := by
  rw [PE.eqP_eq]
  refine VCalls.wf fun hwf => ?_
  simp only [PL.v, List.all_cons, List.all_nil, V.wf, V.wfL, Bool.and_true, Bool.and_eq_true, decide_eq_true_eq, List.length_map, maxLen] at hwf
  refine LCalls.pure Try.func21 rfl (by kernel_rfl) (by simp) ?_
  repeat' first
    | (refine kOps ?_; first | (refine LOps.nil ?_) | (refine kG ?_; first | (refine LOps.gT rfl rfl rfl ?_) | (refine LOps.gF rfl rfl rfl ?_) | (refine LOps.gC rfl rfl rfl (fun h => ?_) (fun h => ?_))) | (refine LOps.ev tT_ok rfl ?_) | (refine kBox ?_; refine LOps.box rfl rfl rfl rfl ?_) | (refine kLoad ?_; first | (refine LOps.ans (AnsL.loadP tT_ok rfl rfl rfl rfl) ?_)) | (refine kCallN 41 ?_; first | (refine LOps.ans (AnsL.callP rfl rfl rfl (ok41) (samePExprs_v p.wher q.wher ?_ _)) ?_; (focus (exact fun k hk => ih k (PlanOf.mem_wher hk)))) | (refine LOps.ans (AnsL.callP rfl rfl rfl (ok41) (samePExprs_v p.items q.items ?_ _)) ?_; (focus (exact fun k hk => ih k (PlanOf.mem_items hk))))) | (refine kCallN 50 ?_; first | (refine LOps.ans (AnsL.callP rfl rfl rfl (ok50) (slicesEqualInt_v _ _ ?_ ?_ _)) ?_; (focus (omega)); (focus (omega)))) | (refine kCallN 51 ?_; first | (refine LOps.ans (AnsL.callP rfl rfl rfl (ok51) (equalFuncPEL_v _ _ _ (same PE.eqB) _ [] ok41 rfl ?_)) ?_; (focus (exact fun l hl m _ ys => samePExprs_v l m (fun k hk => ih k (PlanOf.mem_on hl hk)) _)))) | (refine kCallN 52 ?_; first | (refine LOps.ans (AnsL.callP rfl rfl rfl (ok52) (equalFuncPS_v _ _ _ PE.eqS _ [] ok49 rfl ?_)) ?_; (focus (exact fun x hx y _ ys => samePSort_v x y (ih x.1 (PlanOf.mem_order hx)) _)))) | (refine kCallN 53 ?_; first | (refine LOps.ans (AnsL.callP rfl rfl rfl (ok53) (slicesEqualStr_v _ _ ?_ ?_ _)) ?_; (focus (omega)); (focus (omega)))))
    | (refine kWL ?_; first | (refine WL.seq ?_) | (refine WL.region (by kernel_rfl) ?_) | (refine WL.ret ?_))
    | (refine lthen_n ?_)
    | (refine LPost.r1 (r := .tmp 4) (.inl rfl) (Res1.tmp rfl) ?_)
    | (refine PureR.mk ?_)
  all_goals simp_all
theorem implSamePExpr_c (x : PE) : SameC Try.prog 17 x := by
  induction x using PE.ind with
  | h x ih1 ih2 =>
    intro y s
    rw [PE.eqB_eq]
    refine LCalls.pure Try.func17 rfl (by kernel_rfl) (by simp) ?_
    repeat' first
      | (refine kOps ?_; first | (refine LOps.nil ?_) | (refine kG ?_; first | (refine LOps.gT rfl rfl rfl ?_) | (refine LOps.gF rfl rfl rfl ?_) | (refine LOps.gC rfl rfl rfl (fun h => ?_) (fun h => ?_))) | (refine LOps.ev tT_ok rfl ?_) | (refine kBox ?_; refine LOps.box rfl rfl rfl rfl ?_) | (refine kLoad ?_; first | (refine LOps.ans (AnsL.loadP tT_ok rfl rfl rfl rfl) ?_)) | (refine kCallN 41 ?_; first | (refine LOps.ans (AnsL.callP rfl rfl rfl (ok41) (samePExprs_v x.kids y.kids ih1 _)) ?_)) | (refine kCallN 42 ?_; first | (refine LOps.ans (AnsL.callP rfl rfl rfl (ok42) (equalFuncPL_v _ _ _ PE.eqP _ [] ok21 rfl ?_)) ?_; (focus (exact fun p hp q _ ys => samePlan_r p q (ih2 p hp) _)))))
      | (refine kWL ?_; first | (refine WL.seq ?_) | (refine WL.region (by kernel_rfl) ?_) | (refine WL.ret ?_))
      | (refine lthen_n ?_)
      | (refine LPost.r1 (r := .tmp 4) (.inl rfl) (Res1.tmp rfl) ?_)
      | (refine PureR.mk ?_)
    all_goals simp_all [valEq]
theorem implSamePlan_v (p q : PL) (s : S) : VCalls Try.prog 21 [p.v, q.v] s (fun v s' => v = .bool (PE.eqP p q) ∧ s' = s) := samePlan_r p q (fun k _ => implSamePExpr_c k) s

theorem specl19Same_v (a b : List PE) (s : S) (ih : ∀ x ∈ a, SameC Try.prog 11 x) : VCalls Try.prog 33 [.sl 0 (a.map PE.toV), .sl 0 (b.map PE.toV)] s (fun v s' => v = .bool (same PE.eqB a b) ∧ s' = s) := by
  refine VCalls.wf fun hwf => ?_
  obtain ⟨h1, h2⟩ := wf_len2 hwf
  rw [List.length_map] at h1 h2
  refine LCalls.pure Try.func33 rfl (by kernel_rfl) (by simp) ?_
  by_cases hnn : ¬ (a.length : Int) = b.length
  · skip
    repeat' first
      | (refine kOps ?_; first | (refine LOps.nil ?_) | (refine LOps.ev tT_ok rfl ?_) | (refine kLen ?_; first | (refine LOps.ans (AnsL.lenM tT_ok rfl rfl rfl) ?_)))
      | (refine kWL ?_; first | (refine WL.seq ?_) | (refine WL.region (by kernel_rfl) ?_) | (refine WL.ret ?_) | (refine kCond ?_; first | (refine WL.condT' rfl ?_ ?_; (focus (first | (simp only [decide_eq_true_eq, decide_eq_false_iff_not, Bool.not_eq_true', Bool.not_eq_false', Int.ofNat_lt, Int.ofNat_le, Int.ofNat_inj, not_true_eq_false, not_false_eq_true]; omega))))))
      | (refine lthen_n ?_)
      | (refine lthen_r ?_)
      | (refine LPost.r1 (r := .tmp 4) (.inl rfl) (Res1.tmp rfl) ?_)
      | (refine PureR.mk ?_)
    rw [same_ne hnn]; rfl
  have hne : (a.length : Int) = b.length := by omega
  repeat' first
    | (refine kOps ?_; first | (refine LOps.nil ?_) | (refine LOps.ev tT_ok rfl ?_) | (refine kLen ?_; first | (refine LOps.ans (AnsL.lenM tT_ok rfl rfl rfl) ?_)))
    | (refine kWL ?_; first | (refine WL.seq ?_) | (refine WL.region (by kernel_rfl) ?_) | (refine WL.block ?_) | (refine WL.skip ?_) | (refine kCond ?_; first | (refine WL.condF' rfl ?_ ?_; (focus (first | (simp only [decide_eq_true_eq, decide_eq_false_iff_not, Bool.not_eq_true', Bool.not_eq_false', Int.ofNat_lt, Int.ofNat_le, Int.ofNat_inj, not_true_eq_false, not_false_eq_true]; omega))))))
    | (refine lthen_n ?_)
  refine WL.loopD (fun i : Nat => a.length - i) (fun i => [(0, .sl 0 (a.map PE.toV)), (1, .sl 0 (b.map PE.toV)), (5, .int .i64 (i : Int))]) (fun i => [])
    (fun i => i ≤ a.length ∧ same PE.eqB a b = eqAll PE.eqB (a.drop i) (b.drop i)) 0 0 ⟨by omega, same_eq hne⟩ (fun _ => rfl) ⟨rfl, rfl, rfl, trivial⟩ rfl (fun i hi => ?_) (fun i hi => ?_)
  · refine ⟨?_, rfl⟩
    simp only [UnderK, List.all_cons, List.all_nil, Bool.and_true, Bool.and_eq_true]
    refine ⟨under_dat (plain_dat _ (plain_PExprS _)), under_dat (plain_dat _ (plain_PExprS _)), rfl⟩
  obtain ⟨hi, hc⟩ := hi
  rcases Nat.lt_or_ge i a.length with hlt | hge
  · have hlt2 : i < b.length := by omega
    have hga : (a.map PE.toV)[i]? = some (PE.v a[i]) := by rw [List.getElem?_map, List.getElem?_eq_getElem hlt]; simp only [Option.map_some, PE.toV_eq]
    have hgb : (b.map PE.toV)[i]? = some (PE.v b[i]) := by rw [List.getElem?_map, List.getElem?_eq_getElem hlt2]; simp only [Option.map_some, PE.toV_eq]
    rw [eqAll_drop hlt hlt2] at hc
    have hE := ih a[i] (List.getElem_mem hlt) b[i]
    cases hp : PE.eqB a[i] b[i]
    all_goals rw [hp] at hE
    · skip
      repeat' first
        | (refine kOps ?_; first | (refine LOps.nil ?_) | (refine LOps.ev tT_ok rfl ?_) | (refine kLen ?_; first | (refine LOps.ans (AnsL.lenM tT_ok rfl rfl rfl) ?_)))
        | (refine kWL ?_; first | (refine WL.seq ?_) | (refine WL.region (by kernel_rfl) ?_) | (refine WL.drawn (id := 6) [0, 1, 2, 3, 4, 5, 6, 7, 8, 9] [] [[], [], [0, 1], [0, 1, 2], [], [], [4, 5], [4, 5, 6], [0, 1, 2, 3, 4, 5, 6, 7], [0, 1, 2, 3, 4, 5, 6, 7, 8]] (by kernel_rfl) (by kernel_rfl) ?_) | (refine WL.block ?_) | (refine WL.skip ?_) | (refine WL.ret ?_) | (refine kCond ?_; first | (refine WL.condT rfl ?_) | (refine WL.condT' rfl ?_ ?_; (focus (first | (simp only [decide_eq_true_eq, decide_eq_false_iff_not, Bool.not_eq_true', Bool.not_eq_false', Int.ofNat_lt, Int.ofNat_le, Int.ofNat_inj, not_true_eq_false, not_false_eq_true]; omega))))))
        | (refine kDr ?_; first | (refine LDr.nil ?_) | (refine LDr.fl rfl rfl (.ev tT_ok rfl) ?_) | (refine kDIdx rfl ?_; first | (refine LDr.fl rfl rfl (AnsL.idx tT_ok rfl rfl rfl rfl rfl hga rfl rfl) ?_) | (refine LDr.fl rfl rfl (AnsL.idx tT_ok rfl rfl rfl rfl rfl hgb rfl rfl) ?_)) | (refine kDCallN 11 rfl ?_; first | (refine LDr.fl rfl rfl (AnsL.callP rfl rfl rfl (ok11) (hE _)) ?_)))
        | (refine lthen_n ?_)
        | (refine lthen_r ?_)
        | (refine lblock_r ?_)
        | (refine lbackD_r ?_)
        | (refine LPost.r1 (r := .tmp 4) (.inl rfl) (Res1.tmp rfl) ?_)
        | (refine PureR.mk ?_)
      all_goals simp_all
    · skip
      repeat' first
        | (refine kOps ?_; first | (refine LOps.nil ?_) | (refine LOps.ev tT_ok rfl ?_) | (refine kLen ?_; first | (refine LOps.ans (AnsL.lenM tT_ok rfl rfl rfl) ?_)) | (refine kBin ?_; first | (refine LOps.ans (AnsL.add rfl rfl ?_) ?_; (focus (constructor <;> omega)))))
        | (refine kWL ?_; first | (refine WL.seq ?_) | (refine WL.region (by kernel_rfl) ?_) | (refine WL.drawn (id := 6) [0, 1, 2, 3, 4, 5, 6, 7, 8, 9] [] [[], [], [0, 1], [0, 1, 2], [], [], [4, 5], [4, 5, 6], [0, 1, 2, 3, 4, 5, 6, 7], [0, 1, 2, 3, 4, 5, 6, 7, 8]] (by kernel_rfl) (by kernel_rfl) ?_) | (refine WL.block ?_) | (refine WL.skip ?_) | (refine kCond ?_; first | (refine WL.condF rfl ?_) | (refine WL.condT' rfl ?_ ?_; (focus (first | (simp only [decide_eq_true_eq, decide_eq_false_iff_not, Bool.not_eq_true', Bool.not_eq_false', Int.ofNat_lt, Int.ofNat_le, Int.ofNat_inj, not_true_eq_false, not_false_eq_true]; omega))))))
        | (refine kDr ?_; first | (refine LDr.nil ?_) | (refine LDr.fl rfl rfl (.ev tT_ok rfl) ?_) | (refine kDIdx rfl ?_; first | (refine LDr.fl rfl rfl (AnsL.idx tT_ok rfl rfl rfl rfl rfl hga rfl rfl) ?_) | (refine LDr.fl rfl rfl (AnsL.idx tT_ok rfl rfl rfl rfl rfl hgb rfl rfl) ?_)) | (refine kDCallN 11 rfl ?_; first | (refine LDr.fl rfl rfl (AnsL.callP rfl rfl rfl (ok11) (hE _)) ?_)))
        | (refine lthen_n ?_)
        | (refine lblock_n ?_)
      all_goals
        refine lbackD.of (i + 1) ?_ ?_ ?_ ?_
        · first | omega | (refine ⟨?_, ?_⟩; (focus (first | omega | (simp; omega))); (first | omega | (simp_all [hc, hp] <;> fail) | (simp_all [hc, hp]; omega))) | (simp_all [hc, hp] <;> fail) | (simp_all [hc, hp]; omega)
        · first | omega | (simp; omega) | simp_all
        · repeat' first
            | exact SubL.nil
            | (refine SubL.mk rfl ?_ ?_)
            | rfl
            | (simp [hc, hp] <;> fail)
            | (simp [hc, hp]; omega)
        · first | rfl | (simp [hc, hp] <;> fail) | (simp [hc, hp]; omega)
  · rw [eqAll_end hge] at hc
    repeat' first
      | (refine kOps ?_; first | (refine LOps.nil ?_) | (refine LOps.ev tT_ok rfl ?_) | (refine kLen ?_; first | (refine LOps.ans (AnsL.lenM tT_ok rfl rfl rfl) ?_)))
      | (refine kWL ?_; first | (refine WL.seq ?_) | (refine WL.region (by kernel_rfl) ?_) | (refine WL.exit ?_) | (refine WL.ret ?_) | (refine kCond ?_; first | (refine WL.condF' rfl ?_ ?_; (focus (first | (simp only [decide_eq_true_eq, decide_eq_false_iff_not, Bool.not_eq_true', Bool.not_eq_false', Int.ofNat_lt, Int.ofNat_le, Int.ofNat_inj, not_true_eq_false, not_false_eq_true]; omega))))))
      | (refine lthen_n ?_)
      | (refine lthen_e ?_)
      | (refine lblock_e ?_)
      | (refine lbackD_e ?_)
      | (refine LPost.r1 (r := .tmp 4) (.inl rfl) (Res1.tmp rfl) ?_)
      | (refine PureR.mk ?_)
    rw [hc]; rfl
@[simp] theorem PE.under_S (n : Nat) (l : List PE) : V.underL n (l.map PE.toV) = true := underL_dat (plainL_dat _ (plainL_of' (plain_PExprS l)))
@[simp] theorem PE.under_SS (n : Nat) (l : List (List PE)) : V.underL n (l.map PE.vS) = true := underL_dat (plainL_dat _ (plainL_of' (plain_PExprSS l)))
@[simp] theorem PE.under_O (n : Nat) (l : List (PE × Bool)) : V.underL n (l.map PE.sv) = true := underL_dat (plainL_dat _ (plainL_of' (plain_PSortS l)))
@[simp] theorem PE.under_P (n : Nat) (l : List PL) : V.underL n (l.map PE.planV) = true := underL_dat (plainL_dat _ (plainL_of' (plain_PlanS l)))
set_option maxHeartbeats 1000000 in
theorem specSamePlan_r (p q : PL) (ih : ∀ k ∈ p.parts, SameC Try.prog 11 k) (s : S) : VCalls Try.prog 34 [p.v, q.v] s (fun v s' => v = .bool (PE.eqP p q) ∧ s' = s) := by
  rw [PE.eqP_eq]
  refine VCalls.wf fun hwf => ?_
  simp only [PL.v, List.all_cons, List.all_nil, V.wf, V.wfL, Bool.and_true, Bool.and_eq_true, decide_eq_true_eq, List.length_map, maxLen] at hwf
  refine LCalls.pure Try.func34 rfl (by kernel_rfl) (by simp) ?_
  repeat' first
    | (refine kOps ?_; first | (refine LOps.nil ?_) | (refine kG ?_; first | (refine LOps.gT rfl rfl rfl ?_) | (refine LOps.gF rfl rfl rfl ?_) | (refine LOps.gC rfl rfl rfl (fun h => ?_) (fun h => ?_))) | (refine LOps.ev tT_ok rfl ?_) | (refine kBox ?_; refine LOps.box rfl rfl rfl rfl ?_) | (refine kLoad ?_; first | (refine LOps.ans (AnsL.loadP tT_ok rfl rfl rfl rfl) ?_)) | (refine kLen ?_; first | (refine LOps.ans (AnsL.lenM tT_ok rfl rfl rfl) ?_)) | (refine kCallN 33 ?_; first | (refine LOps.ans (AnsL.callP rfl rfl rfl (ok33) (specl19Same_v p.wher q.wher _ ?_)) ?_; (focus (exact fun k hk => ih k (PlanOf.mem_wher hk)))) | (refine LOps.ans (AnsL.callP rfl rfl rfl (ok33) (specl19Same_v p.items q.items _ ?_)) ?_; (focus (exact fun k hk => ih k (PlanOf.mem_items hk))))) | (refine kCallN 81 ?_; first | (refine LOps.ans (AnsL.callP rfl rfl rfl (ok81) (specl19Ints_v _ _ ?_ ?_ _)) ?_; (focus (omega)); (focus (omega)))) | (refine kCallN 82 ?_; first | (refine LOps.ans (AnsL.callP rfl rfl rfl (ok82) (specl8SameNames_v _ _ ?_ ?_ _)) ?_; (focus (omega)); (focus (omega)))))
    | (refine kWL ?_; first | (refine WL.seq ?_) | (refine WL.region (by kernel_rfl) ?_) | (refine WL.block ?_) | (refine WL.skip ?_) | (refine WL.ret ?_) | (refine kCond ?_; first | (refine WL.condT rfl ?_) | (refine WL.cond rfl (fun h => ?_) (fun h => ?_))))
    | (refine lthen_n ?_)
    | (refine lthen_r ?_)
    | (refine LPost.r1 (r := .tmp 4) (.inl rfl) (Res1.tmp rfl) ?_)
    | (refine PureR.mk ?_)
  any_goals (show V.bool _ = _; first | (simp_all; done) | (simp_all [same_ne]; done) | (simp_all [same]; done))
  have hon : (p.on.length : Int) = q.on.length := by simp_all
  have hor : (p.order.length : Int) = q.order.length := by simp_all
  refine WL.loopD (fun i : Nat => p.on.length - i) (fun i => [(2, .ptr (s.next + 0) 0), (3, .ptr (s.next + 1) 0), (5, .int .i64 (i : Int))]) (fun i => [.var p.v.cells, .var q.v.cells])
    (fun i => i ≤ p.on.length ∧ same (same PE.eqB) p.on q.on = eqAll (same PE.eqB) (p.on.drop i) (q.on.drop i)) 2 0 ⟨by omega, same_eq hon⟩ (fun _ => rfl) ⟨rfl, rfl, rfl, trivial⟩ rfl (fun i hi => ?_) (fun i hi => ?_)
  · simp [UnderK, UnderX, Own.under, V.under, V.underL, PL.v, V.cells]
  obtain ⟨hi, hc⟩ := hi
  rcases Nat.lt_or_ge i p.on.length with hlt | hge
  · have hlt2 : i < q.on.length := by omega
    have hga : (p.on.map PE.vS)[i]? = some (PE.vS p.on[i]) := by rw [List.getElem?_map, List.getElem?_eq_getElem hlt]; rfl
    have hgb : (q.on.map PE.vS)[i]? = some (PE.vS q.on[i]) := by rw [List.getElem?_map, List.getElem?_eq_getElem hlt2]; rfl
    rw [eqAll_drop hlt hlt2] at hc
    have hE := fun t => specl19Same_v p.on[i] q.on[i] t fun k hk => ih k (PlanOf.mem_on (List.getElem_mem hlt) hk)
    generalize p.on[i] = a at hga hE hc
    generalize q.on[i] = b at hgb hE hc
    cases hp : same PE.eqB a b
    all_goals rw [hp] at hE hc
    · skip
      repeat' first
        | (refine kOps ?_; first | (refine LOps.nil ?_) | (refine LOps.ev tT_ok rfl ?_) | (refine kLoad ?_; first | (refine LOps.ans (AnsL.loadP tT_ok rfl rfl rfl rfl) ?_)) | (refine kLen ?_; first | (refine LOps.ans (AnsL.lenM tT_ok rfl rfl rfl) ?_)))
        | (refine kWL ?_; first | (refine WL.seq ?_) | (refine WL.region (by kernel_rfl) ?_) | (refine WL.drawn (id := 6) [0, 1, 2, 3, 4, 5, 6, 7, 8, 9, 10, 11] [] [[], [0], [], [0, 1, 2], [0, 1, 2, 3], [], [5], [], [5, 6, 7], [5, 6, 7, 8], [0, 1, 2, 3, 4, 5, 6, 7, 8, 9], [0, 1, 2, 3, 4, 5, 6, 7, 8, 9, 10]] (by kernel_rfl) (by kernel_rfl) ?_) | (refine WL.block ?_) | (refine WL.skip ?_) | (refine WL.ret ?_) | (refine kCond ?_; first | (refine WL.condT rfl ?_) | (refine WL.condT' rfl ?_ ?_; (focus (first | (simp only [decide_eq_true_eq, decide_eq_false_iff_not, Bool.not_eq_true', Bool.not_eq_false', Int.ofNat_lt, Int.ofNat_le, Int.ofNat_inj, not_true_eq_false, not_false_eq_true]; omega))))))
        | (refine kDr ?_; first | (refine LDr.nil ?_) | (refine LDr.fl rfl rfl (.ev tT_ok rfl) ?_) | (refine kDLoad rfl ?_; first | (refine LDr.fl rfl rfl (AnsL.loadP tT_ok rfl rfl rfl rfl) ?_)) | (refine kDIdx rfl ?_; first | (refine LDr.fl rfl rfl (AnsL.idx tT_ok rfl rfl rfl rfl rfl hga rfl rfl) ?_) | (refine LDr.fl rfl rfl (AnsL.idx tT_ok rfl rfl rfl rfl rfl hgb rfl rfl) ?_)) | (refine kDCallN 33 rfl ?_; first | (refine LDr.fl rfl rfl (AnsL.callP rfl rfl rfl (ok33) (hE _)) ?_)))
        | (refine lthen_n ?_)
        | (refine lthen_r ?_)
        | (refine lblock_r ?_)
        | (refine lbackD_r ?_)
        | (refine LPost.r1 (r := .tmp 4) (.inl rfl) (Res1.tmp rfl) ?_)
        | (refine PureR.mk ?_)
      all_goals simp_all
    · skip
      repeat' first
        | (refine kOps ?_; first | (refine LOps.nil ?_) | (refine LOps.ev tT_ok rfl ?_) | (refine kLoad ?_; first | (refine LOps.ans (AnsL.loadP tT_ok rfl rfl rfl rfl) ?_)) | (refine kLen ?_; first | (refine LOps.ans (AnsL.lenM tT_ok rfl rfl rfl) ?_)) | (refine kBin ?_; first | (refine LOps.ans (AnsL.add rfl rfl ?_) ?_; (focus (constructor <;> omega)))))
        | (refine kWL ?_; first | (refine WL.seq ?_) | (refine WL.region (by kernel_rfl) ?_) | (refine WL.drawn (id := 6) [0, 1, 2, 3, 4, 5, 6, 7, 8, 9, 10, 11] [] [[], [0], [], [0, 1, 2], [0, 1, 2, 3], [], [5], [], [5, 6, 7], [5, 6, 7, 8], [0, 1, 2, 3, 4, 5, 6, 7, 8, 9], [0, 1, 2, 3, 4, 5, 6, 7, 8, 9, 10]] (by kernel_rfl) (by kernel_rfl) ?_) | (refine WL.block ?_) | (refine WL.skip ?_) | (refine kCond ?_; first | (refine WL.condF rfl ?_) | (refine WL.condT' rfl ?_ ?_; (focus (first | (simp only [decide_eq_true_eq, decide_eq_false_iff_not, Bool.not_eq_true', Bool.not_eq_false', Int.ofNat_lt, Int.ofNat_le, Int.ofNat_inj, not_true_eq_false, not_false_eq_true]; omega))))))
        | (refine kDr ?_; first | (refine LDr.nil ?_) | (refine LDr.fl rfl rfl (.ev tT_ok rfl) ?_) | (refine kDLoad rfl ?_; first | (refine LDr.fl rfl rfl (AnsL.loadP tT_ok rfl rfl rfl rfl) ?_)) | (refine kDIdx rfl ?_; first | (refine LDr.fl rfl rfl (AnsL.idx tT_ok rfl rfl rfl rfl rfl hga rfl rfl) ?_) | (refine LDr.fl rfl rfl (AnsL.idx tT_ok rfl rfl rfl rfl rfl hgb rfl rfl) ?_)) | (refine kDCallN 33 rfl ?_; first | (refine LDr.fl rfl rfl (AnsL.callP rfl rfl rfl (ok33) (hE _)) ?_)))
        | (refine lthen_n ?_)
        | (refine lblock_n ?_)
      all_goals
        refine lbackD.of (i + 1) ?_ ?_ ?_ ?_
        · first | omega | (refine ⟨?_, ?_⟩; (focus (first | omega | (simp; omega))); (first | omega | (simp_all [hc, hp] <;> fail) | (simp_all [hc, hp]; omega))) | (simp_all [hc, hp] <;> fail) | (simp_all [hc, hp]; omega)
        · first | omega | (simp; omega) | simp_all
        · repeat' first
            | exact SubL.nil
            | (refine SubL.mk rfl ?_ ?_)
            | rfl
            | (simp [hc, hp] <;> fail)
            | (simp [hc, hp]; omega)
        · first | rfl | (simp [hc, hp] <;> fail) | (simp [hc, hp]; omega)
  · rw [eqAll_end hge] at hc
    repeat' first
      | (refine kOps ?_; first | (refine LOps.nil ?_) | (refine LOps.ev tT_ok rfl ?_) | (refine kLoad ?_; first | (refine LOps.ans (AnsL.loadP tT_ok rfl rfl rfl rfl) ?_)) | (refine kLen ?_; first | (refine LOps.ans (AnsL.lenM tT_ok rfl rfl rfl) ?_)))
      | (refine kWL ?_; first | (refine WL.seq ?_) | (refine WL.region (by kernel_rfl) ?_) | (refine WL.block ?_) | (refine WL.exit ?_) | (refine kCond ?_; first | (refine WL.condF' rfl ?_ ?_; (focus (first | (simp only [decide_eq_true_eq, decide_eq_false_iff_not, Bool.not_eq_true', Bool.not_eq_false', Int.ofNat_lt, Int.ofNat_le, Int.ofNat_inj, not_true_eq_false, not_false_eq_true]; omega))))))
      | (refine lthen_n ?_)
      | (refine lthen_e ?_)
      | (refine lblock_e ?_)
      | (refine lbackD_e ?_)
    refine WL.loopD (fun i : Nat => p.order.length - i) (fun i => [(2, .ptr (s.next + 0) 0), (3, .ptr (s.next + 1) 0), (6, .int .i64 (i : Int))]) (fun i => [.var p.v.cells, .var q.v.cells])
      (fun i => i ≤ p.order.length ∧ same PE.eqS p.order q.order = eqAll PE.eqS (p.order.drop i) (q.order.drop i)) 2 0 ⟨by omega, same_eq hor⟩ (fun _ => rfl) ⟨rfl, rfl, rfl, trivial⟩ rfl (fun i hi => ?_) (fun i hi => ?_)
    · simp [UnderK, UnderX, Own.under, V.under, V.underL, PL.v, V.cells]
    obtain ⟨hi, hc2⟩ := hi
    rcases Nat.lt_or_ge i p.order.length with hlt | hge2
    · have hlt2 : i < q.order.length := by omega
      have hga : (p.order.map PE.sv)[i]? = some (PE.sv p.order[i]) := by rw [List.getElem?_map, List.getElem?_eq_getElem hlt]; rfl
      have hgb : (q.order.map PE.sv)[i]? = some (PE.sv q.order[i]) := by rw [List.getElem?_map, List.getElem?_eq_getElem hlt2]; rfl
      rw [eqAll_drop hlt hlt2, PE.eqS_eq] at hc2
      have hE := ih p.order[i].1 (PlanOf.mem_order (List.getElem_mem hlt)) q.order[i].1
      generalize p.order[i] = a at hga hE hc2
      generalize q.order[i] = b at hgb hE hc2
      obtain ⟨a, da⟩ := a
      obtain ⟨b, db⟩ := b
      simp only at hE hc2
      cases hp : PE.eqB a b
      all_goals
        rw [hp] at hE hc2
        cases da
        all_goals cases db
      repeat' first
        | (refine kOps ?_; first | (refine LOps.nil ?_) | (refine LOps.ev tT_ok rfl ?_) | (refine kLoad ?_; first | (refine LOps.ans (AnsL.loadP tT_ok rfl rfl rfl rfl) ?_)) | (refine kLen ?_; first | (refine LOps.ans (AnsL.lenM tT_ok rfl rfl rfl) ?_)) | (refine kBin ?_; first | (refine LOps.ans (AnsL.add rfl rfl ?_) ?_; (focus (constructor <;> omega)))))
        | (refine kWL ?_; first | (refine WL.seq ?_) | (refine WL.region (by kernel_rfl) ?_) | (refine WL.drawn (id := 11) [0, 1, 2, 3, 4, 5, 6, 7, 8, 9, 10, 11, 12, 13, 14, 15, 16, 17, 18, 19, 20, 21, 22, 23, 24, 25, 26, 27, 28] [] [[], [0], [], [0, 1, 2], [0, 1, 2, 3], [0, 1, 2, 3, 4], [], [6], [], [6, 7, 8], [6, 7, 8, 9], [6, 7, 8, 9, 10], [0, 1, 2, 3, 4, 5, 6, 7, 8, 9, 10, 11], [0, 1, 2, 3, 4, 5, 6, 7, 8, 9, 10, 11, 12], [0, 1, 2, 3, 4, 5, 6, 7, 8, 9, 10, 11, 12, 13], [0, 1, 2, 3, 4, 5, 6, 7, 8, 9, 10, 11, 12, 13, 14], [0, 1, 2, 3, 4, 5, 6, 7, 8, 9, 10, 11, 12, 13], [0, 1, 2, 3, 4, 5, 6, 7, 8, 9, 10, 11, 12, 13, 14, 15, 16], [0, 1, 2, 3, 4, 5, 6, 7, 8, 9, 10, 11, 12, 13, 14, 15, 16, 17], [0, 1, 2, 3, 4, 5, 6, 7, 8, 9, 10, 11, 12, 13, 14, 15, 16, 17, 18], [0, 1, 2, 3, 4, 5, 6, 7, 8, 9, 10, 11, 12, 13], [0, 1, 2, 3, 4, 5, 6, 7, 8, 9, 10, 11, 12, 13, 20], [0, 1, 2, 3, 4, 5, 6, 7, 8, 9, 10, 11, 12, 13], [0, 1, 2, 3, 4, 5, 6, 7, 8, 9, 10, 11, 12, 13, 20, 21, 22], [0, 1, 2, 3, 4, 5, 6, 7, 8, 9, 10, 11, 12, 13, 20, 21, 22, 23], [0, 1, 2, 3, 4, 5, 6, 7, 8, 9, 10, 11, 12, 13, 20, 21, 22, 23, 24], [0, 1, 2, 3, 4, 5, 6, 7, 8, 9, 10, 11, 12, 13, 14, 15, 16, 17, 18, 19, 20, 21, 22, 23, 24, 25], [0, 1, 2, 3, 4, 5, 6, 7, 8, 9, 10, 11, 12, 13, 14, 15, 16, 17, 18, 19, 20, 21, 22, 23, 24, 25, 26], [0, 1, 2, 3, 4, 5, 6, 7, 8, 9, 10, 11, 12, 13, 14, 15, 16, 17, 18, 19, 20, 21, 22, 23, 24, 25, 26, 27]] (by kernel_rfl) (by kernel_rfl) ?_) | (refine WL.block ?_) | (refine WL.skip ?_) | (refine WL.ret ?_) | (refine kCond ?_; first | (refine WL.condT rfl ?_) | (refine WL.condF rfl ?_) | (refine WL.condT' rfl ?_ ?_; (focus (first | (simp only [decide_eq_true_eq, decide_eq_false_iff_not, Bool.not_eq_true', Bool.not_eq_false', Int.ofNat_lt, Int.ofNat_le, Int.ofNat_inj, not_true_eq_false, not_false_eq_true]; omega))))))
        | (refine kDr ?_; first | (refine LDr.nil ?_) | (refine LDr.fl rfl rfl (.ev tT_ok rfl) ?_) | (refine LDr.gF rfl rfl rfl rfl rfl ?_) | (refine LDr.gT rfl rfl rfl rfl rfl (.ev tT_ok rfl) ?_) | (refine kDLoad rfl ?_; first | (refine LDr.fl rfl rfl (AnsL.loadP tT_ok rfl rfl rfl rfl) ?_) | (refine LDr.gT rfl rfl rfl rfl rfl (AnsL.loadP tT_ok rfl rfl rfl rfl) ?_)) | (refine kDIdx rfl ?_; first | (refine LDr.fl rfl rfl (AnsL.idx tT_ok rfl rfl rfl rfl rfl hga rfl rfl) ?_) | (refine LDr.gT rfl rfl rfl rfl rfl (AnsL.idx tT_ok rfl rfl rfl rfl rfl hga rfl rfl) ?_) | (refine LDr.fl rfl rfl (AnsL.idx tT_ok rfl rfl rfl rfl rfl hgb rfl rfl) ?_) | (refine LDr.gT rfl rfl rfl rfl rfl (AnsL.idx tT_ok rfl rfl rfl rfl rfl hgb rfl rfl) ?_)) | (refine kDCallN 11 rfl ?_; first | (refine LDr.gT rfl rfl rfl rfl rfl (AnsL.callP rfl rfl rfl (ok11) (hE _)) ?_)))
        | (refine lthen_n ?_)
        | (refine lthen_r ?_)
        | (refine lblock_n ?_)
        | (refine lblock_r ?_)
        | (refine lbackD_r ?_)
        | (refine LPost.r1 (r := .tmp 4) (.inl rfl) (Res1.tmp rfl) ?_)
        | (refine PureR.mk ?_)
      any_goals (show V.bool _ = _; simp_all; done)
      all_goals
        simp only [decide_true, Bool.true_and] at hc2
      all_goals
        refine lbackD.of (i + 1) ?_ ?_ ?_ ?_
        · first | omega | (refine ⟨?_, ?_⟩; (focus (first | omega | (simp; omega))); (first | omega | (simp_all [hc2] <;> fail) | (simp_all [hc2]; omega))) | (simp_all [hc2] <;> fail) | (simp_all [hc2]; omega)
        · first | omega | (simp; omega) | simp_all
        · repeat' first
            | exact SubL.nil
            | (refine SubL.mk rfl ?_ ?_)
            | rfl
            | (simp [hc2] <;> fail)
            | (simp [hc2]; omega)
        · first | rfl | (simp [hc2] <;> fail) | (simp [hc2]; omega)
    · rw [eqAll_end hge2] at hc2
      repeat' first
        | (refine kOps ?_; first | (refine LOps.nil ?_) | (refine LOps.ev tT_ok rfl ?_) | (refine kLoad ?_; first | (refine LOps.ans (AnsL.loadP tT_ok rfl rfl rfl rfl) ?_)) | (refine kLen ?_; first | (refine LOps.ans (AnsL.lenM tT_ok rfl rfl rfl) ?_)))
        | (refine kWL ?_; first | (refine WL.seq ?_) | (refine WL.region (by kernel_rfl) ?_) | (refine WL.exit ?_) | (refine WL.ret ?_) | (refine kCond ?_; first | (refine WL.condF' rfl ?_ ?_; (focus (first | (simp only [decide_eq_true_eq, decide_eq_false_iff_not, Bool.not_eq_true', Bool.not_eq_false', Int.ofNat_lt, Int.ofNat_le, Int.ofNat_inj, not_true_eq_false, not_false_eq_true]; omega))))))
        | (refine lthen_n ?_)
        | (refine lthen_e ?_)
        | (refine lblock_e ?_)
        | (refine lbackD_e ?_)
        | (refine LPost.r1 (r := .tmp 4) (.inl rfl) (Res1.tmp rfl) ?_)
        | (refine PureR.mk ?_)
      show V.bool _ = _; simp_all
set_option maxHeartbeats 1000000 in
theorem specSamePExpr_c (x : PE) : SameC Try.prog 11 x := by
  induction x using PE.ind with
  | h x ih1 ih2 =>
    intro y s
    rw [PE.eqB_eq]
    refine VCalls.wf fun hwf => ?_
    simp only [PE.v, List.all_cons, List.all_nil, V.wf, V.wfL, Bool.and_true, Bool.and_eq_true, decide_eq_true_eq, List.length_map, maxLen] at hwf
    refine LCalls.pure Try.func11 rfl (by kernel_rfl) (by simp) ?_
    repeat' first
      | (refine kOps ?_; first | (refine LOps.nil ?_) | (refine kG ?_; first | (refine LOps.gT rfl rfl rfl ?_) | (refine LOps.gF rfl rfl rfl ?_) | (refine LOps.gC rfl rfl rfl (fun h => ?_) (fun h => ?_))) | (refine LOps.ev tT_ok rfl ?_) | (refine kBox ?_; refine LOps.box rfl rfl rfl rfl ?_) | (refine kLoad ?_; first | (refine LOps.ans (AnsL.loadP tT_ok rfl rfl rfl rfl) ?_)) | (refine kLen ?_; first | (refine LOps.ans (AnsL.lenM tT_ok rfl rfl rfl) ?_)) | (refine kCallN 33 ?_; first | (refine LOps.ans (AnsL.callP rfl rfl rfl (ok33) (specl19Same_v x.kids y.kids _ ih1)) ?_)))
      | (refine kWL ?_; first | (refine WL.seq ?_) | (refine WL.region (by kernel_rfl) ?_) | (refine WL.block ?_) | (refine WL.skip ?_) | (refine WL.ret ?_) | (refine kCond ?_; first | (refine WL.condT rfl ?_) | (refine WL.cond rfl (fun h => ?_) (fun h => ?_))))
      | (refine lthen_n ?_)
      | (refine lthen_r ?_)
      | (refine LPost.r1 (r := .tmp 4) (.inl rfl) (Res1.tmp rfl) ?_)
      | (refine PureR.mk ?_)
    any_goals (show V.bool _ = _; first | (simp_all [valEq]; done) | (simp_all [same_ne]; done) | (simp [valEq]; grind))
    have hne : (x.sub.length : Int) = y.sub.length := by simp_all
    refine WL.loopD (fun i : Nat => x.sub.length - i) (fun i => [(2, .ptr (s.next + 0) 0), (3, .ptr (s.next + 1) 0), (5, .int .i64 (i : Int))]) (fun i => [.var x.v.cells, .var y.v.cells])
      (fun i => i ≤ x.sub.length ∧ same PE.eqP x.sub y.sub = eqAll PE.eqP (x.sub.drop i) (y.sub.drop i)) 2 0 ⟨by omega, same_eq hne⟩ (fun _ => rfl) ⟨rfl, rfl, rfl, trivial⟩ rfl (fun i hi => ?_) (fun i hi => ?_)
    · simp [UnderK, UnderX, Own.under, V.under, V.underL, PE.v, V.cells]
    obtain ⟨hi, hc⟩ := hi
    rcases Nat.lt_or_ge i x.sub.length with hlt | hge
    · have hlt2 : i < y.sub.length := by omega
      have hga : (x.sub.map PE.planV)[i]? = some (PL.v x.sub[i]) := by rw [List.getElem?_map, List.getElem?_eq_getElem hlt]; simp only [Option.map_some, PE.planV_eq]
      have hgb : (y.sub.map PE.planV)[i]? = some (PL.v y.sub[i]) := by rw [List.getElem?_map, List.getElem?_eq_getElem hlt2]; simp only [Option.map_some, PE.planV_eq]
      rw [eqAll_drop hlt hlt2] at hc
      have hE := fun t => specSamePlan_r x.sub[i] y.sub[i] (ih2 x.sub[i] (List.getElem_mem hlt)) t
      generalize x.sub[i] = a at hga hE hc
      generalize y.sub[i] = b at hgb hE hc
      cases hp : PE.eqP a b
      all_goals rw [hp] at hE hc
      · skip
        repeat' first
          | (refine kOps ?_; first | (refine LOps.nil ?_) | (refine LOps.ev tT_ok rfl ?_) | (refine kLoad ?_; first | (refine LOps.ans (AnsL.loadP tT_ok rfl rfl rfl rfl) ?_)) | (refine kLen ?_; first | (refine LOps.ans (AnsL.lenM tT_ok rfl rfl rfl) ?_)))
          | (refine kWL ?_; first | (refine WL.seq ?_) | (refine WL.region (by kernel_rfl) ?_) | (refine WL.drawn (id := 6) [0, 1, 2, 3, 4, 5, 6, 7, 8, 9, 10, 11] [] [[], [0], [], [0, 1, 2], [0, 1, 2, 3], [], [5], [], [5, 6, 7], [5, 6, 7, 8], [0, 1, 2, 3, 4, 5, 6, 7, 8, 9], [0, 1, 2, 3, 4, 5, 6, 7, 8, 9, 10]] (by kernel_rfl) (by kernel_rfl) ?_) | (refine WL.block ?_) | (refine WL.skip ?_) | (refine WL.ret ?_) | (refine kCond ?_; first | (refine WL.condT rfl ?_) | (refine WL.condT' rfl ?_ ?_; (focus (first | (simp only [decide_eq_true_eq, decide_eq_false_iff_not, Bool.not_eq_true', Bool.not_eq_false', Int.ofNat_lt, Int.ofNat_le, Int.ofNat_inj, not_true_eq_false, not_false_eq_true]; omega))))))
          | (refine kDr ?_; first | (refine LDr.nil ?_) | (refine LDr.fl rfl rfl (.ev tT_ok rfl) ?_) | (refine kDLoad rfl ?_; first | (refine LDr.fl rfl rfl (AnsL.loadP tT_ok rfl rfl rfl rfl) ?_)) | (refine kDIdx rfl ?_; first | (refine LDr.fl rfl rfl (AnsL.idx tT_ok rfl rfl rfl rfl rfl hga rfl rfl) ?_) | (refine LDr.fl rfl rfl (AnsL.idx tT_ok rfl rfl rfl rfl rfl hgb rfl rfl) ?_)) | (refine kDCallN 34 rfl ?_; first | (refine LDr.fl rfl rfl (AnsL.callP rfl rfl rfl (ok34) (hE _)) ?_)))
          | (refine lthen_n ?_)
          | (refine lthen_r ?_)
          | (refine lblock_r ?_)
          | (refine lbackD_r ?_)
          | (refine LPost.r1 (r := .tmp 4) (.inl rfl) (Res1.tmp rfl) ?_)
          | (refine PureR.mk ?_)
        all_goals simp_all
      · skip
        repeat' first
          | (refine kOps ?_; first | (refine LOps.nil ?_) | (refine LOps.ev tT_ok rfl ?_) | (refine kLoad ?_; first | (refine LOps.ans (AnsL.loadP tT_ok rfl rfl rfl rfl) ?_)) | (refine kLen ?_; first | (refine LOps.ans (AnsL.lenM tT_ok rfl rfl rfl) ?_)) | (refine kBin ?_; first | (refine LOps.ans (AnsL.add rfl rfl ?_) ?_; (focus (constructor <;> omega)))))
          | (refine kWL ?_; first | (refine WL.seq ?_) | (refine WL.region (by kernel_rfl) ?_) | (refine WL.drawn (id := 6) [0, 1, 2, 3, 4, 5, 6, 7, 8, 9, 10, 11] [] [[], [0], [], [0, 1, 2], [0, 1, 2, 3], [], [5], [], [5, 6, 7], [5, 6, 7, 8], [0, 1, 2, 3, 4, 5, 6, 7, 8, 9], [0, 1, 2, 3, 4, 5, 6, 7, 8, 9, 10]] (by kernel_rfl) (by kernel_rfl) ?_) | (refine WL.block ?_) | (refine WL.skip ?_) | (refine kCond ?_; first | (refine WL.condF rfl ?_) | (refine WL.condT' rfl ?_ ?_; (focus (first | (simp only [decide_eq_true_eq, decide_eq_false_iff_not, Bool.not_eq_true', Bool.not_eq_false', Int.ofNat_lt, Int.ofNat_le, Int.ofNat_inj, not_true_eq_false, not_false_eq_true]; omega))))))
          | (refine kDr ?_; first | (refine LDr.nil ?_) | (refine LDr.fl rfl rfl (.ev tT_ok rfl) ?_) | (refine kDLoad rfl ?_; first | (refine LDr.fl rfl rfl (AnsL.loadP tT_ok rfl rfl rfl rfl) ?_)) | (refine kDIdx rfl ?_; first | (refine LDr.fl rfl rfl (AnsL.idx tT_ok rfl rfl rfl rfl rfl hga rfl rfl) ?_) | (refine LDr.fl rfl rfl (AnsL.idx tT_ok rfl rfl rfl rfl rfl hgb rfl rfl) ?_)) | (refine kDCallN 34 rfl ?_; first | (refine LDr.fl rfl rfl (AnsL.callP rfl rfl rfl (ok34) (hE _)) ?_)))
          | (refine lthen_n ?_)
          | (refine lblock_n ?_)
        all_goals
          refine lbackD.of (i + 1) ?_ ?_ ?_ ?_
          · first | omega | (refine ⟨?_, ?_⟩; (focus (first | omega | (simp; omega))); (first | omega | (simp_all [hc, hp] <;> fail) | (simp_all [hc, hp]; omega))) | (simp_all [hc, hp] <;> fail) | (simp_all [hc, hp]; omega)
          · first | omega | (simp; omega) | simp_all
          · repeat' first
              | exact SubL.nil
              | (refine SubL.mk rfl ?_ ?_)
              | rfl
              | (simp [hc, hp] <;> fail)
              | (simp [hc, hp]; omega)
          · first | rfl | (simp [hc, hp] <;> fail) | (simp [hc, hp]; omega)
    · rw [eqAll_end hge] at hc
      repeat' first
        | (refine kOps ?_; first | (refine LOps.nil ?_) | (refine LOps.ev tT_ok rfl ?_) | (refine kLoad ?_; first | (refine LOps.ans (AnsL.loadP tT_ok rfl rfl rfl rfl) ?_)) | (refine kLen ?_; first | (refine LOps.ans (AnsL.lenM tT_ok rfl rfl rfl) ?_)))
        | (refine kWL ?_; first | (refine WL.seq ?_) | (refine WL.region (by kernel_rfl) ?_) | (refine WL.exit ?_) | (refine WL.ret ?_) | (refine kCond ?_; first | (refine WL.condF' rfl ?_ ?_; (focus (first | (simp only [decide_eq_true_eq, decide_eq_false_iff_not, Bool.not_eq_true', Bool.not_eq_false', Int.ofNat_lt, Int.ofNat_le, Int.ofNat_inj, not_true_eq_false, not_false_eq_true]; omega))))))
        | (refine lthen_n ?_)
        | (refine lthen_e ?_)
        | (refine lblock_e ?_)
        | (refine lbackD_e ?_)
        | (refine LPost.r1 (r := .tmp 4) (.inl rfl) (Res1.tmp rfl) ?_)
        | (refine PureR.mk ?_)
      show V.bool _ = _; simp_all [valEq]
theorem specSamePlan_v (p q : PL) (s : S) : VCalls Try.prog 34 [p.v, q.v] s (fun v s' => v = .bool (PE.eqP p q) ∧ s' = s) := specSamePlan_r p q (fun k _ => specSamePExpr_c k) s


end Go.Proofs.Ytolhegocbkckdaa
