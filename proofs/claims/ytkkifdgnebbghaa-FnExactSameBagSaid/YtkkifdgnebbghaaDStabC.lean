/-
  Comparing values and rows: the order, plainly, and the functions that tell it. Own work; no condition.
-/
import Derived.Test.YtkkifdgnebbghaaDStabP
import Derived.Test.YtkkifdgnebbghaaDFam
import Derived.Test.YtkkifdgnebbghaaDSame
import Derived.Test.YtkkifdgnebbghaaDDist
namespace Go.Proofs.Ytkkifdgnebbghaa
open Go
set_option linter.unusedSimpArgs false
set_option linter.unusedVariables false

/-! ### Orders, plainly -/
structure Cmpr {α : Type} (f : α → α → Int) : Prop where
  eq : ∀ a b, f a b = 0 ↔ a = b
  anti : ∀ a b, f a b < 0 ↔ 0 < f b a
  trans : ∀ a b c, f a b < 0 → f b c < 0 → f a c < 0
theorem Cmpr.ordr {α : Type} {f : α → α → Int} (h : Cmpr f) : Ordr f := by
  refine ⟨fun a b => ?_, fun a b c h1 h2 h3 => ?_, fun a b h1 h2 => ?_⟩
  · have := h.anti a b; have := h.anti b a; omega
  · -- c < a, a ≤ b, b ≤ c
    by_cases e : f a b = 0
    · have := (h.eq a b).1 e
      subst this
      exact h2 h3
    · have h4 : f a b < 0 := by have := h.anti a b; have := h.anti b a; omega
      exact h2 (h.trans _ _ _ h3 h4)
  · have := h.anti a b; have := h.anti b a
    exact (h.eq a b).1 (by omega)
def cI (a b : Int) : Int := if a < b then -1 else if b < a then 1 else 0
theorem cI_cmp : Cmpr cI := by
  refine ⟨fun a b => ?_, fun a b => ?_, fun a b c => ?_⟩ <;> unfold cI <;> repeat' split <;> omega
def thn (x y : Int) : Int := if x = 0 then y else x
def lexL {α : Type} (f : α → α → Int) : List α → List α → Int
  | [], [] => 0
  | [], _ :: _ => -1
  | _ :: _, [] => 1
  | a :: x, b :: y => thn (f a b) (lexL f x y)
theorem thn_eq {x y : Int} : thn x y = 0 ↔ x = 0 ∧ y = 0 := by unfold thn; split <;> omega
theorem thn_lt {x y : Int} : thn x y < 0 ↔ x < 0 ∨ (x = 0 ∧ y < 0) := by unfold thn; split <;> omega
theorem thn_gt {x y : Int} : 0 < thn x y ↔ 0 < x ∨ (x = 0 ∧ 0 < y) := by unfold thn; split <;> omega
theorem Cmpr.sym {α : Type} {f : α → α → Int} (h : Cmpr f) (a b : α) : f a b = 0 ↔ f b a = 0 := by rw [h.eq, h.eq]; exact eq_comm
theorem Cmpr.lex {α : Type} {f : α → α → Int} (h : Cmpr f) : Cmpr (lexL f) := by
  refine ⟨fun a => ?_, fun a => ?_, fun a => ?_⟩
  · induction a with
    | nil => intro b; cases b <;> simp [lexL]
    | cons x a ih =>
      intro b
      cases b with
      | nil => simp [lexL]
      | cons y b => simp only [lexL, thn_eq, h.eq, ih, List.cons.injEq]
  · induction a with
    | nil => intro b; cases b <;> simp [lexL]
    | cons x a ih =>
      intro b
      cases b with
      | nil => simp [lexL]
      | cons y b => simp only [lexL, thn_lt, thn_gt, h.anti x y, ih, h.sym x y]
  · induction a with
    | nil =>
      intro b c
      cases b <;> cases c <;> simp [lexL]
    | cons x a ih =>
      intro b c
      cases b with
      | nil => simp [lexL]
      | cons y b =>
        cases c with
        | nil => simp [lexL]
        | cons z c =>
          simp only [lexL, thn_lt]
          rintro (h1 | ⟨h1, h1'⟩) (h2 | ⟨h2, h2'⟩)
          · exact .inl (h.trans _ _ _ h1 h2)
          · rw [h.eq] at h2; subst h2; exact .inl h1
          · rw [h.eq] at h1; subst h1; exact .inl h2
          · rw [h.eq] at h1 h2; subst h1 h2
            exact .inr ⟨(h.eq _ _).2 rfl, ih _ _ h1' h2'⟩
def cU (a b : UInt8) : Int := if a < b then -1 else if a = b then 0 else 1
theorem cU_I (a b : UInt8) : cU a b = cI a.toNat b.toNat := by
  unfold cU cI
  simp only [UInt8.lt_iff_toNat_lt, ← UInt8.toNat_inj]
  repeat' split <;> omega
theorem cU_cmp : Cmpr cU := by
  refine ⟨fun a b => ?_, fun a b => ?_, fun a b c => ?_⟩
  · rw [cU_I, cI_cmp.eq, ← UInt8.toNat_inj]; omega
  · rw [cU_I, cU_I]; exact cI_cmp.anti _ _
  · rw [cU_I, cU_I, cU_I]; exact cI_cmp.trans _ _ _
def cT (a b : List UInt8) : Int := if Op.bytesLess a b = true then -1 else if a = b then 0 else 1
theorem cT_lex : ∀ a b : List UInt8, cT a b = lexL cU a b
  | [], [] => by simp [cT, lexL, Op.bytesLess]
  | [], _ :: _ => by simp [cT, lexL, Op.bytesLess]
  | _ :: _, [] => by simp [cT, lexL, Op.bytesLess]
  | a :: x, b :: y => by
    have ih := cT_lex x y
    unfold cT at ih ⊢
    rw [lexL, ← ih]
    unfold cU thn
    by_cases h1 : a < b
    · simp [Op.bytesLess, h1]
    · by_cases h2 : a = b
      · simp [Op.bytesLess, h1, h2]
      · simp [Op.bytesLess, h1, h2]
theorem cT_cmp : Cmpr cT := by
  have : cT = lexL cU := funext fun a => funext fun b => cT_lex a b
  rw [this]
  exact cU_cmp.lex
def cVal (a b : Val) : Int := thn (cI a.kind b.kind) (thn (cI a.num b.num) (cT a.text b.text))
theorem cVal_cmp : Cmpr cVal := by
  refine ⟨fun a b => ?_, fun a b => ?_, fun a b c => ?_⟩
  · obtain ⟨k, n, t⟩ := a
    obtain ⟨k', n', t'⟩ := b
    simp only [cVal, thn_eq, cI_cmp.eq, cT_cmp.eq, Val.mk.injEq]
  · simp only [cVal, thn_lt, thn_gt, cI_cmp.anti a.kind, cI_cmp.anti a.num, cT_cmp.anti a.text, cI_cmp.sym a.kind, cI_cmp.sym a.num]
  · simp only [cVal, thn_lt]
    rintro (h1 | ⟨h1, h1' | ⟨h1', h1''⟩⟩) (h2 | ⟨h2, h2' | ⟨h2', h2''⟩⟩)
    · exact .inl (cI_cmp.trans _ _ _ h1 h2)
    · rw [cI_cmp.eq] at h2; rw [← h2]; exact .inl h1
    · rw [cI_cmp.eq] at h2; rw [← h2]; exact .inl h1
    · rw [cI_cmp.eq] at h1; rw [h1]; exact .inl h2
    · rw [cI_cmp.eq] at h1 h2; exact .inr ⟨(cI_cmp.eq _ _).2 (h1.trans h2), .inl (cI_cmp.trans _ _ _ h1' h2')⟩
    · rw [cI_cmp.eq] at h1 h2 h2'; exact .inr ⟨(cI_cmp.eq _ _).2 (h1.trans h2), .inl (by rw [← h2']; exact h1')⟩
    · rw [cI_cmp.eq] at h1; rw [h1]; exact .inl h2
    · rw [cI_cmp.eq] at h1 h2 h1'; exact .inr ⟨(cI_cmp.eq _ _).2 (h1.trans h2), .inl (by rw [h1']; exact h2')⟩
    · rw [cI_cmp.eq] at h1 h2 h1' h2'; exact .inr ⟨(cI_cmp.eq _ _).2 (h1.trans h2), .inr ⟨(cI_cmp.eq _ _).2 (h1'.trans h2'), cT_cmp.trans _ _ _ h1'' h2''⟩⟩
def cRow : List Val → List Val → Int := lexL cVal
theorem cRow_cons (a b : Val) (x y : List Val) : cRow (a :: x) (b :: y) = thn (cVal a b) (cRow x y) := rfl
theorem cRow_ordr : Ordr cRow := cVal_cmp.lex.ordr

/-! ### The functions -/
theorem isNaNI_s (a : Int) (s : S) : VCalls Try.prog 38 [.int .i64 a] s (fun v s' => v = .bool false ∧ s' = s) := by
  refine LCalls.pure Try.func38 rfl (by kernel_rfl) (by simp) ?_
  repeat' first
    | (refine kOps ?_; first | (refine LOps.nil ?_) | (refine LOps.ev tT_ok rfl ?_))
    | (refine kWL ?_; first | (refine WL.seq ?_) | (refine WL.region (by kernel_rfl) ?_) | (refine WL.ret ?_))
    | (refine lthen_n ?_)
    | (refine LPost.r1 (r := .tmp 2) (.inl rfl) (Res1.tmp rfl) ?_)
    | (refine PureR.mk ?_)
  simp
theorem isNaNS_s (a : List UInt8) (s : S) : VCalls Try.prog 39 [.str a] s (fun v s' => v = .bool false ∧ s' = s) := by
  refine LCalls.pure Try.func39 rfl (by kernel_rfl) (by simp) ?_
  repeat' first
    | (refine kOps ?_; first | (refine LOps.nil ?_) | (refine LOps.ev tT_ok rfl ?_))
    | (refine kWL ?_; first | (refine WL.seq ?_) | (refine WL.region (by kernel_rfl) ?_) | (refine WL.ret ?_))
    | (refine lthen_n ?_)
    | (refine LPost.r1 (r := .tmp 2) (.inl rfl) (Res1.tmp rfl) ?_)
    | (refine PureR.mk ?_)
  simp
theorem cmpI_v (a b : Int) (s : S) : VCalls Try.prog 35 [.int .i64 a, .int .i64 b] s (fun v s' => v = .int .i64 (cI a b) ∧ s' = s) := by
  unfold cI
  by_cases h1 : a < b
  · rw [if_pos h1]
    refine LCalls.pure Try.func35 rfl (by kernel_rfl) (by simp) ?_
    repeat' first
      | (refine kOps ?_; first | (refine LOps.nil ?_) | (refine LOps.ev tT_ok rfl ?_) | (refine kCallN 38 ?_; first | (refine LOps.ans (AnsL.callP rfl rfl rfl (ok38) (isNaNI_s _ _)) ?_)))
      | (refine kWL ?_; first | (refine WL.seq ?_) | (refine WL.region (by kernel_rfl) ?_) | (refine WL.skip ?_) | (refine WL.ret ?_) | (refine kCond ?_; first | (refine WL.condF rfl ?_) | (refine WL.condT' rfl ?_ ?_; (focus (first | (exact decide_eq_true (by assumption)))))))
      | (refine lthen_n ?_)
      | (refine lthen_r ?_)
      | (refine LPost.r1 (r := .tmp 4) (.inl rfl) (Res1.tmp rfl) ?_)
      | (refine PureR.mk ?_)
    rfl
  rw [if_neg h1]
  by_cases h2 : b < a
  · rw [if_pos h2]
    refine LCalls.pure Try.func35 rfl (by kernel_rfl) (by simp) ?_
    repeat' first
      | (refine kOps ?_; first | (refine LOps.nil ?_) | (refine LOps.ev tT_ok rfl ?_) | (refine kCallN 38 ?_; first | (refine LOps.ans (AnsL.callP rfl rfl rfl (ok38) (isNaNI_s _ _)) ?_)))
      | (refine kWL ?_; first | (refine WL.seq ?_) | (refine WL.region (by kernel_rfl) ?_) | (refine WL.skip ?_) | (refine WL.ret ?_) | (refine kCond ?_; first | (refine WL.condF rfl ?_) | (refine WL.condT' rfl ?_ ?_; (focus (first | (exact decide_eq_true (by assumption))))) | (refine WL.condF' rfl ?_ ?_; (focus (first | (exact decide_eq_false (by assumption)))))))
      | (refine lthen_n ?_)
      | (refine lthen_r ?_)
      | (refine LPost.r1 (r := .tmp 4) (.inl rfl) (Res1.tmp rfl) ?_)
      | (refine PureR.mk ?_)
    rfl
  · rw [if_neg h2]
    refine LCalls.pure Try.func35 rfl (by kernel_rfl) (by simp) ?_
    repeat' first
      | (refine kOps ?_; first | (refine LOps.nil ?_) | (refine LOps.ev tT_ok rfl ?_) | (refine kCallN 38 ?_; first | (refine LOps.ans (AnsL.callP rfl rfl rfl (ok38) (isNaNI_s _ _)) ?_)))
      | (refine kWL ?_; first | (refine WL.seq ?_) | (refine WL.region (by kernel_rfl) ?_) | (refine WL.skip ?_) | (refine WL.ret ?_) | (refine kCond ?_; first | (refine WL.condF rfl ?_) | (refine WL.condF' rfl ?_ ?_; (focus (first | (exact decide_eq_false (by assumption)))))))
      | (refine lthen_n ?_)
      | (refine LPost.r1 (r := .tmp 4) (.inl rfl) (Res1.tmp rfl) ?_)
      | (refine PureR.mk ?_)
    rfl
theorem cmpS_v (a b : List UInt8) (s : S) : VCalls Try.prog 36 [.str a, .str b] s (fun v s' => v = .int .i64 (cT a b) ∧ s' = s) := by
  unfold cT
  cases h1 : Op.bytesLess a b
  · by_cases h2 : a = b
    · have h3 : (!(Op.bytesLess a b || decide (a = b))) = false := by simp [h2]
      rw [if_neg (by simp), if_pos h2]
      refine LCalls.pure Try.func36 rfl (by kernel_rfl) (by simp) ?_
      repeat' first
        | (refine kOps ?_; first | (refine LOps.nil ?_) | (refine LOps.ev tT_ok rfl ?_) | (refine kCallN 39 ?_; first | (refine LOps.ans (AnsL.callP rfl rfl rfl (ok39) (isNaNS_s _ _)) ?_)))
        | (refine kWL ?_; first | (refine WL.seq ?_) | (refine WL.region (by kernel_rfl) ?_) | (refine WL.skip ?_) | (refine WL.ret ?_) | (refine kCond ?_; first | (refine WL.condF rfl ?_) | (refine WL.condF' rfl ?_ ?_; (focus (first | (assumption))))))
        | (refine lthen_n ?_)
        | (refine LPost.r1 (r := .tmp 4) (.inl rfl) (Res1.tmp rfl) ?_)
        | (refine PureR.mk ?_)
      rfl
    · have h3 : (!(Op.bytesLess a b || decide (a = b))) = true := by simp [h1, h2]
      rw [if_neg (by simp), if_neg h2]
      refine LCalls.pure Try.func36 rfl (by kernel_rfl) (by simp) ?_
      repeat' first
        | (refine kOps ?_; first | (refine LOps.nil ?_) | (refine LOps.ev tT_ok rfl ?_) | (refine kCallN 39 ?_; first | (refine LOps.ans (AnsL.callP rfl rfl rfl (ok39) (isNaNS_s _ _)) ?_)))
        | (refine kWL ?_; first | (refine WL.seq ?_) | (refine WL.region (by kernel_rfl) ?_) | (refine WL.skip ?_) | (refine WL.ret ?_) | (refine kCond ?_; first | (refine WL.condF rfl ?_) | (refine WL.condT' rfl ?_ ?_; (focus (first | (assumption)))) | (refine WL.condF' rfl ?_ ?_; (focus (first | (assumption))))))
        | (refine lthen_n ?_)
        | (refine lthen_r ?_)
        | (refine LPost.r1 (r := .tmp 4) (.inl rfl) (Res1.tmp rfl) ?_)
        | (refine PureR.mk ?_)
      rfl
  · rw [if_pos rfl]
    refine LCalls.pure Try.func36 rfl (by kernel_rfl) (by simp) ?_
    repeat' first
      | (refine kOps ?_; first | (refine LOps.nil ?_) | (refine LOps.ev tT_ok rfl ?_) | (refine kCallN 39 ?_; first | (refine LOps.ans (AnsL.callP rfl rfl rfl (ok39) (isNaNS_s _ _)) ?_)))
      | (refine kWL ?_; first | (refine WL.seq ?_) | (refine WL.region (by kernel_rfl) ?_) | (refine WL.skip ?_) | (refine WL.ret ?_) | (refine kCond ?_; first | (refine WL.condF rfl ?_) | (refine WL.condT' rfl ?_ ?_; (focus (first | (assumption))))))
      | (refine lthen_n ?_)
      | (refine lthen_r ?_)
      | (refine LPost.r1 (r := .tmp 4) (.inl rfl) (Res1.tmp rfl) ?_)
      | (refine PureR.mk ?_)
    rfl
def firstL : List Int → Int
  | [] => 0
  | x :: xs => if x = 0 then firstL xs else x
theorem cmpFirst_v (l : List Int) (hl : l.length ≤ 1000) (s : S) : VCalls Try.prog 34 [.sl 0 (l.map iV)] s (fun v s' => v = .int .i64 (firstL l) ∧ s' = s) := by
  refine LCalls.pure Try.func34 rfl (by kernel_rfl) (by simp) ?_
  repeat' first
    | (refine kOps ?_; first | (refine LOps.nil ?_) | (refine LOps.ev tT_ok rfl ?_) | (refine kLen ?_; first | (refine LOps.ans (AnsL.lenM tT_ok rfl rfl rfl) ?_)))
    | (refine kWL ?_; first | (refine WL.seq ?_) | (refine WL.region (by kernel_rfl) ?_) | (refine WL.block ?_))
    | (refine lthen_n ?_)
  refine WL.loopD (fun i : Nat => l.length - i) (fun i => [(3, .int .i64 0), (6, .sl 0 (l.map iV)), (7, .int .i64 l.length), (8, .int .i64 (i : Int))]) (fun i => [])
    (fun i => i ≤ l.length ∧ firstL l = firstL (l.drop i)) 0 0 (by simp) (fun _ => rfl) ⟨rfl, rfl, rfl, rfl, trivial⟩ rfl (fun i hi => ?_) (fun i hi => ?_)
  · simp [UnderK, UnderX, V.under, V.underL]
  obtain ⟨hi, hc⟩ := hi
  rcases Nat.lt_or_ge i l.length with hlt | hge
  · rw [List.drop_eq_getElem_cons hlt, firstL] at hc
    have hga : (l.map iV)[i]? = some (iV l[i]) := by simp [hlt]
    generalize l[i] = y at hga hc
    by_cases e : y = 0
    · rw [if_pos e] at hc
      repeat' first
        | (refine kOps ?_; first | (refine LOps.nil ?_) | (refine LOps.ev tT_ok rfl ?_) | (refine kBin ?_; first | (refine LOps.ans (AnsL.add rfl rfl ?_) ?_; (focus (constructor <;> omega)))) | (refine kIdx ?_; first | (refine LOps.ans (AnsL.idx tT_ok rfl rfl rfl rfl rfl hga rfl rfl) ?_)))
        | (refine kWL ?_; first | (refine WL.seq ?_) | (refine WL.region (by kernel_rfl) ?_) | (refine WL.block ?_) | (refine WL.skip ?_) | (refine kCond ?_; first | (refine WL.condT' rfl ?_ ?_; (focus (first | (simp only [decide_eq_true_eq, decide_eq_false_iff_not, Bool.not_eq_true', Bool.not_eq_false', Int.ofNat_lt, Int.ofNat_le, Int.ofNat_inj, not_true_eq_false, not_false_eq_true]; omega)))) | (refine WL.condF' rfl ?_ ?_; (focus (first | (simp only [decide_eq_true_eq, decide_eq_false_iff_not, Bool.not_eq_true', Bool.not_eq_false', Int.ofNat_lt, Int.ofNat_le, Int.ofNat_inj, not_true_eq_false, not_false_eq_true]; omega))))))
        | (refine lthen_n ?_)
        | (refine lblock_n ?_)
      all_goals
        refine lbackD.of (i + 1) ?_ ?_ ?_ ?_
        · first | omega | (refine ⟨?_, ?_⟩; (focus (first | omega | (simp; omega))); (first | omega | (simp_all [hc] <;> fail) | (simp_all [hc]; omega))) | (simp_all [hc] <;> fail) | (simp_all [hc]; omega)
        · first | omega | (simp; omega) | simp_all
        · repeat' first
            | exact SubL.nil
            | (refine SubL.mk rfl ?_ ?_)
            | rfl
            | (simp [hc] <;> fail)
            | (simp [hc]; omega)
        · first | rfl | (simp [hc] <;> fail) | (simp [hc]; omega)
    · rw [if_neg e] at hc
      repeat' first
        | (refine kOps ?_; first | (refine LOps.nil ?_) | (refine LOps.ev tT_ok rfl ?_) | (refine kIdx ?_; first | (refine LOps.ans (AnsL.idx tT_ok rfl rfl rfl rfl rfl hga rfl rfl) ?_)))
        | (refine kWL ?_; first | (refine WL.seq ?_) | (refine WL.region (by kernel_rfl) ?_) | (refine WL.block ?_) | (refine WL.skip ?_) | (refine WL.ret ?_) | (refine kCond ?_; first | (refine WL.condT' rfl ?_ ?_; (focus (first | (simp only [decide_eq_true_eq, decide_eq_false_iff_not, Bool.not_eq_true', Bool.not_eq_false', Int.ofNat_lt, Int.ofNat_le, Int.ofNat_inj, not_true_eq_false, not_false_eq_true]; omega))))))
        | (refine lthen_n ?_)
        | (refine lthen_r ?_)
        | (refine lblock_r ?_)
        | (refine lbackD_r ?_)
        | (refine LPost.r1 (r := .tmp 2) (.inl rfl) (Res1.tmp rfl) ?_)
        | (refine PureR.mk ?_)
      rw [hc]; rfl
  · rw [List.drop_of_length_le hge] at hc
    repeat' first
      | (refine kOps ?_; first | (refine LOps.nil ?_) | (refine LOps.ev tT_ok rfl ?_))
      | (refine kWL ?_; first | (refine WL.seq ?_) | (refine WL.region (by kernel_rfl) ?_) | (refine WL.exit ?_) | (refine WL.ret ?_) | (refine kCond ?_; first | (refine WL.condF' rfl ?_ ?_; (focus (first | (simp only [decide_eq_true_eq, decide_eq_false_iff_not, Bool.not_eq_true', Bool.not_eq_false', Int.ofNat_lt, Int.ofNat_le, Int.ofNat_inj, not_true_eq_false, not_false_eq_true]; omega))))))
      | (refine lthen_n ?_)
      | (refine lthen_e ?_)
      | (refine lblock_e ?_)
      | (refine lbackD_e ?_)
      | (refine LPost.r1 (r := .tmp 2) (.inl rfl) (Res1.tmp rfl) ?_)
      | (refine PureR.mk ?_)
    rw [hc]; rfl
theorem implOrder_v (a b : Val) (s : S) : VCalls Try.prog 31 [a.toV, b.toV] s (fun v s' => v = .int .i64 (cVal a b) ∧ s' = s) := by
  have h1 := fun t => cmpI_v a.kind b.kind t
  have h2 := fun t => cmpI_v a.num b.num t
  have h3 := fun t => cmpS_v a.text b.text t
  have e : cVal a b = firstL [cI a.kind b.kind, cI a.num b.num, cT a.text b.text] := by
    simp only [cVal, thn, firstL]
    repeat' split <;> simp_all
  rw [e]
  generalize cI a.kind b.kind = n1 at h1 ⊢
  generalize cI a.num b.num = n2 at h2 ⊢
  generalize cT a.text b.text = n3 at h3 ⊢
  have hO : ∀ t, VCalls Try.prog 34 [.sl 0 [.int .i64 n1, .int .i64 n2, .int .i64 n3]] t (fun v s' => v = .int .i64 (firstL [n1, n2, n3]) ∧ s' = t) := fun t => cmpFirst_v [n1, n2, n3] (by simp) t
  refine LCalls.pure Try.func31 rfl (by kernel_rfl) (by simp) ?_
  repeat' first
    | (refine kOps ?_; first | (refine LOps.nil ?_) | (refine LOps.ev tT_ok rfl ?_) | (refine kBox ?_; refine LOps.box rfl rfl rfl rfl ?_) | (refine kBsl ?_; first | (refine LOps.bsl tT_ok rfl rfl rfl rfl rfl rfl rfl rfl rfl rfl rfl ?_)))
    | (refine kWL ?_; first | (refine WL.seq ?_) | (refine WL.region (by kernel_rfl) ?_) | (refine WL.drawn (id := 1) [0, 1, 2, 3, 4, 5, 6, 7, 8, 9, 10, 11, 12, 13, 14, 15, 16, 17] [15] [[], [0], [], [2], [0, 1, 2, 3], [], [5], [], [7], [0, 1, 2, 3, 4, 5, 6, 7, 8], [], [10], [], [12], [0, 1, 2, 3, 4, 5, 6, 7, 8, 9, 10, 11, 12, 13], [0, 1, 2, 3, 4, 5, 6, 7, 8, 9, 10, 11, 12, 13, 14], [0, 1, 2, 3, 4, 5, 6, 7, 8, 9, 10, 11, 12, 13, 14, 15], [0, 1, 2, 3, 4, 5, 6, 7, 8, 9, 10, 11, 12, 13, 14, 15, 16]] (by kernel_rfl) (by kernel_rfl) ?_) | (refine WL.ret ?_))
    | (refine kDr ?_; first | (refine LDr.nil ?_) | (refine LDr.fl rfl rfl (.ev tT_ok rfl) ?_) | (refine kDLoad rfl ?_; first | (refine LDr.fl rfl rfl (AnsL.loadP tT_ok rfl rfl rfl rfl) ?_)) | (refine kDCallN 34 rfl ?_; first | (refine LDr.fl rfl rfl (AnsL.callF rfl rfl rfl (ok34) ?_ (hO _)) ?_; (focus (simp <;> fail)))) | (refine kDCallN 35 rfl ?_; first | (refine LDr.fl rfl rfl (AnsL.callP rfl rfl rfl (ok35) (h1 _)) ?_) | (refine LDr.fl rfl rfl (AnsL.callP rfl rfl rfl (ok35) (h2 _)) ?_)) | (refine kDCallN 36 rfl ?_; first | (refine LDr.fl rfl rfl (AnsL.callP rfl rfl rfl (ok36) (h3 _)) ?_)) | (refine LDr.eff rfl rfl rfl ?_))
    | (refine lthen_n ?_)
    | (refine LPost.r1 (r := .tmp 4) (.inl rfl) (Res1.tmp rfl) ?_)
    | (refine PureR.mk ?_)
    | (refine And.intro ?_ ?_)
    | (exact StsL.nil)
  rfl
theorem compareFunc_v (g : FuncId) (hg : CallOk Try.prog g) (hp : ∀ x y : Val, ∀ t, VCalls Try.prog g [x.toV, y.toV] t (fun v t' => v = .int .i64 (cVal x y) ∧ t' = t)) (a b : List Val) (h1 : a.length ≤ 1048576) (h2 : b.length ≤ 1048576) (s : S) :
    VCalls Try.prog 30 [.sl 0 (a.map Val.toV), .sl 0 (b.map Val.toV), .fn g []] s (fun v s' => v = .int .i64 (cRow a b) ∧ s' = s) := by
  have hma : (a.map Val.toV).length = a.length := List.length_map ..
  have hmb : (b.map Val.toV).length = b.length := List.length_map ..
  refine LCalls.pure Try.func30 rfl (by kernel_rfl) (by simp) ?_
  repeat' first
    | (refine kOps ?_; first | (refine LOps.nil ?_) | (refine LOps.ev tT_ok rfl ?_) | (refine kLen ?_; first | (refine LOps.ans (AnsL.lenM tT_ok rfl rfl rfl) ?_)))
    | (refine kWL ?_; first | (refine WL.seq ?_) | (refine WL.region (by kernel_rfl) ?_) | (refine WL.block ?_))
    | (refine lthen_n ?_)
  refine WL.loopD (fun i : Nat => a.length - i) (fun i => [(0, .sl 0 (a.map Val.toV)), (1, .sl 0 (b.map Val.toV)), (2, .fn g []), (11, .sl 0 (a.map Val.toV)), (12, .int .i64 a.length), (13, .int .i64 (i : Int))]) (fun i => [])
    (fun i => i ≤ a.length ∧ i ≤ b.length ∧ cRow a b = cRow (a.drop i) (b.drop i)) 0 0 ⟨Nat.zero_le _, Nat.zero_le _, rfl⟩ (fun _ => rfl) ⟨rfl, rfl, rfl, rfl, by rw [← hma]; rfl, rfl, trivial⟩ rfl (fun i hi => ?_) (fun i hi => ?_)
  · simp [UnderK, UnderX, V.under, V.underL]
  obtain ⟨hi, hj, hc⟩ := hi
  rcases Nat.lt_or_ge i a.length with hlt | hge
  · rcases Nat.lt_or_ge i b.length with hlb | hgb
    · rw [List.drop_eq_getElem_cons hlt, List.drop_eq_getElem_cons hlb, cRow_cons] at hc
      have hga : (a.map Val.toV)[i]? = some (Val.toV a[i]) := by simp [hlt]
      have hgb : (b.map Val.toV)[i]? = some (Val.toV b[i]) := by simp [hlb]
      have hE := fun t => hp a[i] b[i] t
      generalize a[i] = x at hga hc hE
      generalize b[i] = y at hgb hc hE
      obtain ⟨x0, x1, x2⟩ := x
      obtain ⟨y0, y1, y2⟩ := y
      generalize cVal _ _ = n at hc hE
      by_cases e : n = 0
      · rw [thn, if_pos e] at hc
        repeat' first
          | (refine kOps ?_; first | (refine LOps.nil ?_) | (refine kStore ?_; refine LOps.storeP tT_ok rfl rfl rfl rfl rfl rfl rfl rfl rfl ?_) | (refine LOps.ev tT_ok rfl ?_) | (refine kAlloc ?_; refine LOps.alloc tT_ok rfl rfl rfl rfl ?_) | (refine kLoad ?_; first | (refine LOps.ans (AnsL.loadP tT_ok rfl rfl rfl rfl) ?_)) | (refine kLen ?_; first | (refine LOps.ans (AnsL.lenM tT_ok rfl rfl rfl) ?_)) | (refine kBin ?_; first | (refine LOps.ans (AnsL.add rfl rfl ?_) ?_; (focus (constructor <;> omega)))) | (refine kIdx ?_; first | (refine LOps.ans (AnsL.idx tT_ok rfl rfl rfl rfl rfl hga rfl rfl) ?_) | (refine LOps.ans (AnsL.idx tT_ok rfl rfl rfl rfl rfl hgb rfl rfl) ?_)) | (refine kCall ?_; first | (refine LOps.ans (AnsL.callP rfl rfl rfl (hg) (hE _)) ?_)))
          | (refine kWL ?_; first | (refine WL.seq ?_) | (refine WL.region (by kernel_rfl) ?_) | (refine WL.block ?_) | (refine WL.skip ?_) | (refine kCond ?_; first | (refine WL.condT' rfl ?_ ?_; (focus (first | (simp only [decide_eq_true_eq, decide_eq_false_iff_not, Bool.not_eq_true', Bool.not_eq_false', Int.ofNat_lt, Int.ofNat_le, Int.ofNat_inj, not_true_eq_false, not_false_eq_true]; omega)))) | (refine WL.condF' rfl ?_ ?_; (focus (first | (simp only [decide_eq_true_eq, decide_eq_false_iff_not, Bool.not_eq_true', Bool.not_eq_false', Int.ofNat_lt, Int.ofNat_le, Int.ofNat_inj, not_true_eq_false, not_false_eq_true]; omega))))))
          | (refine lthen_n ?_)
          | (refine lblock_n ?_)
        all_goals
          refine lbackD.of (i + 1) ?_ ?_ ?_ ?_
          · first | omega | (refine ⟨?_, ?_⟩; (focus (first | omega | (simp; omega))); (first | omega | (simp_all [hc] <;> fail) | (simp_all [hc]; omega))) | (simp_all [hc] <;> fail) | (simp_all [hc]; omega)
          · first | omega | (simp; omega) | simp_all
          · repeat' first
              | exact SubL.nil
              | (refine SubL.mk rfl ?_ ?_)
              | rfl
              | (simp [hc] <;> fail)
              | (simp [hc]; omega)
          · first | rfl | (simp [hc] <;> fail) | (simp [hc]; omega)
      · rw [thn, if_neg e] at hc
        repeat' first
          | (refine kOps ?_; first | (refine LOps.nil ?_) | (refine kStore ?_; refine LOps.storeP tT_ok rfl rfl rfl rfl rfl rfl rfl rfl rfl ?_) | (refine LOps.ev tT_ok rfl ?_) | (refine kAlloc ?_; refine LOps.alloc tT_ok rfl rfl rfl rfl ?_) | (refine kLoad ?_; first | (refine LOps.ans (AnsL.loadP tT_ok rfl rfl rfl rfl) ?_)) | (refine kLen ?_; first | (refine LOps.ans (AnsL.lenM tT_ok rfl rfl rfl) ?_)) | (refine kIdx ?_; first | (refine LOps.ans (AnsL.idx tT_ok rfl rfl rfl rfl rfl hga rfl rfl) ?_) | (refine LOps.ans (AnsL.idx tT_ok rfl rfl rfl rfl rfl hgb rfl rfl) ?_)) | (refine kCall ?_; first | (refine LOps.ans (AnsL.callP rfl rfl rfl (hg) (hE _)) ?_)))
          | (refine kWL ?_; first | (refine WL.seq ?_) | (refine WL.region (by kernel_rfl) ?_) | (refine WL.block ?_) | (refine WL.skip ?_) | (refine WL.ret ?_) | (refine kCond ?_; first | (refine WL.condT' rfl ?_ ?_; (focus (first | (simp only [decide_eq_true_eq, decide_eq_false_iff_not, Bool.not_eq_true', Bool.not_eq_false', Int.ofNat_lt, Int.ofNat_le, Int.ofNat_inj, not_true_eq_false, not_false_eq_true]; omega)))) | (refine WL.condF' rfl ?_ ?_; (focus (first | (simp only [decide_eq_true_eq, decide_eq_false_iff_not, Bool.not_eq_true', Bool.not_eq_false', Int.ofNat_lt, Int.ofNat_le, Int.ofNat_inj, not_true_eq_false, not_false_eq_true]; omega))))))
          | (refine lthen_n ?_)
          | (refine lthen_r ?_)
          | (refine lblock_r ?_)
          | (refine lbackD_r ?_)
          | (refine LPost.r1 (r := .tmp 6) (.inl rfl) (Res1.tmp rfl) ?_)
          | (refine PureR.mk ?_)
        rw [hc]; rfl
    · have hga : (a.map Val.toV)[i]? = some (Val.toV a[i]) := by simp [hlt]
      rw [List.drop_eq_getElem_cons hlt, List.drop_of_length_le hgb] at hc
      generalize a[i] = x at hga hc
      obtain ⟨x0, x1, x2⟩ := x
      repeat' first
        | (refine kOps ?_; first | (refine LOps.nil ?_) | (refine kStore ?_; refine LOps.storeP tT_ok rfl rfl rfl rfl rfl rfl rfl rfl rfl ?_) | (refine LOps.ev tT_ok rfl ?_) | (refine kAlloc ?_; refine LOps.alloc tT_ok rfl rfl rfl rfl ?_) | (refine kLen ?_; first | (refine LOps.ans (AnsL.lenM tT_ok rfl rfl rfl) ?_)) | (refine kIdx ?_; first | (refine LOps.ans (AnsL.idx tT_ok rfl rfl rfl rfl rfl hga rfl rfl) ?_)))
        | (refine kWL ?_; first | (refine WL.seq ?_) | (refine WL.region (by kernel_rfl) ?_) | (refine WL.block ?_) | (refine WL.skip ?_) | (refine WL.ret ?_) | (refine kCond ?_; first | (refine WL.condT' rfl ?_ ?_; (focus (first | (simp only [decide_eq_true_eq, decide_eq_false_iff_not, Bool.not_eq_true', Bool.not_eq_false', Int.ofNat_lt, Int.ofNat_le, Int.ofNat_inj, not_true_eq_false, not_false_eq_true]; omega))))))
        | (refine lthen_n ?_)
        | (refine lthen_r ?_)
        | (refine lblock_r ?_)
        | (refine lbackD_r ?_)
        | (refine LPost.r1 (r := .tmp 6) (.inl rfl) (Res1.tmp rfl) ?_)
        | (refine PureR.mk ?_)
      rw [hc]; rfl
  · rw [List.drop_of_length_le hge] at hc
    have hie : i = a.length := by omega
    by_cases hab : a.length < b.length
    · rw [List.drop_eq_getElem_cons (by omega : i < b.length)] at hc
      have hab' : (a.length : Int) < b.length := by omega
      repeat' first
        | (refine kOps ?_; first | (refine LOps.nil ?_) | (refine LOps.ev tT_ok rfl ?_) | (refine kLen ?_; first | (refine LOps.ans (AnsL.lenM tT_ok rfl rfl rfl) ?_)))
        | (refine kWL ?_; first | (refine WL.seq ?_) | (refine WL.region (by kernel_rfl) ?_) | (refine WL.exit ?_) | (refine WL.ret ?_) | (refine kCond ?_; first | (refine WL.condT' rfl ?_ ?_; (focus (first | (exact decide_eq_true (by assumption))))) | (refine WL.condF' rfl ?_ ?_; (focus (first | (simp only [decide_eq_true_eq, decide_eq_false_iff_not, Bool.not_eq_true', Bool.not_eq_false', Int.ofNat_lt, Int.ofNat_le, Int.ofNat_inj, not_true_eq_false, not_false_eq_true]; omega))))))
        | (refine lthen_n ?_)
        | (refine lthen_r ?_)
        | (refine lthen_e ?_)
        | (refine lblock_e ?_)
        | (refine lbackD_e ?_)
        | (refine LPost.r1 (r := .tmp 6) (.inl rfl) (Res1.tmp rfl) ?_)
        | (refine PureR.mk ?_)
      rw [hc]; rfl
    · rw [List.drop_of_length_le (by omega)] at hc
      have hab' : ¬ (a.length : Int) < b.length := by omega
      repeat' first
        | (refine kOps ?_; first | (refine LOps.nil ?_) | (refine LOps.ev tT_ok rfl ?_) | (refine kLen ?_; first | (refine LOps.ans (AnsL.lenM tT_ok rfl rfl rfl) ?_)))
        | (refine kWL ?_; first | (refine WL.seq ?_) | (refine WL.region (by kernel_rfl) ?_) | (refine WL.exit ?_) | (refine WL.skip ?_) | (refine WL.ret ?_) | (refine kCond ?_; first | (refine WL.condF' rfl ?_ ?_; (focus (first | (exact decide_eq_false (by assumption)) | (simp only [decide_eq_true_eq, decide_eq_false_iff_not, Bool.not_eq_true', Bool.not_eq_false', Int.ofNat_lt, Int.ofNat_le, Int.ofNat_inj, not_true_eq_false, not_false_eq_true]; omega))))))
        | (refine lthen_n ?_)
        | (refine lthen_e ?_)
        | (refine lblock_e ?_)
        | (refine lbackD_e ?_)
        | (refine LPost.r1 (r := .tmp 6) (.inl rfl) (Res1.tmp rfl) ?_)
        | (refine PureR.mk ?_)
      rw [hc]; rfl
theorem implOrderRow_v (a b : List Val) (h1 : a.length ≤ 1048576) (h2 : b.length ≤ 1048576) (s : S) : VCalls Try.prog 25 [Val.toVS a, Val.toVS b] s (fun v s' => v = .int .i64 (cRow a b) ∧ s' = s) := by
  have hC := fun t => compareFunc_v 31 ok31 (fun x y t => implOrder_v x y t) a b h1 h2 t
  refine LCalls.pure Try.func25 rfl (by kernel_rfl) (by simp) ?_
  repeat' first
    | (refine kOps ?_; first | (refine LOps.nil ?_) | (refine LOps.ev tT_ok rfl ?_) | (refine kCallN 30 ?_; first | (refine LOps.ans (AnsL.callP rfl rfl rfl (ok30) (hC _)) ?_)))
    | (refine kWL ?_; first | (refine WL.seq ?_) | (refine WL.region (by kernel_rfl) ?_) | (refine WL.ret ?_))
    | (refine lthen_n ?_)
    | (refine LPost.r1 (r := .tmp 4) (.inl rfl) (Res1.tmp rfl) ?_)
    | (refine PureR.mk ?_)
  rfl
theorem specOrder_v (a b : Val) (s : S) : VCalls Try.prog 27 [a.toV, b.toV] s (fun v s' => v = .int .i64 (cVal a b) ∧ s' = s) := by
  obtain ⟨k, n, t⟩ := a
  obtain ⟨k', n', t'⟩ := b
  unfold cVal cI thn cT
  dsimp only
  by_cases a1 : k < k'
  · skip
    refine LCalls.pure Try.func27 rfl (by kernel_rfl) (by simp) ?_
    repeat' first
      | (refine kOps ?_; first | (refine LOps.nil ?_) | (refine LOps.ev tT_ok rfl ?_) | (refine kBox ?_; refine LOps.box rfl rfl rfl rfl ?_) | (refine kLoad ?_; first | (refine LOps.ans (AnsL.loadP tT_ok rfl rfl rfl rfl) ?_)))
      | (refine kWL ?_; first | (refine WL.seq ?_) | (refine WL.region (by kernel_rfl) ?_) | (refine WL.block ?_) | (refine WL.ret ?_) | (refine kCond ?_; first | (refine WL.condT' rfl ?_ ?_; (focus (first | (exact decide_eq_true (by assumption)))))))
      | (refine lthen_n ?_)
      | (refine lthen_r ?_)
      | (refine lblock_r ?_)
      | (refine LPost.r1 (r := .tmp 4) (.inl rfl) (Res1.tmp rfl) ?_)
      | (refine PureR.mk ?_)
    simp [a1]
  by_cases a2 : k' < k
  · skip
    refine LCalls.pure Try.func27 rfl (by kernel_rfl) (by simp) ?_
    repeat' first
      | (refine kOps ?_; first | (refine LOps.nil ?_) | (refine LOps.ev tT_ok rfl ?_) | (refine kBox ?_; refine LOps.box rfl rfl rfl rfl ?_) | (refine kLoad ?_; first | (refine LOps.ans (AnsL.loadP tT_ok rfl rfl rfl rfl) ?_)))
      | (refine kWL ?_; first | (refine WL.seq ?_) | (refine WL.region (by kernel_rfl) ?_) | (refine WL.block ?_) | (refine WL.ret ?_) | (refine kCond ?_; first | (refine WL.condT' rfl ?_ ?_; (focus (first | (exact decide_eq_true (by assumption))))) | (refine WL.condF' rfl ?_ ?_; (focus (first | (exact decide_eq_false (by assumption)))))))
      | (refine lthen_n ?_)
      | (refine lthen_r ?_)
      | (refine lblock_r ?_)
      | (refine LPost.r1 (r := .tmp 4) (.inl rfl) (Res1.tmp rfl) ?_)
      | (refine PureR.mk ?_)
    simp [a1, a2]
  by_cases b1 : n < n'
  · skip
    refine LCalls.pure Try.func27 rfl (by kernel_rfl) (by simp) ?_
    repeat' first
      | (refine kOps ?_; first | (refine LOps.nil ?_) | (refine LOps.ev tT_ok rfl ?_) | (refine kBox ?_; refine LOps.box rfl rfl rfl rfl ?_) | (refine kLoad ?_; first | (refine LOps.ans (AnsL.loadP tT_ok rfl rfl rfl rfl) ?_)))
      | (refine kWL ?_; first | (refine WL.seq ?_) | (refine WL.region (by kernel_rfl) ?_) | (refine WL.block ?_) | (refine WL.ret ?_) | (refine kCond ?_; first | (refine WL.condT' rfl ?_ ?_; (focus (first | (exact decide_eq_true (by assumption))))) | (refine WL.condF' rfl ?_ ?_; (focus (first | (exact decide_eq_false (by assumption)))))))
      | (refine lthen_n ?_)
      | (refine lthen_r ?_)
      | (refine lblock_r ?_)
      | (refine LPost.r1 (r := .tmp 4) (.inl rfl) (Res1.tmp rfl) ?_)
      | (refine PureR.mk ?_)
    simp [a1, a2, b1]
  by_cases b2 : n' < n
  · skip
    refine LCalls.pure Try.func27 rfl (by kernel_rfl) (by simp) ?_
    repeat' first
      | (refine kOps ?_; first | (refine LOps.nil ?_) | (refine LOps.ev tT_ok rfl ?_) | (refine kBox ?_; refine LOps.box rfl rfl rfl rfl ?_) | (refine kLoad ?_; first | (refine LOps.ans (AnsL.loadP tT_ok rfl rfl rfl rfl) ?_)))
      | (refine kWL ?_; first | (refine WL.seq ?_) | (refine WL.region (by kernel_rfl) ?_) | (refine WL.block ?_) | (refine WL.ret ?_) | (refine kCond ?_; first | (refine WL.condT' rfl ?_ ?_; (focus (first | (exact decide_eq_true (by assumption))))) | (refine WL.condF' rfl ?_ ?_; (focus (first | (exact decide_eq_false (by assumption)))))))
      | (refine lthen_n ?_)
      | (refine lthen_r ?_)
      | (refine lblock_r ?_)
      | (refine LPost.r1 (r := .tmp 4) (.inl rfl) (Res1.tmp rfl) ?_)
      | (refine PureR.mk ?_)
    simp [a1, a2, b1, b2]
  cases h1 : Op.bytesLess t t'
  · by_cases h2 : t = t'
    · have h3 : (!(Op.bytesLess t t' || decide (t = t'))) = false := by simp [h2]
      refine LCalls.pure Try.func27 rfl (by kernel_rfl) (by simp) ?_
      repeat' first
        | (refine kOps ?_; first | (refine LOps.nil ?_) | (refine LOps.ev tT_ok rfl ?_) | (refine kBox ?_; refine LOps.box rfl rfl rfl rfl ?_) | (refine kLoad ?_; first | (refine LOps.ans (AnsL.loadP tT_ok rfl rfl rfl rfl) ?_)))
        | (refine kWL ?_; first | (refine WL.seq ?_) | (refine WL.region (by kernel_rfl) ?_) | (refine WL.block ?_) | (refine WL.skip ?_) | (refine WL.ret ?_) | (refine kCond ?_; first | (refine WL.condF' rfl ?_ ?_; (focus (first | (assumption) | (exact decide_eq_false (by assumption)))))))
        | (refine lthen_n ?_)
        | (refine lblock_n ?_)
        | (refine LPost.r1 (r := .tmp 4) (.inl rfl) (Res1.tmp rfl) ?_)
        | (refine PureR.mk ?_)
      simp [a1, a2, b1, b2, h1, h2]
    · have h3 : (!(Op.bytesLess t t' || decide (t = t'))) = true := by simp [h1, h2]
      refine LCalls.pure Try.func27 rfl (by kernel_rfl) (by simp) ?_
      repeat' first
        | (refine kOps ?_; first | (refine LOps.nil ?_) | (refine LOps.ev tT_ok rfl ?_) | (refine kBox ?_; refine LOps.box rfl rfl rfl rfl ?_) | (refine kLoad ?_; first | (refine LOps.ans (AnsL.loadP tT_ok rfl rfl rfl rfl) ?_)))
        | (refine kWL ?_; first | (refine WL.seq ?_) | (refine WL.region (by kernel_rfl) ?_) | (refine WL.block ?_) | (refine WL.ret ?_) | (refine kCond ?_; first | (refine WL.condT' rfl ?_ ?_; (focus (first | (assumption)))) | (refine WL.condF' rfl ?_ ?_; (focus (first | (assumption) | (exact decide_eq_false (by assumption)))))))
        | (refine lthen_n ?_)
        | (refine lthen_r ?_)
        | (refine lblock_r ?_)
        | (refine LPost.r1 (r := .tmp 4) (.inl rfl) (Res1.tmp rfl) ?_)
        | (refine PureR.mk ?_)
      simp [a1, a2, b1, b2, h1, h2]
  · skip
    refine LCalls.pure Try.func27 rfl (by kernel_rfl) (by simp) ?_
    repeat' first
      | (refine kOps ?_; first | (refine LOps.nil ?_) | (refine LOps.ev tT_ok rfl ?_) | (refine kBox ?_; refine LOps.box rfl rfl rfl rfl ?_) | (refine kLoad ?_; first | (refine LOps.ans (AnsL.loadP tT_ok rfl rfl rfl rfl) ?_)))
      | (refine kWL ?_; first | (refine WL.seq ?_) | (refine WL.region (by kernel_rfl) ?_) | (refine WL.block ?_) | (refine WL.ret ?_) | (refine kCond ?_; first | (refine WL.condT' rfl ?_ ?_; (focus (first | (assumption)))) | (refine WL.condF' rfl ?_ ?_; (focus (first | (exact decide_eq_false (by assumption)))))))
      | (refine lthen_n ?_)
      | (refine lthen_r ?_)
      | (refine lblock_r ?_)
      | (refine LPost.r1 (r := .tmp 4) (.inl rfl) (Res1.tmp rfl) ?_)
      | (refine PureR.mk ?_)
    simp [a1, a2, b1, b2, h1]
theorem specOrderRow_v (a b : List Val) (h1 : a.length ≤ 1048576) (h2 : b.length ≤ 1048576) (s : S) : VCalls Try.prog 18 [Val.toVS a, Val.toVS b] s (fun v s' => v = .int .i64 (cRow a b) ∧ s' = s) := by
  have hma : (a.map Val.toV).length = a.length := List.length_map ..
  have hmb : (b.map Val.toV).length = b.length := List.length_map ..
  unfold Val.toVS
  refine LCalls.pure Try.func18 rfl (by kernel_rfl) (by simp) ?_
  repeat' first
    | (refine kOps ?_; first | (refine LOps.nil ?_) | (refine LOps.ev tT_ok rfl ?_))
    | (refine kWL ?_; first | (refine WL.seq ?_) | (refine WL.region (by kernel_rfl) ?_) | (refine WL.block ?_))
    | (refine lthen_n ?_)
  refine WL.loopD (fun i : Nat => a.length - i) (fun i => [(0, .sl 0 (a.map Val.toV)), (1, .sl 0 (b.map Val.toV)), (5, .int .i64 (i : Int))]) (fun i => [])
    (fun i => i ≤ a.length ∧ i ≤ b.length ∧ cRow a b = cRow (a.drop i) (b.drop i)) 0 0 ⟨Nat.zero_le _, Nat.zero_le _, rfl⟩ (fun _ => rfl) ⟨rfl, rfl, rfl, trivial⟩ rfl (fun i hi => ?_) (fun i hi => ?_)
  · simp [UnderK, UnderX, V.under, V.underL]
  obtain ⟨hi, hj, hc⟩ := hi
  rcases Nat.lt_or_ge i a.length with hlt | hge
  · rcases Nat.lt_or_ge i b.length with hlb | hgb
    · rw [List.drop_eq_getElem_cons hlt, List.drop_eq_getElem_cons hlb, cRow_cons] at hc
      have hga : (a.map Val.toV)[i]? = some (Val.toV a[i]) := by simp [hlt]
      have hgb : (b.map Val.toV)[i]? = some (Val.toV b[i]) := by simp [hlb]
      have hE := fun t => specOrder_v a[i] b[i] t
      generalize a[i] = x at hga hc hE
      generalize b[i] = y at hgb hc hE
      obtain ⟨x0, x1, x2⟩ := x
      obtain ⟨y0, y1, y2⟩ := y
      generalize cVal _ _ = n at hc hE
      by_cases e : n = 0
      · rw [thn, if_pos e] at hc
        repeat' first
          | (refine kOps ?_; first | (refine LOps.nil ?_) | (refine kG ?_; first | (refine LOps.gT rfl rfl rfl ?_) | (refine LOps.gD true rfl rfl rfl ?_ ?_; (focus (first | (simp only [decide_eq_true_eq, decide_eq_false_iff_not, Bool.not_eq_true', Bool.not_eq_false', Int.ofNat_lt, Int.ofNat_le, Int.ofNat_inj, not_true_eq_false, not_false_eq_true]; omega))))) | (refine LOps.ev tT_ok rfl ?_) | (refine kLen ?_; first | (refine LOps.ans (AnsL.lenM tT_ok rfl rfl rfl) ?_)) | (refine kBin ?_; first | (refine LOps.ans (AnsL.add rfl rfl ?_) ?_; (focus (constructor <;> omega)))))
          | (refine kWL ?_; first | (refine WL.seq ?_) | (refine WL.region (by kernel_rfl) ?_) | (refine WL.drawn (id := 4) [0, 1, 2, 3, 4, 5, 6, 7, 8, 9] [] [[], [], [0, 1], [0, 1, 2], [], [], [4, 5], [4, 5, 6], [0, 1, 2, 3, 4, 5, 6, 7], [0, 1, 2, 3, 4, 5, 6, 7, 8]] (by kernel_rfl) (by kernel_rfl) ?_) | (refine WL.block ?_) | (refine WL.skip ?_) | (refine kCond ?_; first | (refine WL.condT' rfl ?_ ?_; (focus (first | (simp only [decide_eq_true_eq, decide_eq_false_iff_not, Bool.not_eq_true', Bool.not_eq_false', Int.ofNat_lt, Int.ofNat_le, Int.ofNat_inj, not_true_eq_false, not_false_eq_true]; omega)))) | (refine WL.condF' rfl ?_ ?_; (focus (first | (simp only [decide_eq_true_eq, decide_eq_false_iff_not, Bool.not_eq_true', Bool.not_eq_false', Int.ofNat_lt, Int.ofNat_le, Int.ofNat_inj, not_true_eq_false, not_false_eq_true]; omega))))))
          | (refine kDr ?_; first | (refine LDr.nil ?_) | (refine LDr.fl rfl rfl (.ev tT_ok rfl) ?_) | (refine kDIdx rfl ?_; first | (refine LDr.fl rfl rfl (AnsL.idx tT_ok rfl rfl rfl rfl rfl hga rfl rfl) ?_) | (refine LDr.fl rfl rfl (AnsL.idx tT_ok rfl rfl rfl rfl rfl hgb rfl rfl) ?_)) | (refine kDCallN 27 rfl ?_; first | (refine LDr.fl rfl rfl (AnsL.callP rfl rfl rfl (ok27) (hE _)) ?_)))
          | (refine lthen_n ?_)
          | (refine lblock_n ?_)
        all_goals
          refine lbackD.of (i + 1) ?_ ?_ ?_ ?_
          · first | omega | (refine ⟨?_, ?_⟩; (focus (first | omega | (simp; omega))); (first | omega | (simp_all [hc] <;> fail) | (simp_all [hc]; omega))) | (simp_all [hc] <;> fail) | (simp_all [hc]; omega)
          · first | omega | (simp; omega) | simp_all
          · repeat' first
              | exact SubL.nil
              | (refine SubL.mk rfl ?_ ?_)
              | rfl
              | (simp [hc] <;> fail)
              | (simp [hc]; omega)
          · first | rfl | (simp [hc] <;> fail) | (simp [hc]; omega)
      · rw [thn, if_neg e] at hc
        repeat' first
          | (refine kOps ?_; first | (refine LOps.nil ?_) | (refine kG ?_; first | (refine LOps.gT rfl rfl rfl ?_) | (refine LOps.gD true rfl rfl rfl ?_ ?_; (focus (first | (simp only [decide_eq_true_eq, decide_eq_false_iff_not, Bool.not_eq_true', Bool.not_eq_false', Int.ofNat_lt, Int.ofNat_le, Int.ofNat_inj, not_true_eq_false, not_false_eq_true]; omega))))) | (refine LOps.ev tT_ok rfl ?_) | (refine kLen ?_; first | (refine LOps.ans (AnsL.lenM tT_ok rfl rfl rfl) ?_)))
          | (refine kWL ?_; first | (refine WL.seq ?_) | (refine WL.region (by kernel_rfl) ?_) | (refine WL.drawn (id := 4) [0, 1, 2, 3, 4, 5, 6, 7, 8, 9] [] [[], [], [0, 1], [0, 1, 2], [], [], [4, 5], [4, 5, 6], [0, 1, 2, 3, 4, 5, 6, 7], [0, 1, 2, 3, 4, 5, 6, 7, 8]] (by kernel_rfl) (by kernel_rfl) ?_) | (refine WL.block ?_) | (refine WL.skip ?_) | (refine WL.ret ?_) | (refine kCond ?_; first | (refine WL.condT' rfl ?_ ?_; (focus (first | (simp only [decide_eq_true_eq, decide_eq_false_iff_not, Bool.not_eq_true', Bool.not_eq_false', Int.ofNat_lt, Int.ofNat_le, Int.ofNat_inj, not_true_eq_false, not_false_eq_true]; omega))))))
          | (refine kDr ?_; first | (refine LDr.nil ?_) | (refine LDr.fl rfl rfl (.ev tT_ok rfl) ?_) | (refine kDIdx rfl ?_; first | (refine LDr.fl rfl rfl (AnsL.idx tT_ok rfl rfl rfl rfl rfl hga rfl rfl) ?_) | (refine LDr.fl rfl rfl (AnsL.idx tT_ok rfl rfl rfl rfl rfl hgb rfl rfl) ?_)) | (refine kDCallN 27 rfl ?_; first | (refine LDr.fl rfl rfl (AnsL.callP rfl rfl rfl (ok27) (hE _)) ?_)))
          | (refine lthen_n ?_)
          | (refine lthen_r ?_)
          | (refine lblock_r ?_)
          | (refine lbackD_r ?_)
          | (refine LPost.r1 (r := .tmp 4) (.inl rfl) (Res1.tmp rfl) ?_)
          | (refine PureR.mk ?_)
        rw [hc]; rfl
    · rw [List.drop_eq_getElem_cons hlt, List.drop_of_length_le hgb] at hc
      have e1 : ¬ (a.length : Int) < b.length := by omega
      have e2 : (b.length : Int) < a.length := by omega
      repeat' first
        | (refine kOps ?_; first | (refine LOps.nil ?_) | (refine kG ?_; first | (refine LOps.gT rfl rfl rfl ?_) | (refine LOps.gD true rfl rfl rfl ?_ ?_; (focus (first | (simp only [decide_eq_true_eq, decide_eq_false_iff_not, Bool.not_eq_true', Bool.not_eq_false', Int.ofNat_lt, Int.ofNat_le, Int.ofNat_inj, not_true_eq_false, not_false_eq_true]; omega))))) | (refine LOps.ev tT_ok rfl ?_) | (refine kLen ?_; first | (refine LOps.ans (AnsL.lenM tT_ok rfl rfl rfl) ?_)))
        | (refine kWL ?_; first | (refine WL.seq ?_) | (refine WL.region (by kernel_rfl) ?_) | (refine WL.block ?_) | (refine WL.exit ?_) | (refine WL.ret ?_) | (refine kCond ?_; first | (refine WL.condT' rfl ?_ ?_; (focus (first | (exact decide_eq_true (by assumption))))) | (refine WL.condF' rfl ?_ ?_; (focus (first | (exact decide_eq_false (by assumption)) | (simp only [decide_eq_true_eq, decide_eq_false_iff_not, Bool.not_eq_true', Bool.not_eq_false', Int.ofNat_lt, Int.ofNat_le, Int.ofNat_inj, not_true_eq_false, not_false_eq_true]; omega))))))
        | (refine lthen_n ?_)
        | (refine lthen_r ?_)
        | (refine lthen_e ?_)
        | (refine lblock_r ?_)
        | (refine lblock_e ?_)
        | (refine lbackD_e ?_)
        | (refine LPost.r1 (r := .tmp 4) (.inl rfl) (Res1.tmp rfl) ?_)
        | (refine PureR.mk ?_)
      rw [hc]; rfl
  · rw [List.drop_of_length_le hge] at hc
    have hie : i = a.length := by omega
    by_cases hab : a.length < b.length
    · rw [List.drop_eq_getElem_cons (by omega : i < b.length)] at hc
      have hab' : (a.length : Int) < b.length := by omega
      repeat' first
        | (refine kOps ?_; first | (refine LOps.nil ?_) | (refine kG ?_; first | (refine LOps.gF rfl rfl rfl ?_) | (refine LOps.gD false rfl rfl rfl ?_ ?_; (focus (first | (simp only [decide_eq_true_eq, decide_eq_false_iff_not, Bool.not_eq_true', Bool.not_eq_false', Int.ofNat_lt, Int.ofNat_le, Int.ofNat_inj, not_true_eq_false, not_false_eq_true]; omega))))) | (refine LOps.ev tT_ok rfl ?_) | (refine kLen ?_; first | (refine LOps.ans (AnsL.lenM tT_ok rfl rfl rfl) ?_)))
        | (refine kWL ?_; first | (refine WL.seq ?_) | (refine WL.region (by kernel_rfl) ?_) | (refine WL.block ?_) | (refine WL.exit ?_) | (refine WL.ret ?_) | (refine kCond ?_; first | (refine WL.condF rfl ?_) | (refine WL.condT' rfl ?_ ?_; (focus (first | (exact decide_eq_true (by assumption)))))))
        | (refine lthen_n ?_)
        | (refine lthen_r ?_)
        | (refine lthen_e ?_)
        | (refine lblock_r ?_)
        | (refine lblock_e ?_)
        | (refine lbackD_e ?_)
        | (refine LPost.r1 (r := .tmp 4) (.inl rfl) (Res1.tmp rfl) ?_)
        | (refine PureR.mk ?_)
      rw [hc]; rfl
    · rw [List.drop_of_length_le (by omega)] at hc
      have hab' : ¬ (a.length : Int) < b.length := by omega
      have hab2 : ¬ (b.length : Int) < a.length := by omega
      repeat' first
        | (refine kOps ?_; first | (refine LOps.nil ?_) | (refine kG ?_; first | (refine LOps.gF rfl rfl rfl ?_) | (refine LOps.gD false rfl rfl rfl ?_ ?_; (focus (first | (simp only [decide_eq_true_eq, decide_eq_false_iff_not, Bool.not_eq_true', Bool.not_eq_false', Int.ofNat_lt, Int.ofNat_le, Int.ofNat_inj, not_true_eq_false, not_false_eq_true]; omega))))) | (refine LOps.ev tT_ok rfl ?_) | (refine kLen ?_; first | (refine LOps.ans (AnsL.lenM tT_ok rfl rfl rfl) ?_)))
        | (refine kWL ?_; first | (refine WL.seq ?_) | (refine WL.region (by kernel_rfl) ?_) | (refine WL.block ?_) | (refine WL.exit ?_) | (refine WL.skip ?_) | (refine WL.ret ?_) | (refine kCond ?_; first | (refine WL.condF rfl ?_) | (refine WL.condF' rfl ?_ ?_; (focus (first | (exact decide_eq_false (by assumption)))))))
        | (refine lthen_n ?_)
        | (refine lthen_e ?_)
        | (refine lblock_n ?_)
        | (refine lblock_e ?_)
        | (refine lbackD_e ?_)
        | (refine LPost.r1 (r := .tmp 4) (.inl rfl) (Res1.tmp rfl) ?_)
        | (refine PureR.mk ?_)
      rw [hc]; rfl

end Go.Proofs.Ytkkifdgnebbghaa
