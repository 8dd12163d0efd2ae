/-
  The decimal text of a number: strconv.Itoa by the library's contract, the program's Digits and the reference's. Own work; no condition.
-/
import Derived.Test.YtoededaekidbcaaDoorVFac
import Derived.Test.YtoededaekidbcaaDoorVTT
import Derived.Shelf.Strconv.Itoa3
namespace Go.Proofs
open Go.Shelf
def Tryd.laysItoa_ren : Go.Shelf.Ren := ⟨fun | 171 => 25 | 243 => 37 | 246 => 41 | 283 => 51 | 284 => 52 | 285 => 53 | 286 => 54 | 129 => 62 | 317 => 61 | 318 => 63 | 319 => 64 | 320 => 65 | 337 => 66 | 338 => 67 | n => n, fun | 3 => 3 | 9 => 9 | 2 => 2 | 4 => 4 | 171 => 97 | 0 => 0 | 53 => 98 | 37 => 28 | 5 => 5 | 173 => 101 | 212 => 119 | 51 => 120 | 20 => 20 | 213 => 121 | 46 => 73 | 232 => 125 | 233 => 126 | n => n, fun | 17 => 0 | 18 => 1 | 19 => 2 | n => n⟩
theorem Tryd.laysItoa : Go.Proofs.LaysM.n171 Tryd.prog Tryd.laysItoa_ren := {
  mixed := by kernel_rfl
  f129 := Tryd.func62.trans (congrArg some (by kernel_rfl))
  f171 := Tryd.func25.trans (congrArg some (by kernel_rfl))
  f243 := Tryd.func37.trans (congrArg some (by kernel_rfl))
  f246 := Tryd.func41.trans (congrArg some (by kernel_rfl))
  f283 := Tryd.func51.trans (congrArg some (by kernel_rfl))
  f284 := Tryd.func52.trans (congrArg some (by kernel_rfl))
  f285 := Tryd.func53.trans (congrArg some (by kernel_rfl))
  f286 := Tryd.func54.trans (congrArg some (by kernel_rfl))
  f317 := Tryd.func61.trans (congrArg some (by kernel_rfl))
  f318 := Tryd.func63.trans (congrArg some (by kernel_rfl))
  f319 := Tryd.func64.trans (congrArg some (by kernel_rfl))
  f320 := Tryd.func65.trans (congrArg some (by kernel_rfl))
  f337 := Tryd.func66.trans (congrArg some (by kernel_rfl))
  f338 := Tryd.func67.trans (congrArg some (by kernel_rfl))
  t0 := Tryd.underlying0
  a0 := Tryd.isAgg0
  z0 := Tryd.sizeOf0
  v0 := Tryd.zeroValue0
  t2 := Tryd.underlying2
  a2 := Tryd.isAgg2
  z2 := Tryd.sizeOf2
  v2 := Tryd.zeroValue2
  t3 := Tryd.underlying3
  a3 := Tryd.isAgg3
  z3 := Tryd.sizeOf3
  v3 := Tryd.zeroValue3
  t4 := Tryd.underlying4
  a4 := Tryd.isAgg4
  z4 := Tryd.sizeOf4
  v4 := Tryd.zeroValue4
  t5 := Tryd.underlying5
  a5 := Tryd.isAgg5
  z5 := Tryd.sizeOf5
  v5 := Tryd.zeroValue5
  t9 := Tryd.underlying9
  a9 := Tryd.isAgg9
  z9 := Tryd.sizeOf9
  v9 := Tryd.zeroValue9
  t20 := Tryd.underlying20
  a20 := Tryd.isAgg20
  z20 := Tryd.sizeOf20
  v20 := Tryd.zeroValue20
  t37 := Tryd.underlying28
  a37 := Tryd.isAgg28
  z37 := Tryd.sizeOf28
  v37 := Tryd.zeroValue28
  t46 := Tryd.underlying73
  a46 := Tryd.isAgg73
  z46 := Tryd.sizeOf73
  v46 := Tryd.zeroValue73
  t51 := Tryd.underlying120
  a51 := Tryd.isAgg120
  z51 := Tryd.sizeOf120
  v51 := Tryd.zeroValue120
  t53 := Tryd.underlying98
  a53 := Tryd.isAgg98
  z53 := Tryd.sizeOf98
  v53 := Tryd.zeroValue98
  t171 := Tryd.underlying97
  a171 := Tryd.isAgg97
  z171 := Tryd.sizeOf97
  v171 := Tryd.zeroValue97
  t173 := Tryd.underlying101
  a173 := Tryd.isAgg101
  z173 := Tryd.sizeOf101
  v173 := Tryd.zeroValue101
  t212 := Tryd.underlying119
  a212 := Tryd.isAgg119
  z212 := Tryd.sizeOf119
  v212 := Tryd.zeroValue119
  t213 := Tryd.underlying121
  a213 := Tryd.isAgg121
  z213 := Tryd.sizeOf121
  t232 := Tryd.underlying125
  a232 := Tryd.isAgg125
  z232 := Tryd.sizeOf125
  v232 := Tryd.zeroValue125
  t233 := Tryd.underlying126
  a233 := Tryd.isAgg126
  z233 := Tryd.sizeOf126
  v233 := Tryd.zeroValue126
  g17 := by kernel_rfl
  g18 := by kernel_rfl
  g19 := by kernel_rfl
  i0 := by kernel_rfl
  i2 := by kernel_rfl
  i3 := by kernel_rfl
  i4 := by kernel_rfl
  i5 := by kernel_rfl
  i9 := by kernel_rfl
  i20 := by kernel_rfl
  i37 := by kernel_rfl
  i46 := by kernel_rfl
  i51 := by kernel_rfl
  i53 := by kernel_rfl
  i171 := by kernel_rfl
  i173 := by kernel_rfl
  i212 := by kernel_rfl
  i232 := by kernel_rfl
  i233 := by kernel_rfl
  m17 := by kernel_rfl
  m18 := by kernel_rfl
  m19 := by kernel_rfl }
end Go.Proofs
namespace Go.Proofs.YtoededaekidbcaaDoor
open Go
set_option linter.unusedSimpArgs false
set_option linter.unusedVariables false

theorem gT : Tryd.prog.globalNamed "internal/strconv.uint64pow10" = some 0 := by kernel_rfl
theorem RelS.tabIs {E : Env} {s : S} (h : RelS E s) : Lib.TabIs Tryd.prog E.w "internal/strconv.uint64pow10" .u64 Lib.pow10Tab := by
  obtain ⟨⟨e, fr, h1⟩, _⟩ := h.tab _ _ rfl
  show World.var? _ _ _ = _
  unfold World.var?
  rw [gT]
  show (match E.w.heap[0]? with
      | some (.cells cs _ _) => some cs
      | _ => none) = _
  rw [h1]
  rfl
/-- What is drawn, and what is laid behind the heap, no state is told of. -/
theorem RelS.grown {s : S} (os : List Obj) : ∀ {E : Env}, RelS E s → ∃ E' : Env, E'.w = Sort.grow E.w os.toArray ∧ Step E s E' s ∧ RelS E' s := by
  induction os with
  | nil => intro E h; exact ⟨E, by simp, .refl _ _, h⟩
  | cons o os ih =>
    intro E h
    obtain ⟨a, b⟩ := step_raw h o
    obtain ⟨E', e, c, d⟩ := ih b
    refine ⟨E', ?_, a.trans c, d⟩
    rw [e]
    show Sort.grow (E.w.alloc o) _ = _
    rw [Sort.alloc_eq_grow, Sort.grow_grow]
    congr 1
    simp
theorem RelS.drewN {s : S} (k : Nat) : ∀ {E : Env}, RelS E s → ∃ E' : Env, E'.w = E.w.drewN k ∧ Step E s E' s ∧ RelS E' s := by
  induction k with
  | zero => intro E h; exact ⟨E, rfl, .refl _ _, h⟩
  | succ k ih =>
    intro E h
    obtain ⟨E', e, c, d⟩ := ih h
    obtain ⟨a, b⟩ := step_drew d
    refine ⟨E'.drew, ?_, c.trans a, b⟩
    show E'.w.drew = _
    rw [e]
    rfl
theorem nDig_le : ∀ (k u : Nat), u < 10 ^ (k + 1) → Lib.nDigits u ≤ k + 1
  | 0, u, h => by rw [Lib.nDigits_small (by omega)]; omega
  | k + 1, u, h => by
    by_cases hu : u < 10
    · rw [Lib.nDigits_small hu]; omega
    · rw [Lib.nDigits_big hu]
      have := nDig_le k (u / 10) (by rw [Nat.pow_succ] at h; omega)
      omega
theorem itoa_len (n : Int) (h0 : -9223372036854775808 ≤ n) (h1 : n ≤ 9223372036854775807) : (Lib.itoa n).length ≤ 21 := by
  have e : ∀ u : Nat, u ≤ 9223372036854775808 → (Lib.decDigits u).length ≤ 20 := fun u hu => by
    rw [Lib.decDigits_length]; exact nDig_le 19 u (by omega)
  unfold Lib.itoa
  split
  · rw [List.length_cons]; have := e n.natAbs (by omega); omega
  · have := e n.toNat (by omega); omega
theorem strconvItoa_v (n : Int) (s : S) : VCalls Tryd.prog 25 [.int .i64 n] s (fun v s' => v = .str (Lib.itoa n) ∧ s' = s) := by
  refine VCalls.wf fun hwf => ?_
  have hw : -9223372036854775808 ≤ n ∧ n ≤ 9223372036854775807 := by
    simpa [V.wf, IntKind.min, IntKind.max, IntKind.signed, IntKind.bits] using hwf
  intro E vals h1 h2
  cases h2 with
  | cons hv ht =>
    cases ht
    cases hv
    refine (Any.strconv_Itoa Tryd.laysItoa n hw.1 hw.2 E.w h1.tabIs).mono ?_
    rintro e w' ⟨rfl, k, os, rfl⟩
    obtain ⟨E1, e1, a1, b1⟩ := h1.drewN k
    obtain ⟨E2, e2, a2, b2⟩ := b1.grown os.toList
    refine ⟨E2, _, _, s, rfl, by rw [e2, e1], ⟨rfl, rfl⟩, b2, .str ?_, a1.trans a2⟩
    have := itoa_len n hw.1 hw.2
    exact le_maxLen (by omega)
theorem implDigits_v (n : Int) (s : S) : VCalls Tryd.prog 18 [.int .i64 n] s (fun v s' => v = .str (Lib.itoa n) ∧ s' = s) := by
  refine LCalls.pure Tryd.func18 rfl (by kernel_rfl) (by simp) ?_
  repeat' first
    | (refine kOps ?_; first | (refine LOps.nil ?_) | (refine LOps.ev tT_ok rfl ?_) | (refine kCallN 25 ?_; first | (refine LOps.ans (AnsL.callP rfl rfl rfl (ok25) (strconvItoa_v n _)) ?_)))
    | (refine kWL ?_; first | (refine WL.seq ?_) | (refine WL.region (by kernel_rfl) ?_) | (refine WL.skip ?_) | (refine WL.ret ?_) | (refine kCond ?_; first | (refine WL.condT rfl ?_) | (refine WL.condF rfl ?_) | (refine WL.condT' rfl ?_ ?_; (focus (first | (assumption) | (exact decide_eq_true (by assumption)) | (exact decide_eq_false (by assumption)) | (simp only [decide_eq_true_eq, decide_eq_false_iff_not, Bool.not_eq_true', Bool.not_eq_false', Int.ofNat_lt, Int.ofNat_le, Int.ofNat_inj, not_true_eq_false, not_false_eq_true]; omega) | (simp <;> fail)))) | (refine WL.condF' rfl ?_ ?_; (focus (first | (assumption) | (exact decide_eq_true (by assumption)) | (exact decide_eq_false (by assumption)) | (simp only [decide_eq_true_eq, decide_eq_false_iff_not, Bool.not_eq_true', Bool.not_eq_false', Int.ofNat_lt, Int.ofNat_le, Int.ofNat_inj, not_true_eq_false, not_false_eq_true]; omega) | (simp <;> fail)))) | (refine WL.cond rfl (fun h => ?_) (fun h => ?_))))
    | (refine lthen_n ?_)
    | (refine lthen_r ?_)
    | (refine lback_r ?_)
    | (refine lback_e ?_)
    | (refine lbackD_r ?_)
    | (refine lbackD_e ?_)
    | (refine lbackH_r ?_)
    | (refine lbackH_e ?_)
    | (refine LPost.r1 (r := .tmp 2) (.inl rfl) (Res1.tmp rfl) ?_)
    | (refine PureR.mk ?_)
  rfl

section
variable {P : Program} {L : Kn} {s : S} {tt : BT}
theorem AnsL.toStrI (ht : tt.ok P) {U T e : TypeId} {u t te : Ty} {x : Operand} {id : Nat} {us : List V} {bs : List UInt8} (hx : opd L x = some (.sl id us)) (hU : tt.get U = some u) (hku : u.kd = .slice e) (hT : tt.get T = some t) (hkt : t.kd = .string)
    (hte : tt.get e = some te) (hke : te.kd = .int .u8) (hsz : Nat.beq te.size 1 = true) (hb : vbytes us = some bs) : AnsL P (.convert U T x) L s (.str bs) :=
  .of fun σ hσ _ _ _ _ _ => by
    have h1 : te.size = 1 := Nat.eq_of_beq_eq_true hsz
    simp only [vop, opd_eq hσ hx, vconvert, vtoStr, ht.get hU, ht.get hT, hku, hkt, ht.get hte, hke, h1, if_true, elemsOf, hb, Option.bind_some, Option.map_some]
theorem AnsL.quoI {T U : TypeId} {x y : Operand} {k : IntKind} {m n : Int} (hx : opd L x = some (.int k m)) (hy : opd L y = some (.int k n)) (h : n ≠ 0) : AnsL P (.binOp .quo T x y U) L s (.int k (k.wrap (m.tdiv n))) :=
  .of fun σ hσ _ _ _ _ _ => by simp only [vop, opd_eq hσ hx, opd_eq hσ hy, vbin, vint, h, Option.bind_some, if_true, if_false, Option.map_some]
theorem AnsL.remI {T U : TypeId} {x y : Operand} {k : IntKind} {m n : Int} (hx : opd L x = some (.int k m)) (hy : opd L y = some (.int k n)) (h : n ≠ 0) : AnsL P (.binOp .rem T x y U) L s (.int k (m.tmod n)) :=
  .of fun σ hσ _ _ _ _ _ => by simp only [vop, opd_eq hσ hx, opd_eq hσ hy, vbin, vint, h, Option.bind_some, if_true, if_false, Option.map_some]
end
theorem catB {a b : List UInt8} (h1 : a.length ≤ 40) (h2 : b.length ≤ 40) : a.length + b.length ≤ maxLen := le_maxLen (by omega)
theorem decB (m : Nat) (h : 10 ≤ m) : Lib.decDigits m = Lib.decDigits (m / 10) ++ [UInt8.ofNat (48 + m % 10)] := by
  rw [Lib.decDigits, dif_neg (by omega)]
theorem decS (m : Nat) (h : m < 10) : Lib.decDigits m = [UInt8.ofNat (48 + m)] := Lib.decDigits_one h
theorem wrapU8 {x : Int} (h0 : 0 ≤ x) (h1 : x < 256) : IntKind.u8.wrap x = x := by
  simp only [IntKind.wrap, IntKind.bits, IntKind.signed]
  simp
  omega
theorem dig_inv {m : Int} {out D : List UInt8} (hm : m ≠ 0) (h : Lib.decDigits m.natAbs ++ out = D) (hD : D.length ≤ 20) (h4 : -9223372036854775808 ≤ m) (h5 : m ≤ 9223372036854775807) {q x : Int} (hq : q = m.tdiv 10) (hx : x = 48 + ((m.natAbs % 10 : Nat) : Int)) :
    ((q ≠ 0 → Lib.decDigits q.natAbs ++ (UInt8.ofNat x.toNat :: out) = D) ∧ (q = 0 → UInt8.ofNat x.toNat :: out = D) ∧ (UInt8.ofNat x.toNat :: out).length ≤ 20 ∧ -9223372036854775808 ≤ q ∧ q ≤ 9223372036854775807) ∧ q.natAbs < m.natAbs := by
  have hqa : q.natAbs = m.natAbs / 10 := by rw [hq, Int.natAbs_tdiv]; rfl
  have hxn : x.toNat = 48 + m.natAbs % 10 := by omega
  have hlt : q.natAbs < m.natAbs := by omega
  have e1 : q ≠ 0 → Lib.decDigits q.natAbs ++ (UInt8.ofNat x.toNat :: out) = D := fun h0 => by
    rw [← h, decB m.natAbs (by omega), hqa, hxn, List.append_assoc]; rfl
  have e2 : q = 0 → UInt8.ofNat x.toNat :: out = D := fun h0 => by
    have : m.natAbs < 10 := by omega
    rw [← h, decS m.natAbs this, hxn, Nat.mod_eq_of_lt this]; rfl
  refine ⟨⟨e1, e2, ?_, by omega, by omega⟩, hlt⟩
  by_cases h0 : q = 0
  · rw [e2 h0]; exact hD
  · have := e1 h0
    have hl := congrArg List.length this
    simp only [List.length_append] at hl
    omega
theorem specDigits_v (n : Int) (s : S) : VCalls Tryd.prog 17 [.int .i64 n] s (fun v s' => v = .str (Lib.itoa n) ∧ s' = s) := by
  refine VCalls.wf fun hwf => ?_
  have hw : -9223372036854775808 ≤ n ∧ n ≤ 9223372036854775807 := by
    simpa [V.wf, IntKind.min, IntKind.max, IntKind.signed, IntKind.bits] using hwf
  clear hwf
  have hlen := itoa_len n hw.1 hw.2
  refine LCalls.pure Tryd.func17 rfl (by kernel_rfl) (by simp) ?_
  by_cases h0 : n = 0
  · subst h0
    rw [show Lib.itoa 0 = [48] from by rw [Lib.itoa, if_neg (by omega)]; exact decS 0 (by omega)]
    repeat' first
      | (refine kOps ?_; first | (refine LOps.nil ?_) | (refine LOps.ev tT_ok rfl ?_) | (refine kBsl ?_; first | (refine LOps.bsl0 tT_ok rfl rfl rfl rfl rfl ?_) | (refine LOps.bsl tT_ok rfl rfl rfl rfl rfl rfl rfl rfl rfl rfl rfl ?_)) | (refine kBin ?_; first | (refine LOps.ans (AnsL.add rfl rfl ?_) ?_; (focus (constructor <;> omega))) | (refine LOps.ans (AnsL.sub rfl rfl ?_) ?_; (focus (constructor <;> omega))) | (refine LOps.ans (AnsL.arith rfl rfl rfl) ?_) | (refine LOps.ans (AnsL.cat rfl rfl ?_) ?_; (focus (first | omega | (simp; omega) | (simp <;> fail))))))
      | (refine kWL ?_; first | (refine WL.seq ?_) | (refine WL.region (by kernel_rfl) ?_) | (refine WL.block ?_) | (refine WL.exit ?_) | (refine WL.skip ?_) | (refine WL.ret ?_) | (refine kCond ?_; first | (refine WL.condT rfl ?_) | (refine WL.condF rfl ?_) | (refine WL.condT' rfl ?_ ?_; (focus (first | (assumption) | (exact decide_eq_true (by assumption)) | (exact decide_eq_false (by assumption)) | (simp only [decide_eq_true_eq, decide_eq_false_iff_not, Bool.not_eq_true', Bool.not_eq_false', Int.ofNat_lt, Int.ofNat_le, Int.ofNat_inj, not_true_eq_false, not_false_eq_true]; omega) | (simp <;> fail)))) | (refine WL.condF' rfl ?_ ?_; (focus (first | (assumption) | (exact decide_eq_true (by assumption)) | (exact decide_eq_false (by assumption)) | (simp only [decide_eq_true_eq, decide_eq_false_iff_not, Bool.not_eq_true', Bool.not_eq_false', Int.ofNat_lt, Int.ofNat_le, Int.ofNat_inj, not_true_eq_false, not_false_eq_true]; omega) | (simp <;> fail)))) | (refine WL.cond rfl (fun h => ?_) (fun h => ?_))))
      | (refine lthen_n ?_)
      | (refine lthen_r ?_)
      | (refine lthen_e ?_)
      | (refine lblock_n ?_)
      | (refine lblock_r ?_)
      | (refine lblock_e ?_)
      | (refine lblock_o rfl ?_)
      | (refine lback_r ?_)
      | (refine lback_e ?_)
      | (refine lbackD_r ?_)
      | (refine lbackD_e ?_)
      | (refine lbackH_r ?_)
      | (refine lbackH_e ?_)
      | (refine LPost.r1 (r := .tmp 2) (.inl rfl) (Res1.tmp rfl) ?_)
      | (refine PureR.mk ?_)
    rfl
  have hD : (Lib.decDigits n.natAbs).length ≤ 20 := by rw [Lib.decDigits_length]; exact nDig_le 19 _ (by omega)
  obtain ⟨D, hDe⟩ : ∃ D, Lib.decDigits n.natAbs = D := ⟨_, rfl⟩
  rw [hDe] at hD
  obtain ⟨neg, hneg⟩ : ∃ b : Bool, decide (n < 0) = b := ⟨_, rfl⟩
  repeat' first
    | (refine kOps ?_; first | (refine LOps.nil ?_) | (refine LOps.ev tT_ok rfl ?_) | (refine kBsl ?_; first | (refine LOps.bsl0 tT_ok rfl rfl rfl rfl rfl ?_) | (refine LOps.bsl tT_ok rfl rfl rfl rfl rfl rfl rfl rfl rfl rfl rfl ?_)) | (refine kBin ?_; first | (refine LOps.ans (AnsL.add rfl rfl ?_) ?_; (focus (constructor <;> omega))) | (refine LOps.ans (AnsL.sub rfl rfl ?_) ?_; (focus (constructor <;> omega))) | (refine LOps.ans (AnsL.arith rfl rfl rfl) ?_) | (refine LOps.ans (AnsL.cat rfl rfl ?_) ?_; (focus (first | omega | (simp; omega) | (simp <;> fail))))))
    | (refine kWL ?_; first | (refine WL.seq ?_) | (refine WL.region (by kernel_rfl) ?_) | (refine WL.block ?_) | (refine WL.exit ?_) | (refine WL.skip ?_) | (refine WL.ret ?_) | (refine kCond ?_; first | (refine WL.condT rfl ?_) | (refine WL.condF rfl ?_) | (refine WL.condT' rfl ?_ ?_; (focus (first | (assumption) | (exact decide_eq_true (by assumption)) | (exact decide_eq_false (by assumption)) | (simp only [decide_eq_true_eq, decide_eq_false_iff_not, Bool.not_eq_true', Bool.not_eq_false', Int.ofNat_lt, Int.ofNat_le, Int.ofNat_inj, not_true_eq_false, not_false_eq_true]; omega) | (simp <;> fail)))) | (refine WL.condF' rfl ?_ ?_; (focus (first | (assumption) | (exact decide_eq_true (by assumption)) | (exact decide_eq_false (by assumption)) | (simp only [decide_eq_true_eq, decide_eq_false_iff_not, Bool.not_eq_true', Bool.not_eq_false', Int.ofNat_lt, Int.ofNat_le, Int.ofNat_inj, not_true_eq_false, not_false_eq_true]; omega) | (simp <;> fail)))) | (refine WL.cond rfl (fun h => ?_) (fun h => ?_))))
    | (refine lthen_n ?_)
    | (refine lthen_r ?_)
    | (refine lthen_e ?_)
    | (refine lblock_n ?_)
    | (refine lblock_r ?_)
    | (refine lblock_e ?_)
    | (refine lblock_o rfl ?_)
    | (refine lback_r ?_)
    | (refine lback_e ?_)
    | (refine lbackD_r ?_)
    | (refine lbackD_e ?_)
    | (refine lbackH_r ?_)
    | (refine lbackH_e ?_)
    | (refine LPost.r1 (r := .tmp 2) (.inl rfl) (Res1.tmp rfl) ?_)
    | (refine PureR.mk ?_)
  refine WL.loopD (fun x : Int × List UInt8 => x.1.natAbs) (fun x => [(0, .int .i64 x.1), (3, .bool (decide (n < 0))), (4, .str x.2)]) (fun _ => [])
    (fun x => (x.1 ≠ 0 → Lib.decDigits x.1.natAbs ++ x.2 = D) ∧ (x.1 = 0 → x.2 = D) ∧ x.2.length ≤ 20 ∧ -9223372036854775808 ≤ x.1 ∧ x.1 ≤ 9223372036854775807) 0 (n, []) ⟨fun _ => by rw [List.append_nil]; exact hDe, fun h => absurd h h0, by simp, hw.1, hw.2⟩ (fun _ => rfl) ⟨rfl, rfl, rfl, trivial⟩ rfl (fun x hx => ?_) (fun x hx => ?_)
  · exact ⟨rfl, rfl⟩
  obtain ⟨m, out⟩ := x
  obtain ⟨hx1, hx2, hx3, hx4, hx5⟩ := hx
  dsimp only at hx1 hx2 hx3 hx4 hx5 ⊢
  by_cases hm : m = 0
  · have := hx2 hm
    subst hm
    by_cases hn : n < 0
    · skip
      repeat' first
        | (refine LOps.ans (AnsL.toStrI tT_ok rfl rfl rfl rfl rfl rfl rfl rfl rfl) ?_)
        | (refine kOps ?_; first | (refine LOps.nil ?_) | (refine LOps.ev tT_ok rfl ?_) | (refine kBsl ?_; first | (refine LOps.bsl0 tT_ok rfl rfl rfl rfl rfl ?_) | (refine LOps.bsl tT_ok rfl rfl rfl rfl rfl rfl rfl rfl rfl rfl rfl ?_)) | (refine kBin ?_; first | (refine LOps.ans (AnsL.quoI rfl rfl (by omega)) ?_) | (refine LOps.ans (AnsL.remI rfl rfl (by omega)) ?_) | (refine LOps.ans (AnsL.cat rfl rfl ?_) ?_; (focus (exact catB (by first | decide | simp) (Nat.le_trans hx3 (by omega))))) | (refine LOps.ans (AnsL.add rfl rfl ?_) ?_; (focus (constructor <;> omega))) | (refine LOps.ans (AnsL.sub rfl rfl ?_) ?_; (focus (constructor <;> omega))) | (refine LOps.ans (AnsL.arith rfl rfl rfl) ?_) | (refine LOps.ans (AnsL.cat rfl rfl ?_) ?_; (focus (first | omega | (simp; omega) | (simp <;> fail))))))
        | (refine kWL ?_; first | (refine WL.seq ?_) | (refine WL.region (by kernel_rfl) ?_) | (refine WL.block ?_) | (refine WL.exit ?_) | (refine WL.skip ?_) | (refine WL.ret ?_) | (refine kCond ?_; first | (refine WL.condT rfl ?_) | (refine WL.condF rfl ?_) | (refine WL.condT' rfl ?_ ?_; (focus (first | (assumption) | (exact decide_eq_true (by assumption)) | (exact decide_eq_false (by assumption)) | (simp only [decide_eq_true_eq, decide_eq_false_iff_not, Bool.not_eq_true', Bool.not_eq_false', Int.ofNat_lt, Int.ofNat_le, Int.ofNat_inj, not_true_eq_false, not_false_eq_true]; omega) | (simp <;> fail)))) | (refine WL.condF' rfl ?_ ?_; (focus (first | (assumption) | (exact decide_eq_true (by assumption)) | (exact decide_eq_false (by assumption)) | (simp only [decide_eq_true_eq, decide_eq_false_iff_not, Bool.not_eq_true', Bool.not_eq_false', Int.ofNat_lt, Int.ofNat_le, Int.ofNat_inj, not_true_eq_false, not_false_eq_true]; omega) | (simp <;> fail)))) | (refine WL.cond rfl (fun h => ?_) (fun h => ?_))))
        | (refine lthen_n ?_)
        | (refine lthen_r ?_)
        | (refine lthen_e ?_)
        | (refine lblock_n ?_)
        | (refine lblock_r ?_)
        | (refine lblock_e ?_)
        | (refine lblock_o rfl ?_)
        | (refine lback_r ?_)
        | (refine lback_e ?_)
        | (refine lbackD_r ?_)
        | (refine lbackD_e ?_)
        | (refine lbackH_r ?_)
        | (refine lbackH_e ?_)
        | (refine LPost.r1 (r := .tmp 2) (.inl rfl) (Res1.tmp rfl) ?_)
        | (refine PureR.mk ?_)
      show V.str (45 :: out) = _
      rw [Lib.itoa, if_pos hn, hDe, this]
    · skip
      repeat' first
        | (refine LOps.ans (AnsL.toStrI tT_ok rfl rfl rfl rfl rfl rfl rfl rfl rfl) ?_)
        | (refine kOps ?_; first | (refine LOps.nil ?_) | (refine LOps.ev tT_ok rfl ?_) | (refine kBsl ?_; first | (refine LOps.bsl0 tT_ok rfl rfl rfl rfl rfl ?_) | (refine LOps.bsl tT_ok rfl rfl rfl rfl rfl rfl rfl rfl rfl rfl rfl ?_)) | (refine kBin ?_; first | (refine LOps.ans (AnsL.quoI rfl rfl (by omega)) ?_) | (refine LOps.ans (AnsL.remI rfl rfl (by omega)) ?_) | (refine LOps.ans (AnsL.cat rfl rfl ?_) ?_; (focus (exact catB (by first | decide | simp) (Nat.le_trans hx3 (by omega))))) | (refine LOps.ans (AnsL.add rfl rfl ?_) ?_; (focus (constructor <;> omega))) | (refine LOps.ans (AnsL.sub rfl rfl ?_) ?_; (focus (constructor <;> omega))) | (refine LOps.ans (AnsL.arith rfl rfl rfl) ?_) | (refine LOps.ans (AnsL.cat rfl rfl ?_) ?_; (focus (first | omega | (simp; omega) | (simp <;> fail))))))
        | (refine kWL ?_; first | (refine WL.seq ?_) | (refine WL.region (by kernel_rfl) ?_) | (refine WL.block ?_) | (refine WL.exit ?_) | (refine WL.skip ?_) | (refine WL.ret ?_) | (refine kCond ?_; first | (refine WL.condT rfl ?_) | (refine WL.condF rfl ?_) | (refine WL.condT' rfl ?_ ?_; (focus (first | (assumption) | (exact decide_eq_true (by assumption)) | (exact decide_eq_false (by assumption)) | (simp only [decide_eq_true_eq, decide_eq_false_iff_not, Bool.not_eq_true', Bool.not_eq_false', Int.ofNat_lt, Int.ofNat_le, Int.ofNat_inj, not_true_eq_false, not_false_eq_true]; omega) | (simp <;> fail)))) | (refine WL.condF' rfl ?_ ?_; (focus (first | (assumption) | (exact decide_eq_true (by assumption)) | (exact decide_eq_false (by assumption)) | (simp only [decide_eq_true_eq, decide_eq_false_iff_not, Bool.not_eq_true', Bool.not_eq_false', Int.ofNat_lt, Int.ofNat_le, Int.ofNat_inj, not_true_eq_false, not_false_eq_true]; omega) | (simp <;> fail)))) | (refine WL.cond rfl (fun h => ?_) (fun h => ?_))))
        | (refine lthen_n ?_)
        | (refine lthen_r ?_)
        | (refine lthen_e ?_)
        | (refine lblock_n ?_)
        | (refine lblock_r ?_)
        | (refine lblock_e ?_)
        | (refine lblock_o rfl ?_)
        | (refine lback_r ?_)
        | (refine lback_e ?_)
        | (refine lbackD_r ?_)
        | (refine lbackD_e ?_)
        | (refine lbackH_r ?_)
        | (refine lbackH_e ?_)
        | (refine LPost.r1 (r := .tmp 2) (.inl rfl) (Res1.tmp rfl) ?_)
        | (refine PureR.mk ?_)
      show V.str out = _
      rw [Lib.itoa, if_neg hn, show n.toNat = n.natAbs by omega, hDe, this]
  · have hq := Int.tmod_add_mul_tdiv m 10
    have ha : (m.tmod 10).natAbs = m.natAbs % 10 := by rw [Int.natAbs_tmod]; rfl
    have hw64 : IntKind.i64.wrap (m.tdiv 10) = m.tdiv 10 := wrap_in (by constructor <;> omega)
    by_cases hd : m.tmod 10 < 0
    · skip
      repeat' first
        | (refine LOps.ans (AnsL.toStrI tT_ok rfl rfl rfl rfl rfl rfl rfl rfl rfl) ?_)
        | (refine kOps ?_; first | (refine LOps.nil ?_) | (refine LOps.ev tT_ok rfl ?_) | (refine kBsl ?_; first | (refine LOps.bsl0 tT_ok rfl rfl rfl rfl rfl ?_) | (refine LOps.bsl tT_ok rfl rfl rfl rfl rfl rfl rfl rfl rfl rfl rfl ?_)) | (refine kBin ?_; first | (refine LOps.ans (AnsL.quoI rfl rfl (by omega)) ?_) | (refine LOps.ans (AnsL.remI rfl rfl (by omega)) ?_) | (refine LOps.ans (AnsL.cat rfl rfl ?_) ?_; (focus (exact catB (by first | decide | simp) (Nat.le_trans hx3 (by omega))))) | (refine LOps.ans (AnsL.add rfl rfl ?_) ?_; (focus (constructor <;> omega))) | (refine LOps.ans (AnsL.sub rfl rfl ?_) ?_; (focus (constructor <;> omega))) | (refine LOps.ans (AnsL.arith rfl rfl rfl) ?_) | (refine LOps.ans (AnsL.cat rfl rfl ?_) ?_; (focus (first | omega | (simp; omega) | (simp <;> fail))))))
        | (refine kWL ?_; first | (refine WL.seq ?_) | (refine WL.region (by kernel_rfl) ?_) | (refine WL.block ?_) | (refine WL.exit ?_) | (refine WL.skip ?_) | (refine WL.ret ?_) | (refine kCond ?_; first | (refine WL.condT rfl ?_) | (refine WL.condF rfl ?_) | (refine WL.condT' rfl ?_ ?_; (focus (first | (assumption) | (exact decide_eq_true (by assumption)) | (exact decide_eq_false (by assumption)) | (simp only [decide_eq_true_eq, decide_eq_false_iff_not, Bool.not_eq_true', Bool.not_eq_false', Int.ofNat_lt, Int.ofNat_le, Int.ofNat_inj, not_true_eq_false, not_false_eq_true]; omega) | (simp <;> fail)))) | (refine WL.condF' rfl ?_ ?_; (focus (first | (assumption) | (exact decide_eq_true (by assumption)) | (exact decide_eq_false (by assumption)) | (simp only [decide_eq_true_eq, decide_eq_false_iff_not, Bool.not_eq_true', Bool.not_eq_false', Int.ofNat_lt, Int.ofNat_le, Int.ofNat_inj, not_true_eq_false, not_false_eq_true]; omega) | (simp <;> fail)))) | (refine WL.cond rfl (fun h => ?_) (fun h => ?_))))
        | (refine lthen_n ?_)
        | (refine lthen_r ?_)
        | (refine lthen_e ?_)
        | (refine lblock_n ?_)
        | (refine lblock_r ?_)
        | (refine lblock_e ?_)
        | (refine lblock_o rfl ?_)
        | (refine lback_r ?_)
        | (refine lback_e ?_)
        | (refine lbackD_r ?_)
        | (refine lbackD_e ?_)
        | (refine lbackH_r ?_)
        | (refine lbackH_e ?_)
        | (refine LPost.r1 (r := .tmp 2) (.inl rfl) (Res1.tmp rfl) ?_)
        | (refine PureR.mk ?_)
      have hy := dig_inv (q := IntKind.i64.wrap (m.tdiv 10)) (x := IntKind.u8.wrap (48 + (0 - m.tmod 10))) hm (hx1 hm) hD hx4 hx5 hw64 (by rw [wrapU8 (by omega) (by omega)]; omega)
      exact lbackD.of (IntKind.i64.wrap (m.tdiv 10), UInt8.ofNat (IntKind.u8.wrap (48 + (0 - m.tmod 10))).toNat :: out) hy.1 hy.2 ⟨rfl, rfl, rfl, trivial⟩ rfl
    · skip
      repeat' first
        | (refine LOps.ans (AnsL.toStrI tT_ok rfl rfl rfl rfl rfl rfl rfl rfl rfl) ?_)
        | (refine kOps ?_; first | (refine LOps.nil ?_) | (refine LOps.ev tT_ok rfl ?_) | (refine kBsl ?_; first | (refine LOps.bsl0 tT_ok rfl rfl rfl rfl rfl ?_) | (refine LOps.bsl tT_ok rfl rfl rfl rfl rfl rfl rfl rfl rfl rfl rfl ?_)) | (refine kBin ?_; first | (refine LOps.ans (AnsL.quoI rfl rfl (by omega)) ?_) | (refine LOps.ans (AnsL.remI rfl rfl (by omega)) ?_) | (refine LOps.ans (AnsL.cat rfl rfl ?_) ?_; (focus (exact catB (by first | decide | simp) (Nat.le_trans hx3 (by omega))))) | (refine LOps.ans (AnsL.add rfl rfl ?_) ?_; (focus (constructor <;> omega))) | (refine LOps.ans (AnsL.sub rfl rfl ?_) ?_; (focus (constructor <;> omega))) | (refine LOps.ans (AnsL.arith rfl rfl rfl) ?_) | (refine LOps.ans (AnsL.cat rfl rfl ?_) ?_; (focus (first | omega | (simp; omega) | (simp <;> fail))))))
        | (refine kWL ?_; first | (refine WL.seq ?_) | (refine WL.region (by kernel_rfl) ?_) | (refine WL.block ?_) | (refine WL.exit ?_) | (refine WL.skip ?_) | (refine WL.ret ?_) | (refine kCond ?_; first | (refine WL.condT rfl ?_) | (refine WL.condF rfl ?_) | (refine WL.condT' rfl ?_ ?_; (focus (first | (assumption) | (exact decide_eq_true (by assumption)) | (exact decide_eq_false (by assumption)) | (simp only [decide_eq_true_eq, decide_eq_false_iff_not, Bool.not_eq_true', Bool.not_eq_false', Int.ofNat_lt, Int.ofNat_le, Int.ofNat_inj, not_true_eq_false, not_false_eq_true]; omega) | (simp <;> fail)))) | (refine WL.condF' rfl ?_ ?_; (focus (first | (assumption) | (exact decide_eq_true (by assumption)) | (exact decide_eq_false (by assumption)) | (simp only [decide_eq_true_eq, decide_eq_false_iff_not, Bool.not_eq_true', Bool.not_eq_false', Int.ofNat_lt, Int.ofNat_le, Int.ofNat_inj, not_true_eq_false, not_false_eq_true]; omega) | (simp <;> fail)))) | (refine WL.cond rfl (fun h => ?_) (fun h => ?_))))
        | (refine lthen_n ?_)
        | (refine lthen_r ?_)
        | (refine lthen_e ?_)
        | (refine lblock_n ?_)
        | (refine lblock_r ?_)
        | (refine lblock_e ?_)
        | (refine lblock_o rfl ?_)
        | (refine lback_r ?_)
        | (refine lback_e ?_)
        | (refine lbackD_r ?_)
        | (refine lbackD_e ?_)
        | (refine lbackH_r ?_)
        | (refine lbackH_e ?_)
        | (refine LPost.r1 (r := .tmp 2) (.inl rfl) (Res1.tmp rfl) ?_)
        | (refine PureR.mk ?_)
      have hy := dig_inv (q := IntKind.i64.wrap (m.tdiv 10)) (x := IntKind.u8.wrap (48 + m.tmod 10)) hm (hx1 hm) hD hx4 hx5 hw64 (by rw [wrapU8 (by omega) (by omega)]; omega)
      exact lbackD.of (IntKind.i64.wrap (m.tdiv 10), UInt8.ofNat (IntKind.u8.wrap (48 + m.tmod 10)).toNat :: out) hy.1 hy.2 ⟨rfl, rfl, rfl, trivial⟩ rfl

end Go.Proofs.YtoededaekidbcaaDoor
