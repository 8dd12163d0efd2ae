/-
  Numbers and tokens that are right, of the reference. Own work; no condition.
-/
import Derived.Test.YtbnbmcplmipgdaaGreatDoorDRcL
import Derived.Test.YtbnbmcplmipgdaaGreatDoorDDig
namespace Go.Proofs.YtbnbmcplmipgdaaGreatDoor
open Go
set_option linter.unusedSimpArgs false
set_option linter.unusedVariables false

def numG : List UInt8 → Int → Option Int
  | [], n => some n
  | b :: l, n => if figI (b.toNat : Int) = false then none else if n > (9223372036854775807 - ((b.toNat : Int) - 48)).tdiv 10 then none else numG l (10 * n + ((b.toNat : Int) - 48))
def numO (l : List UInt8) : Option Int := if (l.length : Int) < 1 ∨ (l.length : Int) > 19 then none else match numG l 0 with
  | some n => if Lib.itoa n = l then some n else none
  | none => none
def numV : Option Int → V
  | some n => .tup [.int .i64 n, .bool true]
  | none => .tup [.int .i64 0, .bool false]
@[simp] theorem numV_dat (o : Option Int) : (numV o).dat = true := by cases o <;> rfl
def numS (l : List UInt8) : Bool := (numO l).isSome
theorem u8_48 {b : UInt8} (h : ¬ (b.toNat : Int) < 48) : IntKind.i64.wrap ((b.toNat : Int) - 48) = (b.toNat : Int) - 48 := by
  have := b.toNat_lt
  exact wrap_in (by constructor <;> omega)
set_option maxHeartbeats 2000000 in
theorem specNumber_v (l : List UInt8) (s : S) : VCalls Tryz.prog 83 [.str l] s (fun v s' => v = numV (numO l) ∧ s' = s) := by
  by_cases h1 : (l.length : Int) < 1
  · have e : numO l = none := if_pos (.inl h1)
    rw [e]
    refine LCalls.pure Tryz.func83 rfl (by kernel_rfl) (by simp) ?_
    repeat' first
      | (refine kOps ?_; first | (refine LOps.nil ?_) | (refine kG ?_; first | (refine LOps.gF rfl rfl rfl ?_) | (refine LOps.gD true rfl rfl rfl ?_ ?_; (focus (first | (exact decide_eq_true (by assumption)))))) | (refine LOps.ev tT_ok rfl ?_))
      | (refine kWL ?_; first | (refine WL.seq ?_) | (refine WL.region (by kernel_rfl) ?_) | (refine WL.ret ?_) | (refine kCond ?_; first | (refine WL.condT rfl ?_)))
      | (refine lthen_n ?_)
      | (refine lthen_r ?_)
      | (refine LPost.r2 (r := .tmp 2) (r' := .tmp 3) (.inl rfl) (Res1.tmp rfl) (Res1.tmp rfl) ?_)
      | (refine PureR.mk ?_)
    rfl
  by_cases h2 : (l.length : Int) > 19
  · have e : numO l = none := if_pos (.inr h2)
    rw [e]
    refine LCalls.pure Tryz.func83 rfl (by kernel_rfl) (by simp) ?_
    repeat' first
      | (refine kOps ?_; first | (refine LOps.nil ?_) | (refine kG ?_; first | (refine LOps.gT rfl rfl rfl ?_) | (refine LOps.gD false rfl rfl rfl ?_ ?_; (focus (first | (exact decide_eq_false (by assumption)))))) | (refine LOps.ev tT_ok rfl ?_))
      | (refine kWL ?_; first | (refine WL.seq ?_) | (refine WL.region (by kernel_rfl) ?_) | (refine WL.ret ?_) | (refine kCond ?_; first | (refine WL.condT' rfl ?_ ?_; (focus (first | (exact decide_eq_true (by assumption)))))))
      | (refine lthen_n ?_)
      | (refine lthen_r ?_)
      | (refine LPost.r2 (r := .tmp 2) (r' := .tmp 3) (.inl rfl) (Res1.tmp rfl) (Res1.tmp rfl) ?_)
      | (refine PureR.mk ?_)
    rfl
  have e : numO l = match numG l 0 with
      | some n => if Lib.itoa n = l then some n else none
      | none => none := if_neg (by omega)
  rw [e]
  clear e
  refine LCalls.pure Tryz.func83 rfl (by kernel_rfl) (by simp) ?_
  repeat' first
    | (refine kOps ?_; first | (refine LOps.nil ?_) | (refine kG ?_; first | (refine LOps.gT rfl rfl rfl ?_) | (refine LOps.gD false rfl rfl rfl ?_ ?_; (focus (first | (exact decide_eq_false (by assumption)))))) | (refine LOps.ev tT_ok rfl ?_))
    | (refine kWL ?_; first | (refine WL.seq ?_) | (refine WL.region (by kernel_rfl) ?_) | (refine WL.block ?_) | (refine WL.skip ?_) | (refine kCond ?_; first | (refine WL.condF' rfl ?_ ?_; (focus (first | (exact decide_eq_false (by assumption)))))))
    | (refine lthen_n ?_)
  refine WL.loopD (fun x : Nat × Int => l.length - x.1) (fun x => [(0, .str l), (4, .int .i64 x.2), (5, .int .i64 (x.1 : Int))]) (fun _ => [])
    (fun x => x.1 ≤ l.length ∧ (0 ≤ x.2 ∧ x.2 ≤ 9223372036854775807) ∧ numG l 0 = numG (l.drop x.1) x.2) 0 (0, 0) ⟨Nat.zero_le _, ⟨by decide, by decide⟩, rfl⟩ (fun _ => rfl) ⟨rfl, rfl, rfl, trivial⟩ rfl (fun x hx => ?_) (fun x hx => ?_)
  · simp [UnderK, UnderX, V.under, V.underL]
  obtain ⟨i, n⟩ := x
  obtain ⟨g1, ⟨g2, g3⟩, g4⟩ := hx
  dsimp only at g1 g2 g3 g4 ⊢
  rcases Nat.lt_or_ge i l.length with hlt | hge
  · have hlt' : (i : Int) < (l.length : Int) := by omega
    have hg : l[i]? = some l[i] := by simp [hlt]
    rw [List.drop_eq_getElem_cons hlt, numG] at g4
    generalize l[i] = b at hg g4
    have hb := b.toNat_lt
    by_cases c1 : (b.toNat : Int) < 48
    · have e : figI (b.toNat : Int) = false := by simp [figI]; omega
      rw [if_pos e] at g4
      rw [g4]
      repeat' first
        | (refine kOps ?_; first | (refine LOps.nil ?_) | (refine kG ?_; first | (refine LOps.gF rfl rfl rfl ?_) | (refine LOps.gD true rfl rfl rfl ?_ ?_; (focus (first | (exact decide_eq_true (by assumption)))))) | (refine LOps.ev tT_ok rfl ?_) | (refine kSidx ?_; first | (refine LOps.ans (AnsL.sidx tT_ok rfl rfl rfl rfl hg) ?_)))
        | (refine kWL ?_; first | (refine WL.seq ?_) | (refine WL.region (by kernel_rfl) ?_) | (refine WL.block ?_) | (refine WL.skip ?_) | (refine WL.ret ?_) | (refine kCond ?_; first | (refine WL.condT rfl ?_) | (refine WL.condT' rfl ?_ ?_; (focus (first | (exact decide_eq_true (by assumption)))))))
        | (refine lthen_n ?_)
        | (refine lthen_r ?_)
        | (refine lblock_r ?_)
        | (refine lbackD_r ?_)
        | (refine LPost.r2 (r := .tmp 2) (r' := .tmp 3) (.inl rfl) (Res1.tmp rfl) (Res1.tmp rfl) ?_)
        | (refine PureR.mk ?_)
      rfl
    by_cases c2 : (b.toNat : Int) > 57
    · have e : figI (b.toNat : Int) = false := by simp [figI]; omega
      rw [if_pos e] at g4
      rw [g4]
      repeat' first
        | (refine kOps ?_; first | (refine LOps.nil ?_) | (refine kG ?_; first | (refine LOps.gT rfl rfl rfl ?_) | (refine LOps.gD false rfl rfl rfl ?_ ?_; (focus (first | (exact decide_eq_false (by assumption)))))) | (refine LOps.ev tT_ok rfl ?_) | (refine kSidx ?_; first | (refine LOps.ans (AnsL.sidx tT_ok rfl rfl rfl rfl hg) ?_)))
        | (refine kWL ?_; first | (refine WL.seq ?_) | (refine WL.region (by kernel_rfl) ?_) | (refine WL.block ?_) | (refine WL.skip ?_) | (refine WL.ret ?_) | (refine kCond ?_; first | (refine WL.condT' rfl ?_ ?_; (focus (first | (exact decide_eq_true (by assumption)))))))
        | (refine lthen_n ?_)
        | (refine lthen_r ?_)
        | (refine lblock_r ?_)
        | (refine lbackD_r ?_)
        | (refine LPost.r2 (r := .tmp 2) (r' := .tmp 3) (.inl rfl) (Res1.tmp rfl) (Res1.tmp rfl) ?_)
        | (refine PureR.mk ?_)
      rfl
    have e : ¬ figI (b.toNat : Int) = false := by simp [figI]; omega
    rw [if_neg e] at g4
    have w1 : IntKind.i64.wrap ((b.toNat : Int) - 48) = (b.toNat : Int) - 48 := u8_48 c1
    have w0 : IntKind.i64.wrap (b.toNat : Int) = (b.toNat : Int) := wrap_in (by constructor <;> omega)
    generalize hd : (b.toNat : Int) - 48 = dd at g4 w1
    have hq0 : (9223372036854775807 - dd).tdiv 10 = (9223372036854775807 - dd) / 10 := Int.tdiv_eq_ediv_of_nonneg (by omega)
    have hq : IntKind.i64.wrap ((9223372036854775807 - dd).tdiv 10) = (9223372036854775807 - dd).tdiv 10 := wrap_in (by constructor <;> omega)
    obtain ⟨Q, hQ⟩ : ∃ Q, (9223372036854775807 - dd).tdiv 10 = Q := ⟨_, rfl⟩
    rw [hQ] at hq hq0 g4
    have hX : IntKind.i64.wrap ((9223372036854775807 - (IntKind.i64.wrap (b.toNat : Int) - 48)).tdiv 10) = Q := by rw [w0, hd, hQ, hq]
    by_cases c3' : IntKind.i64.wrap ((9223372036854775807 - (IntKind.i64.wrap (b.toNat : Int) - 48)).tdiv 10) < n
    · have c3 : n > Q := by omega
      rw [if_pos c3] at g4
      rw [g4]
      repeat' first
        | (refine kOps ?_; first | (refine LOps.nil ?_) | (refine kG ?_; first | (refine LOps.gT rfl rfl rfl ?_) | (refine LOps.gD false rfl rfl rfl ?_ ?_; (focus (first | (exact decide_eq_false (by assumption)))))) | (refine LOps.ev tT_ok rfl ?_) | (refine kBin ?_; first | (refine LOps.ans (AnsL.sub rfl rfl ?_) ?_; (focus (constructor <;> omega)))) | (refine kSidx ?_; first | (refine LOps.ans (AnsL.sidx tT_ok rfl rfl rfl rfl hg) ?_)))
        | (refine kWL ?_; first | (refine WL.seq ?_) | (refine WL.region (by kernel_rfl) ?_) | (refine WL.block ?_) | (refine WL.skip ?_) | (refine WL.ret ?_) | (refine kCond ?_; first | (refine WL.condT' rfl ?_ ?_; (focus (first | (exact decide_eq_true (by assumption))))) | (refine WL.condF' rfl ?_ ?_; (focus (first | (exact decide_eq_false (by assumption)))))))
        | (refine lthen_n ?_)
        | (refine lthen_r ?_)
        | (refine lblock_r ?_)
        | (refine lbackD_r ?_)
        | (refine LPost.r2 (r := .tmp 2) (r' := .tmp 3) (.inl rfl) (Res1.tmp rfl) (Res1.tmp rfl) ?_)
        | (refine PureR.mk ?_)
      rfl
    · have c3 : ¬ n > Q := by omega
      rw [if_neg c3] at g4
      have c4 : 10 * n ≤ 9223372036854775807 - dd := by omega
      repeat' first
        | (refine kOps ?_; first | (refine LOps.nil ?_) | (refine kG ?_; first | (refine LOps.gT rfl rfl rfl ?_) | (refine LOps.gD false rfl rfl rfl ?_ ?_; (focus (first | (exact decide_eq_false (by assumption)))))) | (refine LOps.ev tT_ok rfl ?_) | (refine kBin ?_; first | (refine LOps.ans (AnsL.add rfl rfl ?_) ?_; (focus (constructor <;> omega))) | (refine LOps.ans (AnsL.sub rfl rfl ?_) ?_; (focus (constructor <;> omega))) | (refine LOps.ans (AnsL.mul rfl rfl ?_) ?_; (focus (constructor <;> omega)))) | (refine kSidx ?_; first | (refine LOps.ans (AnsL.sidx tT_ok rfl rfl rfl rfl hg) ?_)))
        | (refine kWL ?_; first | (refine WL.seq ?_) | (refine WL.region (by kernel_rfl) ?_) | (refine WL.block ?_) | (refine WL.skip ?_) | (refine kCond ?_; first | (refine WL.condT' rfl ?_ ?_; (focus (first | (exact decide_eq_true (by assumption))))) | (refine WL.condF' rfl ?_ ?_; (focus (first | (exact decide_eq_false (by assumption)))))))
        | (refine lthen_n ?_)
        | (refine lblock_n ?_)
      all_goals
        refine lbackD.of ((i + 1, 10 * n + dd)) ?_ ?_ ?_ ?_
        · first | omega | (refine ⟨?_, ?_⟩; (focus (first | omega | (simp; omega))); (first | omega | (simp_all [g4] <;> fail) | (simp_all [g4]; omega))) | (simp_all [g4] <;> fail) | (simp_all [g4]; omega)
        · first | omega | (simp; omega) | simp_all
        · repeat' first
            | exact SubL.nil
            | (refine SubL.mk rfl ?_ ?_)
            | rfl
            | (simp [g4] <;> fail)
            | (simp [g4]; omega)
        · first | rfl | (simp [g4] <;> fail) | (simp [g4]; omega)
  · have hlt' : ¬ (i : Int) < (l.length : Int) := by omega
    rw [List.drop_of_length_le hge, numG] at g4
    rw [g4]
    dsimp only
    have hD := fun t => specDigits_v n t
    by_cases c : Lib.itoa n = l
    · rw [if_pos c]
      have c' : ¬ Lib.itoa n ≠ l := fun h => h c
      repeat' first
        | (refine kOps ?_; first | (refine LOps.nil ?_) | (refine LOps.ev tT_ok rfl ?_) | (refine kCallN 94 ?_; first | (refine LOps.ans (AnsL.callP rfl rfl rfl (ok94) (hD _)) ?_)))
        | (refine kWL ?_; first | (refine WL.seq ?_) | (refine WL.region (by kernel_rfl) ?_) | (refine WL.exit ?_) | (refine WL.skip ?_) | (refine WL.ret ?_) | (refine kCond ?_; first | (refine WL.condF' rfl ?_ ?_; (focus (first | (exact decide_eq_false (by assumption)) | (simp only [decide_eq_true_eq, decide_eq_false_iff_not, Bool.not_eq_true', Bool.not_eq_false', Int.ofNat_lt, Int.ofNat_le, Int.ofNat_inj, not_true_eq_false, not_false_eq_true]; omega))))))
        | (refine lthen_n ?_)
        | (refine lthen_e ?_)
        | (refine lblock_e ?_)
        | (refine lbackD_e ?_)
        | (refine LPost.r2 (r := .tmp 2) (r' := .tmp 3) (.inl rfl) (Res1.tmp rfl) (Res1.tmp rfl) ?_)
        | (refine PureR.mk ?_)
      rfl
    · rw [if_neg c]
      repeat' first
        | (refine kOps ?_; first | (refine LOps.nil ?_) | (refine LOps.ev tT_ok rfl ?_) | (refine kCallN 94 ?_; first | (refine LOps.ans (AnsL.callP rfl rfl rfl (ok94) (hD _)) ?_)))
        | (refine kWL ?_; first | (refine WL.seq ?_) | (refine WL.region (by kernel_rfl) ?_) | (refine WL.exit ?_) | (refine WL.ret ?_) | (refine kCond ?_; first | (refine WL.condT' rfl ?_ ?_; (focus (first | (simp only [decide_eq_true_eq, decide_eq_false_iff_not, Bool.not_eq_true', Bool.not_eq_false', Int.ofNat_lt, Int.ofNat_le, Int.ofNat_inj, not_true_eq_false, not_false_eq_true]; omega)))) | (refine WL.condF' rfl ?_ ?_; (focus (first | (exact decide_eq_false (by assumption)))))))
        | (refine lthen_n ?_)
        | (refine lthen_r ?_)
        | (refine lthen_e ?_)
        | (refine lblock_e ?_)
        | (refine lbackD_e ?_)
        | (refine LPost.r2 (r := .tmp 2) (r' := .tmp 3) (.inl rfl) (Res1.tmp rfl) (Res1.tmp rfl) ?_)
        | (refine PureR.mk ?_)
      rfl

set_option maxHeartbeats 2000000 in
theorem specTokenOk_v (t : Token) (hl : t.text.length ≤ 1048576) (s : S) : VCalls Tryz.prog 63 [t.toV] s (fun v s' => v = .bool (tokOk numS t) ∧ s' = s) := by
  obtain ⟨k, x, p⟩ := t
  dsimp only at hl
  have hK := fun u => specKeyOf_v x hl u
  have hF := fun u => specFold_v x hl u
  have hN := fun u => specNumber_v x u
  have hM := fun u => specNameOk_v x u
  have hS := fun u => specSignOk_v x u
  have hnn := keyI_nn (fold x)
  by_cases k1 : k = 1
  · subst k1
    have e : tokOk numS ⟨1, x, p⟩ = (decide (keyI (fold x) ≠ 0) && decide (fold x = x)) := rfl
    rw [e]
    clear e
    generalize keyI (fold x) = ky at hK hnn ⊢
    generalize fold x = fx at hF ⊢
    by_cases c1 : ky > 0
    · have c1' : ky ≠ 0 := by omega
      refine LCalls.pure Tryz.func63 rfl (by kernel_rfl) (by simp) ?_
      repeat' first
        | (refine kOps ?_; first | (refine LOps.nil ?_) | (refine LOps.ev tT_ok rfl ?_) | (refine kBox ?_; refine LOps.box rfl rfl rfl rfl ?_) | (refine kLoad ?_; first | (refine LOps.ans (AnsL.loadP tT_ok rfl rfl rfl rfl) ?_)))
        | (refine kWL ?_; first | (refine WL.seq ?_) | (refine WL.region (by kernel_rfl) ?_) | (refine WL.drawn (id := 3) [0, 1, 2, 3, 4, 5, 6, 7, 8, 9, 10, 11, 12] [] [[], [0], [0, 1], [0, 1, 2], [0, 1, 2, 3], [0, 1, 2, 3, 4], [0, 1, 2, 3, 4, 5], [0, 1, 2, 3, 4, 5, 6], [0, 1, 2, 3, 4], [0, 1, 2, 3, 4, 8], [0, 1, 2, 3, 4, 5, 6, 7, 8, 9], [0, 1, 2, 3, 4, 5, 6, 7, 8, 9, 10], [0, 1, 2, 3, 4, 5, 6, 7, 8, 9, 10, 11]] (by kernel_rfl) (by kernel_rfl) ?_) | (refine WL.block ?_) | (refine WL.ret ?_) | (refine kCond ?_; first | (refine WL.condT rfl ?_)))
        | (refine kDr ?_; first | (refine LDr.nil ?_) | (refine LDr.fl rfl rfl (.ev tT_ok rfl) ?_) | (refine LDr.gT rfl rfl rfl rfl rfl (.ev tT_ok rfl) ?_) | (refine kDLoad rfl ?_; first | (refine LDr.fl rfl rfl (AnsL.loadP tT_ok rfl rfl rfl rfl) ?_) | (refine LDr.gT rfl rfl rfl rfl rfl (AnsL.loadP tT_ok rfl rfl rfl rfl) ?_)) | (refine kDCallN 58 rfl ?_; first | (refine LDr.fl rfl rfl (AnsL.callP rfl rfl rfl (ok58) (hK _)) ?_)) | (refine kDCallN 59 rfl ?_; first | (refine LDr.gT rfl rfl rfl rfl rfl (AnsL.callP rfl rfl rfl (ok59) (hF _)) ?_)) | (refine LDr.gD true rfl rfl rfl rfl ?_ ?_; (focus (first | (exact decide_eq_true (by assumption))))))
        | (refine lthen_n ?_)
        | (refine lthen_r ?_)
        | (refine lblock_r ?_)
        | (refine LPost.r1 (r := .tmp 2) (.inl rfl) (Res1.tmp rfl) ?_)
        | (refine PureR.mk ?_)
      simp [c1']
    · have c1' : ky = 0 := by omega
      subst c1'
      refine LCalls.pure Tryz.func63 rfl (by kernel_rfl) (by simp) ?_
      repeat' first
        | (refine kOps ?_; first | (refine LOps.nil ?_) | (refine LOps.ev tT_ok rfl ?_) | (refine kBox ?_; refine LOps.box rfl rfl rfl rfl ?_) | (refine kLoad ?_; first | (refine LOps.ans (AnsL.loadP tT_ok rfl rfl rfl rfl) ?_)))
        | (refine kWL ?_; first | (refine WL.seq ?_) | (refine WL.region (by kernel_rfl) ?_) | (refine WL.drawn (id := 3) [0, 1, 2, 3, 4, 5, 6, 7, 8, 9, 10, 11, 12] [] [[], [0], [0, 1], [0, 1, 2], [0, 1, 2, 3], [0, 1, 2, 3, 4], [0, 1, 2, 3, 4, 5], [0, 1, 2, 3, 4, 5, 6], [0, 1, 2, 3, 4], [0, 1, 2, 3, 4, 8], [0, 1, 2, 3, 4, 5, 6, 7, 8, 9], [0, 1, 2, 3, 4, 5, 6, 7, 8, 9, 10], [0, 1, 2, 3, 4, 5, 6, 7, 8, 9, 10, 11]] (by kernel_rfl) (by kernel_rfl) ?_) | (refine WL.block ?_) | (refine WL.ret ?_) | (refine kCond ?_; first | (refine WL.condT rfl ?_)))
        | (refine kDr ?_; first | (refine LDr.nil ?_) | (refine LDr.fl rfl rfl (.ev tT_ok rfl) ?_) | (refine LDr.gF rfl rfl rfl rfl rfl ?_) | (refine kDLoad rfl ?_; first | (refine LDr.fl rfl rfl (AnsL.loadP tT_ok rfl rfl rfl rfl) ?_)) | (refine kDCallN 58 rfl ?_; first | (refine LDr.fl rfl rfl (AnsL.callP rfl rfl rfl (ok58) (hK _)) ?_)))
        | (refine lthen_n ?_)
        | (refine lthen_r ?_)
        | (refine lblock_r ?_)
        | (refine LPost.r1 (r := .tmp 2) (.inl rfl) (Res1.tmp rfl) ?_)
        | (refine PureR.mk ?_)
      simp
  by_cases k2 : k = 2
  · subst k2
    have e : tokOk numS ⟨2, x, p⟩ = nameOk x := rfl
    rw [e]
    refine LCalls.pure Tryz.func63 rfl (by kernel_rfl) (by simp) ?_
    repeat' first
      | (refine kOps ?_; first | (refine LOps.nil ?_) | (refine LOps.ev tT_ok rfl ?_) | (refine kBox ?_; refine LOps.box rfl rfl rfl rfl ?_) | (refine kLoad ?_; first | (refine LOps.ans (AnsL.loadP tT_ok rfl rfl rfl rfl) ?_)) | (refine kCallN 32 ?_; first | (refine LOps.ans (AnsL.callP rfl rfl rfl (ok32) (hM _)) ?_)))
      | (refine kWL ?_; first | (refine WL.seq ?_) | (refine WL.region (by kernel_rfl) ?_) | (refine WL.block ?_) | (refine WL.ret ?_) | (refine kCond ?_; first | (refine WL.condT rfl ?_) | (refine WL.condF rfl ?_)))
      | (refine lthen_n ?_)
      | (refine lthen_r ?_)
      | (refine lblock_r ?_)
      | (refine LPost.r1 (r := .tmp 2) (.inl rfl) (Res1.tmp rfl) ?_)
      | (refine PureR.mk ?_)
    rfl
  by_cases k3 : k = 3
  · subst k3
    have e : tokOk numS ⟨3, x, p⟩ = numS x := rfl
    rw [e]
    unfold numS
    cases h : numO x with
    | none =>
      rw [h] at hN
      refine LCalls.pure Tryz.func63 rfl (by kernel_rfl) (by simp) ?_
      repeat' first
        | (refine kOps ?_; first | (refine LOps.nil ?_) | (refine LOps.ev tT_ok rfl ?_) | (refine kBox ?_; refine LOps.box rfl rfl rfl rfl ?_) | (refine kLoad ?_; first | (refine LOps.ans (AnsL.loadP tT_ok rfl rfl rfl rfl) ?_)) | (refine kCallN 83 ?_; first | (refine LOps.ans (AnsL.callP rfl rfl rfl (ok83) (hN _)) ?_)))
        | (refine kWL ?_; first | (refine WL.seq ?_) | (refine WL.region (by kernel_rfl) ?_) | (refine WL.block ?_) | (refine WL.ret ?_) | (refine kCond ?_; first | (refine WL.condT rfl ?_) | (refine WL.condF rfl ?_)))
        | (refine lthen_n ?_)
        | (refine lthen_r ?_)
        | (refine lblock_r ?_)
        | (refine LPost.r1 (r := .tmp 2) (.inl rfl) (Res1.tmp rfl) ?_)
        | (refine PureR.mk ?_)
      rfl
    | some n =>
      rw [h] at hN
      refine LCalls.pure Tryz.func63 rfl (by kernel_rfl) (by simp) ?_
      repeat' first
        | (refine kOps ?_; first | (refine LOps.nil ?_) | (refine LOps.ev tT_ok rfl ?_) | (refine kBox ?_; refine LOps.box rfl rfl rfl rfl ?_) | (refine kLoad ?_; first | (refine LOps.ans (AnsL.loadP tT_ok rfl rfl rfl rfl) ?_)) | (refine kCallN 83 ?_; first | (refine LOps.ans (AnsL.callP rfl rfl rfl (ok83) (hN _)) ?_)))
        | (refine kWL ?_; first | (refine WL.seq ?_) | (refine WL.region (by kernel_rfl) ?_) | (refine WL.block ?_) | (refine WL.ret ?_) | (refine kCond ?_; first | (refine WL.condT rfl ?_) | (refine WL.condF rfl ?_)))
        | (refine lthen_n ?_)
        | (refine lthen_r ?_)
        | (refine lblock_r ?_)
        | (refine LPost.r1 (r := .tmp 2) (.inl rfl) (Res1.tmp rfl) ?_)
        | (refine PureR.mk ?_)
      rfl
  by_cases k4 : k = 4
  · subst k4
    have e : tokOk numS ⟨4, x, p⟩ = decide ((x.length : Int) ≤ 40) := rfl
    rw [e]
    refine LCalls.pure Tryz.func63 rfl (by kernel_rfl) (by simp) ?_
    repeat' first
      | (refine kOps ?_; first | (refine LOps.nil ?_) | (refine LOps.ev tT_ok rfl ?_) | (refine kBox ?_; refine LOps.box rfl rfl rfl rfl ?_) | (refine kLoad ?_; first | (refine LOps.ans (AnsL.loadP tT_ok rfl rfl rfl rfl) ?_)))
      | (refine kWL ?_; first | (refine WL.seq ?_) | (refine WL.region (by kernel_rfl) ?_) | (refine WL.block ?_) | (refine WL.ret ?_) | (refine kCond ?_; first | (refine WL.condT rfl ?_) | (refine WL.condF rfl ?_)))
      | (refine lthen_n ?_)
      | (refine lthen_r ?_)
      | (refine lblock_r ?_)
      | (refine LPost.r1 (r := .tmp 2) (.inl rfl) (Res1.tmp rfl) ?_)
      | (refine PureR.mk ?_)
    rfl
  by_cases k5 : k = 5
  · subst k5
    have e : tokOk numS ⟨5, x, p⟩ = signOk x := rfl
    rw [e]
    refine LCalls.pure Tryz.func63 rfl (by kernel_rfl) (by simp) ?_
    repeat' first
      | (refine kOps ?_; first | (refine LOps.nil ?_) | (refine LOps.ev tT_ok rfl ?_) | (refine kBox ?_; refine LOps.box rfl rfl rfl rfl ?_) | (refine kLoad ?_; first | (refine LOps.ans (AnsL.loadP tT_ok rfl rfl rfl rfl) ?_)) | (refine kCallN 62 ?_; first | (refine LOps.ans (AnsL.callP rfl rfl rfl (ok62) (hS _)) ?_)))
      | (refine kWL ?_; first | (refine WL.seq ?_) | (refine WL.region (by kernel_rfl) ?_) | (refine WL.block ?_) | (refine WL.ret ?_) | (refine kCond ?_; first | (refine WL.condT rfl ?_) | (refine WL.condF rfl ?_)))
      | (refine lthen_n ?_)
      | (refine lthen_r ?_)
      | (refine lblock_r ?_)
      | (refine LPost.r1 (r := .tmp 2) (.inl rfl) (Res1.tmp rfl) ?_)
      | (refine PureR.mk ?_)
    rfl
  · have e : tokOk numS ⟨k, x, p⟩ = false := by simp [tokOk, k1, k2, k3, k4, k5]
    rw [e]
    refine LCalls.pure Tryz.func63 rfl (by kernel_rfl) (by simp) ?_
    repeat' first
      | (refine kOps ?_; first | (refine LOps.nil ?_) | (refine LOps.ev tT_ok rfl ?_) | (refine kBox ?_; refine LOps.box rfl rfl rfl rfl ?_) | (refine kLoad ?_; first | (refine LOps.ans (AnsL.loadP tT_ok rfl rfl rfl rfl) ?_)))
      | (refine kWL ?_; first | (refine WL.seq ?_) | (refine WL.region (by kernel_rfl) ?_) | (refine WL.block ?_) | (refine WL.skip ?_) | (refine WL.ret ?_) | (refine kCond ?_; first | (refine WL.condF' rfl ?_ ?_; (focus (first | (exact decide_eq_false (by assumption)))))))
      | (refine lthen_n ?_)
      | (refine lblock_n ?_)
      | (refine LPost.r1 (r := .tmp 2) (.inl rfl) (Res1.tmp rfl) ?_)
      | (refine PureR.mk ?_)
    rfl

end Go.Proofs.YtbnbmcplmipgdaaGreatDoor
