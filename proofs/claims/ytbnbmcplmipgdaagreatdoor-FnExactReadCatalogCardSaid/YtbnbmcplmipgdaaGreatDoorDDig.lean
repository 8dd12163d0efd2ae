/-
  The decimal text of a number: the reference's Digits. Own work; no condition.
-/
import Derived.Test.YtbnbmcplmipgdaaGreatDoorMg13
import Derived.Test.YtbnbmcplmipgdaaGreatDoorMg8
import Derived.Lib.ItoaNum
namespace Go.Proofs.YtbnbmcplmipgdaaGreatDoor
open Go
set_option linter.unusedSimpArgs false
set_option linter.unusedVariables false
theorem nDig_le : ∀ (k u : Nat), u < 10 ^ (k + 1) → Lib.nDigits u ≤ k + 1
  | 0, u, h => by rw [Lib.nDigits_small (by omega)]; omega
  | k + 1, u, h => by
    by_cases hu : u < 10
    · rw [Lib.nDigits_small hu]; omega
    · rw [Lib.nDigits_big hu]
      have := nDig_le k (u / 10) (by rw [Nat.pow_succ] at h; omega)
      omega
theorem itoa_len (n : Int) (h0 : -9223372036854775808 ≤ n) (h1 : n ≤ 9223372036854775807) : (Lib.itoa n).length ≤ 21 := by
  have e : ∀ u : Nat, u ≤ 9223372036854775808 → (Lib.decDigits u).length ≤ 20 := fun u hu => by
    rw [Lib.decDigits_length]; exact nDig_le 19 u (by omega)
  unfold Lib.itoa
  split
  · rw [List.length_cons]; have := e n.natAbs (by omega); omega
  · have := e n.toNat (by omega); omega
section
variable {P : Program} {L : Kn} {s : S} {tt : BT}
theorem AnsL.toStrI (ht : tt.ok P) {U T e : TypeId} {u t te : Ty} {x : Operand} {id : Nat} {us : List V} {bs : List UInt8} (hx : opd L x = some (.sl id us)) (hU : tt.get U = some u) (hku : u.kd = .slice e) (hT : tt.get T = some t) (hkt : t.kd = .string)
    (hte : tt.get e = some te) (hke : te.kd = .int .u8) (hsz : Nat.beq te.size 1 = true) (hb : vbytes us = some bs) : AnsL P (.convert U T x) L s (.str bs) :=
  .of fun σ hσ _ _ _ _ _ => by
    have h1 : te.size = 1 := Nat.eq_of_beq_eq_true hsz
    simp only [vop, opd_eq hσ hx, vconvert, vtoStr, ht.get hU, ht.get hT, hku, hkt, ht.get hte, hke, h1, if_true, elemsOf, hb, Option.bind_some, Option.map_some]
end
theorem catB {a b : List UInt8} (h1 : a.length ≤ 40) (h2 : b.length ≤ 40) : a.length + b.length ≤ maxLen := le_maxLen (by omega)
theorem decB (m : Nat) (h : 10 ≤ m) : Lib.decDigits m = Lib.decDigits (m / 10) ++ [UInt8.ofNat (48 + m % 10)] := by
  rw [Lib.decDigits, dif_neg (by omega)]
theorem decS (m : Nat) (h : m < 10) : Lib.decDigits m = [UInt8.ofNat (48 + m)] := Lib.decDigits_one h
theorem wrapU8 {x : Int} (h0 : 0 ≤ x) (h1 : x < 256) : IntKind.u8.wrap x = x := by
  simp only [IntKind.wrap, IntKind.bits, IntKind.signed]
  simp
  omega
theorem dig_inv {m : Int} {out D : List UInt8} (hm : m ≠ 0) (h : Lib.decDigits m.natAbs ++ out = D) (hD : D.length ≤ 20) (h4 : -9223372036854775808 ≤ m) (h5 : m ≤ 9223372036854775807) {q x : Int} (hq : q = m.tdiv 10) (hx : x = 48 + ((m.natAbs % 10 : Nat) : Int)) :
    ((q ≠ 0 → Lib.decDigits q.natAbs ++ (UInt8.ofNat x.toNat :: out) = D) ∧ (q = 0 → UInt8.ofNat x.toNat :: out = D) ∧ (UInt8.ofNat x.toNat :: out).length ≤ 20 ∧ -9223372036854775808 ≤ q ∧ q ≤ 9223372036854775807) ∧ q.natAbs < m.natAbs := by
  have hqa : q.natAbs = m.natAbs / 10 := by rw [hq, Int.natAbs_tdiv]; rfl
  have hxn : x.toNat = 48 + m.natAbs % 10 := by omega
  have hlt : q.natAbs < m.natAbs := by omega
  have e1 : q ≠ 0 → Lib.decDigits q.natAbs ++ (UInt8.ofNat x.toNat :: out) = D := fun h0 => by
    rw [← h, decB m.natAbs (by omega), hqa, hxn, List.append_assoc]; rfl
  have e2 : q = 0 → UInt8.ofNat x.toNat :: out = D := fun h0 => by
    have : m.natAbs < 10 := by omega
    rw [← h, decS m.natAbs this, hxn, Nat.mod_eq_of_lt this]; rfl
  refine ⟨⟨e1, e2, ?_, by omega, by omega⟩, hlt⟩
  by_cases h0 : q = 0
  · rw [e2 h0]; exact hD
  · have := e1 h0
    have hl := congrArg List.length this
    simp only [List.length_append] at hl
    omega
theorem specDigits_v (n : Int) (s : S) : VCalls Tryz.prog 94 [.int .i64 n] s (fun v s' => v = .str (Lib.itoa n) ∧ s' = s) := by
  refine VCalls.wf fun hwf => ?_
  have hw : -9223372036854775808 ≤ n ∧ n ≤ 9223372036854775807 := by
    simpa [V.wf, IntKind.min, IntKind.max, IntKind.signed, IntKind.bits] using hwf
  clear hwf
  have hlen := itoa_len n hw.1 hw.2
  refine LCalls.pure Tryz.func94 rfl (by kernel_rfl) (by simp) ?_
  by_cases h0 : n = 0
  · subst h0
    rw [show Lib.itoa 0 = [48] from by rw [Lib.itoa, if_neg (by omega)]; exact decS 0 (by omega)]
    repeat' first
      | (refine kOps ?_; first | (refine LOps.nil ?_) | (refine LOps.ev tT_ok rfl ?_))
      | (refine kWL ?_; first | (refine WL.seq ?_) | (refine WL.region (by kernel_rfl) ?_) | (refine WL.ret ?_) | (refine kCond ?_; first | (refine WL.condT rfl ?_)))
      | (refine lthen_n ?_)
      | (refine lthen_r ?_)
      | (refine LPost.r1 (r := .tmp 2) (.inl rfl) (Res1.tmp rfl) ?_)
      | (refine PureR.mk ?_)
    rfl
  have hD : (Lib.decDigits n.natAbs).length ≤ 20 := by rw [Lib.decDigits_length]; exact nDig_le 19 _ (by omega)
  obtain ⟨D, hDe⟩ : ∃ D, Lib.decDigits n.natAbs = D := ⟨_, rfl⟩
  rw [hDe] at hD
  obtain ⟨neg, hneg⟩ : ∃ b : Bool, decide (n < 0) = b := ⟨_, rfl⟩
  repeat' first
    | (refine kOps ?_; first | (refine LOps.nil ?_) | (refine LOps.ev tT_ok rfl ?_))
    | (refine kWL ?_; first | (refine WL.seq ?_) | (refine WL.region (by kernel_rfl) ?_) | (refine WL.block ?_) | (refine WL.skip ?_) | (refine kCond ?_; first | (refine WL.condF' rfl ?_ ?_; (focus (first | (exact decide_eq_false (by assumption)))))))
    | (refine lthen_n ?_)
  refine WL.loopD (fun x : Int × List UInt8 => x.1.natAbs) (fun x => [(0, .int .i64 x.1), (3, .bool (decide (n < 0))), (4, .str x.2)]) (fun _ => [])
    (fun x => (x.1 ≠ 0 → Lib.decDigits x.1.natAbs ++ x.2 = D) ∧ (x.1 = 0 → x.2 = D) ∧ x.2.length ≤ 20 ∧ -9223372036854775808 ≤ x.1 ∧ x.1 ≤ 9223372036854775807) 0 (n, []) ⟨fun _ => by rw [List.append_nil]; exact hDe, fun h => absurd h h0, by simp, hw.1, hw.2⟩ (fun _ => rfl) ⟨rfl, rfl, rfl, trivial⟩ rfl (fun x hx => ?_) (fun x hx => ?_)
  · exact ⟨rfl, rfl⟩
  obtain ⟨m, out⟩ := x
  obtain ⟨hx1, hx2, hx3, hx4, hx5⟩ := hx
  dsimp only at hx1 hx2 hx3 hx4 hx5 ⊢
  by_cases hm : m = 0
  · have := hx2 hm
    subst hm
    by_cases hn : n < 0
    · skip
      repeat' first
        | (refine kOps ?_; first | (refine LOps.nil ?_) | (refine LOps.ev tT_ok rfl ?_) | (refine kBin ?_; first | (refine LOps.ans (AnsL.cat rfl rfl ?_) ?_; (focus (exact catB (by first | decide | simp) (Nat.le_trans hx3 (by omega)))))))
        | (refine kWL ?_; first | (refine WL.seq ?_) | (refine WL.region (by kernel_rfl) ?_) | (refine WL.exit ?_) | (refine WL.ret ?_) | (refine kCond ?_; first | (refine WL.condF rfl ?_) | (refine WL.condT' rfl ?_ ?_; (focus (first | (exact decide_eq_true (by assumption)))))))
        | (refine lthen_n ?_)
        | (refine lthen_r ?_)
        | (refine lthen_e ?_)
        | (refine lblock_e ?_)
        | (refine lbackD_e ?_)
        | (refine LPost.r1 (r := .tmp 2) (.inl rfl) (Res1.tmp rfl) ?_)
        | (refine PureR.mk ?_)
      show V.str (45 :: out) = _
      rw [Lib.itoa, if_pos hn, hDe, this]
    · skip
      repeat' first
        | (refine kOps ?_; first | (refine LOps.nil ?_) | (refine LOps.ev tT_ok rfl ?_))
        | (refine kWL ?_; first | (refine WL.seq ?_) | (refine WL.region (by kernel_rfl) ?_) | (refine WL.exit ?_) | (refine WL.skip ?_) | (refine WL.ret ?_) | (refine kCond ?_; first | (refine WL.condF rfl ?_) | (refine WL.condF' rfl ?_ ?_; (focus (first | (exact decide_eq_false (by assumption)))))))
        | (refine lthen_n ?_)
        | (refine lthen_e ?_)
        | (refine lblock_e ?_)
        | (refine lbackD_e ?_)
        | (refine LPost.r1 (r := .tmp 2) (.inl rfl) (Res1.tmp rfl) ?_)
        | (refine PureR.mk ?_)
      show V.str out = _
      rw [Lib.itoa, if_neg hn, show n.toNat = n.natAbs by omega, hDe, this]
  · have hq := Int.tmod_add_mul_tdiv m 10
    have ha : (m.tmod 10).natAbs = m.natAbs % 10 := by rw [Int.natAbs_tmod]; rfl
    have hw64 : IntKind.i64.wrap (m.tdiv 10) = m.tdiv 10 := wrap_in (by constructor <;> omega)
    by_cases hd : m.tmod 10 < 0
    · skip
      repeat' first
        | (refine LOps.ans (AnsL.toStrI tT_ok rfl rfl rfl rfl rfl rfl rfl rfl rfl) ?_)
        | (refine kOps ?_; first | (refine LOps.nil ?_) | (refine LOps.ev tT_ok rfl ?_) | (refine kBsl ?_; first | (refine LOps.bsl tT_ok rfl rfl rfl rfl rfl rfl rfl rfl rfl rfl rfl ?_)) | (refine kBin ?_; first | (refine LOps.ans (AnsL.cat rfl rfl ?_) ?_; (focus (exact catB (by first | decide | simp) (Nat.le_trans hx3 (by omega))))) | (refine LOps.ans (AnsL.add rfl rfl ?_) ?_; (focus (constructor <;> omega))) | (refine LOps.ans (AnsL.sub rfl rfl ?_) ?_; (focus (constructor <;> omega)))))
        | (refine kWL ?_; first | (refine WL.seq ?_) | (refine WL.region (by kernel_rfl) ?_) | (refine WL.block ?_) | (refine WL.skip ?_) | (refine kCond ?_; first | (refine WL.condT' rfl ?_ ?_; (focus (first | (exact decide_eq_true (by assumption)) | (simp only [decide_eq_true_eq, decide_eq_false_iff_not, Bool.not_eq_true', Bool.not_eq_false', Int.ofNat_lt, Int.ofNat_le, Int.ofNat_inj, not_true_eq_false, not_false_eq_true]; omega))))))
        | (refine lthen_n ?_)
        | (refine lblock_n ?_)
      have hy := dig_inv (q := IntKind.i64.wrap (m.tdiv 10)) (x := IntKind.u8.wrap (48 + (0 - m.tmod 10))) hm (hx1 hm) hD hx4 hx5 hw64 (by rw [wrapU8 (by omega) (by omega)]; omega)
      exact lbackD.of (IntKind.i64.wrap (m.tdiv 10), UInt8.ofNat (IntKind.u8.wrap (48 + (0 - m.tmod 10))).toNat :: out) hy.1 hy.2 ⟨rfl, rfl, rfl, trivial⟩ rfl
    · skip
      repeat' first
        | (refine LOps.ans (AnsL.toStrI tT_ok rfl rfl rfl rfl rfl rfl rfl rfl rfl) ?_)
        | (refine kOps ?_; first | (refine LOps.nil ?_) | (refine LOps.ev tT_ok rfl ?_) | (refine kBsl ?_; first | (refine LOps.bsl tT_ok rfl rfl rfl rfl rfl rfl rfl rfl rfl rfl rfl ?_)) | (refine kBin ?_; first | (refine LOps.ans (AnsL.cat rfl rfl ?_) ?_; (focus (exact catB (by first | decide | simp) (Nat.le_trans hx3 (by omega))))) | (refine LOps.ans (AnsL.add rfl rfl ?_) ?_; (focus (constructor <;> omega)))))
        | (refine kWL ?_; first | (refine WL.seq ?_) | (refine WL.region (by kernel_rfl) ?_) | (refine WL.block ?_) | (refine WL.skip ?_) | (refine kCond ?_; first | (refine WL.condT' rfl ?_ ?_; (focus (first | (simp only [decide_eq_true_eq, decide_eq_false_iff_not, Bool.not_eq_true', Bool.not_eq_false', Int.ofNat_lt, Int.ofNat_le, Int.ofNat_inj, not_true_eq_false, not_false_eq_true]; omega)))) | (refine WL.condF' rfl ?_ ?_; (focus (first | (exact decide_eq_false (by assumption)))))))
        | (refine lthen_n ?_)
        | (refine lblock_n ?_)
      have hy := dig_inv (q := IntKind.i64.wrap (m.tdiv 10)) (x := IntKind.u8.wrap (48 + m.tmod 10)) hm (hx1 hm) hD hx4 hx5 hw64 (by rw [wrapU8 (by omega) (by omega)]; omega)
      exact lbackD.of (IntKind.i64.wrap (m.tdiv 10), UInt8.ofNat (IntKind.u8.wrap (48 + m.tmod 10)).toNat :: out) hy.1 hy.2 ⟨rfl, rfl, rfl, trivial⟩ rfl
end Go.Proofs.YtbnbmcplmipgdaaGreatDoor
