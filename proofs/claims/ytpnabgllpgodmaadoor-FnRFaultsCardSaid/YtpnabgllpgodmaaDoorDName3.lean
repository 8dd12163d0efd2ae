/-
  Names' texts: quotes, and the program's PlainName. Own work; no condition.
-/
import Derived.Test.YtpnabgllpgodmaaDoorDName2
namespace Go.Proofs.YtpnabgllpgodmaaDoor
open Go Go.RowKit
set_option linter.unusedSimpArgs false
set_option linter.unusedVariables false

set_option maxHeartbeats 4000000 in
theorem implPlainName_v (l : List UInt8) (s : S) : VCalls Tryd.prog 22 [.str l] s (fun v s' => v = .bool (plainN l) ∧ s' = s) := by
  have hO := fun t => implNameOk_v l t
  cases hok : nameOk l
  · have hp : plainN l = false := by
      cases l with
      | nil => rfl
      | cons c l =>
        have : ¬ (c :: l).length ≤ 20 := fun h => by simp only [nameOk, List.length_cons, Bool.and_eq_false_iff, decide_eq_false_iff_not] at hok h; omega
        rw [plainN_cons, decide_eq_false this]
        rfl
    rw [hok] at hO
    rw [hp]
    refine LCalls.pure Tryd.func22 rfl (by kernel_rfl) (by simp) ?_
    repeat' first
      | (refine kOps ?_; first | (refine LOps.nil ?_) | (refine kG ?_; first | (refine LOps.gF rfl rfl rfl ?_)) | (refine LOps.ev tT_ok rfl ?_) | (refine kCallN 21 ?_; first | (refine LOps.ans (AnsL.callP rfl rfl rfl (ok21) (hO _)) ?_)))
      | (refine kWL ?_; first | (refine WL.seq ?_) | (refine WL.region (by kernel_rfl) ?_) | (refine WL.ret ?_) | (refine kCond ?_; first | (refine WL.condT rfl ?_)))
      | (refine lthen_n ?_)
      | (refine lthen_r ?_)
      | (refine LPost.r1 (r := .tmp 2) (.inl rfl) (Res1.tmp rfl) ?_)
      | (refine PureR.mk ?_)
    all_goals rfl
  rw [hok] at hO
  have hlen : l.length ≤ 20 := by simp only [nameOk, Bool.and_eq_true, decide_eq_true_eq] at hok; omega
  obtain ⟨c, l', rfl⟩ : ∃ c l', l = c :: l' := by
    cases l with
    | nil => cases hok
    | cons c l => exact ⟨_, _, rfl⟩
  have hg0 : (c :: l')[0]? = some c := rfl
  have hF0 := fun t => implisDigit_v (c.toNat : Int) t
  have hK := fun t => implKeyOf_v (c :: l') (by omega) t
  have hp : plainN (c :: l') = (!figI (c.toNat : Int) && decide (keyI (fold (c :: l')) = 0) && (c :: l').all fun c => partI (c.toNat : Int)) := by
    rw [plainN_cons, decide_eq_true hlen]
    rfl
  rw [hp]
  have hnn := keyI_nn (fold (c :: l'))
  generalize figI (c.toNat : Int) = fg at hF0 ⊢
  generalize keyI (fold (c :: l')) = ky at hK hnn ⊢
  generalize c :: l' = l at *
  cases fg
  case true =>
    refine LCalls.pure Tryd.func22 rfl (by kernel_rfl) (by simp) ?_
    repeat' first
      | (refine kOps ?_; first | (refine LOps.nil ?_) | (refine kG ?_; first | (refine LOps.gT rfl rfl rfl ?_) | (refine LOps.gF rfl rfl rfl ?_)) | (refine LOps.ev tT_ok rfl ?_) | (refine kSidx ?_; first | (refine LOps.ans (AnsL.sidx (j := 0) tT_ok rfl rfl rfl rfl hg0) ?_)) | (refine kCallN 21 ?_; first | (refine LOps.ans (AnsL.callP rfl rfl rfl (ok21) (hO _)) ?_)) | (refine kCallN 28 ?_; first | (refine LOps.ans (AnsL.callP rfl rfl rfl (ok28) (hF0 _)) ?_)))
      | (refine kWL ?_; first | (refine WL.seq ?_) | (refine WL.region (by kernel_rfl) ?_) | (refine WL.ret ?_) | (refine kCond ?_; first | (refine WL.condT rfl ?_)))
      | (refine lthen_n ?_)
      | (refine lthen_r ?_)
      | (refine LPost.r1 (r := .tmp 2) (.inl rfl) (Res1.tmp rfl) ?_)
      | (refine PureR.mk ?_)
    all_goals rfl
  by_cases hk : ky ≠ 0
  · have hk0 : ¬ ky = 0 := hk
    refine LCalls.pure Tryd.func22 rfl (by kernel_rfl) (by simp) ?_
    repeat' first
      | (refine kOps ?_; first | (refine LOps.nil ?_) | (refine kG ?_; first | (refine LOps.gT rfl rfl rfl ?_)) | (refine LOps.ev tT_ok rfl ?_) | (refine kSidx ?_; first | (refine LOps.ans (AnsL.sidx (j := 0) tT_ok rfl rfl rfl rfl hg0) ?_)) | (refine kCallN 21 ?_; first | (refine LOps.ans (AnsL.callP rfl rfl rfl (ok21) (hO _)) ?_)) | (refine kCallN 28 ?_; first | (refine LOps.ans (AnsL.callP rfl rfl rfl (ok28) (hF0 _)) ?_)) | (refine kCallN 29 ?_; first | (refine LOps.ans (AnsL.callP rfl rfl rfl (ok29) (hK _)) ?_)))
      | (refine kWL ?_; first | (refine WL.seq ?_) | (refine WL.region (by kernel_rfl) ?_) | (refine WL.ret ?_) | (refine kCond ?_; first | (refine WL.condT' rfl ?_ ?_; (focus (first | (simp only [decide_eq_true_eq, decide_eq_false_iff_not, Bool.not_eq_true', Bool.not_eq_false', Int.ofNat_lt, Int.ofNat_le, Int.ofNat_inj, not_true_eq_false, not_false_eq_true]; omega))))))
      | (refine lthen_n ?_)
      | (refine lthen_r ?_)
      | (refine LPost.r1 (r := .tmp 2) (.inl rfl) (Res1.tmp rfl) ?_)
      | (refine PureR.mk ?_)
    all_goals simp [hk0]
  have hk0 : ky = 0 := by omega
  rw [decide_eq_true hk0]
  show VCalls _ _ _ _ (fun v s' => v = .bool (l.all fun c => partI (c.toNat : Int)) ∧ s' = s)
  refine VCalls.pureOf rfl rfl (fun s => ?_) s
  have hh : Hold s s.next [] := .start _ _
  refine LCalls.body Tryd.func22 rfl (by kernel_rfl) ?_
  repeat' first
    | (refine kOps ?_; first | (refine LOps.nil ?_) | (refine kG ?_; first | (refine LOps.gT rfl rfl rfl ?_)) | (refine LOps.ev tT_ok rfl ?_) | (refine kSidx ?_; first | (refine LOps.ans (AnsL.sidx (j := 0) tT_ok rfl rfl rfl rfl hg0) ?_)) | (refine kCallN 21 ?_; first | (refine LOps.ans (AnsL.callP rfl rfl rfl (ok21) (hO _)) ?_)) | (refine kCallN 28 ?_; first | (refine LOps.ans (AnsL.callP rfl rfl rfl (ok28) (hF0 _)) ?_)) | (refine kCallN 29 ?_; first | (refine LOps.ans (AnsL.callP rfl rfl rfl (ok29) (hK _)) ?_)))
    | (refine kWL ?_; first | (refine WL.seq ?_) | (refine WL.region (by kernel_rfl) ?_) | (refine WL.block ?_) | (refine WL.skip ?_) | (refine kCond ?_; first | (refine WL.condF' rfl ?_ ?_; (focus (first | (simp only [decide_eq_true_eq, decide_eq_false_iff_not, Bool.not_eq_true', Bool.not_eq_false', Int.ofNat_lt, Int.ofNat_le, Int.ofNat_inj, not_true_eq_false, not_false_eq_true]; omega))))))
    | (refine lthen_n ?_)
  refine WL.loopH (fun i : Nat => l.length - i) (fun i => [(0, .str l), (18, .int .i64 (l.length : Int)), (19, .int .i64 (i : Int))])
    (fun i => []) (fun i => i ≤ l.length ∧ ∀ j (hj : j < l.length), j < i → partI (l[j].toNat : Int) = true) 0 ⟨Nat.zero_le _, fun j _ h => by omega⟩ ⟨rfl, rfl, rfl, trivial⟩ hh (Sel.refl _) (fun i s hI hh => ?_)
  obtain ⟨hi, hn⟩ := hI
  rcases Nat.lt_or_ge i l.length with hlt | hge
  · have hg : l[i]? = some l[i] := by simp [hlt]
    cases he : partI (l[i].toNat : Int)
    · rw [all_no (f := fun c => partI (c.toNat : Int)) hlt he]
      have hL := fun t => implisPart_v (l[i].toNat : Int) t
      rw [he] at hL
      generalize l[i] = y at hg hL
      repeat' first
        | (refine kOps ?_; first | (refine LOps.nil ?_) | (refine LOps.ev tT_ok rfl ?_) | (refine kSidx ?_; first | (refine LOps.ans (AnsL.sidx tT_ok rfl rfl rfl rfl hg) ?_)) | (refine kCallN 30 ?_; first | (refine LOps.ans (AnsL.callP rfl rfl rfl (ok30) (hL _)) ?_)))
        | (refine kWL ?_; first | (refine WL.seq ?_) | (refine WL.region (by kernel_rfl) ?_) | (refine WL.block ?_) | (refine WL.skip ?_) | (refine WL.ret ?_) | (refine kCond ?_; first | (refine WL.condT rfl ?_) | (refine WL.condT' rfl ?_ ?_; (focus (first | (simp only [decide_eq_true_eq, decide_eq_false_iff_not, Bool.not_eq_true', Bool.not_eq_false', Int.ofNat_lt, Int.ofNat_le, Int.ofNat_inj, not_true_eq_false, not_false_eq_true]; omega))))))
        | (refine lthen_n ?_)
        | (refine lthen_r ?_)
        | (refine lblock_r ?_)
        | (refine lbackH_r ?_)
        | (refine LPost.r1 (r := .tmp 2) (.inl rfl) (Res1.tmp rfl) ?_)
      exact ⟨[], .scal rfl, List.nodup_nil⟩
    · have hn' := all_split (f := fun c => partI (c.toNat : Int)) hlt hn he
      have hL := fun t => implisPart_v (l[i].toNat : Int) t
      rw [he] at hL
      generalize l[i] = y at hg hL
      repeat' first
        | (refine kOps ?_; first | (refine LOps.nil ?_) | (refine LOps.ev tT_ok rfl ?_) | (refine kBin ?_; first | (refine LOps.ans (AnsL.add rfl rfl ?_) ?_; (focus (constructor <;> omega)))) | (refine kSidx ?_; first | (refine LOps.ans (AnsL.sidx tT_ok rfl rfl rfl rfl hg) ?_)) | (refine kCallN 30 ?_; first | (refine LOps.ans (AnsL.callP rfl rfl rfl (ok30) (hL _)) ?_)))
        | (refine kWL ?_; first | (refine WL.seq ?_) | (refine WL.region (by kernel_rfl) ?_) | (refine WL.block ?_) | (refine WL.skip ?_) | (refine kCond ?_; first | (refine WL.condF rfl ?_) | (refine WL.condT' rfl ?_ ?_; (focus (first | (simp only [decide_eq_true_eq, decide_eq_false_iff_not, Bool.not_eq_true', Bool.not_eq_false', Int.ofNat_lt, Int.ofNat_le, Int.ofNat_inj, not_true_eq_false, not_false_eq_true]; omega))))))
        | (refine lthen_n ?_)
        | (refine lblock_n ?_)
      exact lbackH.of (i + 1) ⟨rfl, rfl, rfl, trivial⟩ hh (Sel.refl _) ⟨hlt, hn'⟩ (by omega)
  · rw [all_yes (f := fun c => partI (c.toNat : Int)) (fun j hj => hn j hj (by omega))]
    repeat' first
      | (refine kOps ?_; first | (refine LOps.nil ?_) | (refine LOps.ev tT_ok rfl ?_))
      | (refine kWL ?_; first | (refine WL.seq ?_) | (refine WL.region (by kernel_rfl) ?_) | (refine WL.exit ?_) | (refine WL.ret ?_) | (refine kCond ?_; first | (refine WL.condF' rfl ?_ ?_; (focus (first | (simp only [decide_eq_true_eq, decide_eq_false_iff_not, Bool.not_eq_true', Bool.not_eq_false', Int.ofNat_lt, Int.ofNat_le, Int.ofNat_inj, not_true_eq_false, not_false_eq_true]; omega))))))
      | (refine lthen_n ?_)
      | (refine lthen_e ?_)
      | (refine lblock_e ?_)
      | (refine lbackH_e ?_)
      | (refine LPost.r1 (r := .tmp 2) (.inl rfl) (Res1.tmp rfl) ?_)
    exact ⟨[], .scal rfl, List.nodup_nil⟩

def quoted (l : List UInt8) : List UInt8 := [34] ++ quo l ++ [34]
theorem quoted_len (l : List UInt8) : (quoted l).length ≤ 2 * l.length + 2 := by
  have := quo_len l
  simp only [quoted, List.length_append, List.length_singleton]
  omega
theorem implquoted_v (l : List UInt8) (hl : l.length ≤ 20) (s : S) : VCalls Tryd.prog 23 [.str l, .str [34]] s (fun v s' => v = .str (quoted l) ∧ s' = s) := by
  have hR := fun t => stringsReplaceAll_v l (by omega) t
  have hq := quo_len l
  unfold quoted
  generalize quo l = ql at hR hq ⊢
  refine LCalls.pure Tryd.func23 rfl (by kernel_rfl) (by simp) ?_
  repeat' first
    | (refine kOps ?_; first | (refine LOps.nil ?_) | (refine LOps.ev tT_ok rfl ?_) | (refine kBin ?_; first | (refine LOps.ans (AnsL.cat rfl rfl ?_) ?_; (focus (exact le_maxLen (by simp <;> omega))))) | (refine kCallN 31 ?_; first | (refine LOps.ans (AnsL.callP rfl rfl rfl (ok31) (hR _)) ?_)))
    | (refine kWL ?_; first | (refine WL.seq ?_) | (refine WL.region (by kernel_rfl) ?_) | (refine WL.ret ?_))
    | (refine lthen_n ?_)
    | (refine LPost.r1 (r := .tmp 4) (.inl rfl) (Res1.tmp rfl) ?_)
    | (refine PureR.mk ?_)
  rfl

theorem AnsL.toStrJ {P : Program} {L : Kn} {s : S} {tt : BT} (ht : tt.ok P) {U T e : TypeId} {u t te : Ty} {x : Operand} {id : Nat} {us : List V} {bs : List UInt8} (hx : opd L x = some (.sl id us)) (hU : tt.get U = some u) (hku : u.kd = .slice e) (hT : tt.get T = some t) (hkt : t.kd = .string)
    (hte : tt.get e = some te) (hke : te.kd = .int .u8) (hsz : Nat.beq te.size 1 = true) (hb : vbytes us = some bs) : AnsL P (.convert U T x) L s (.str bs) :=
  .of fun σ hσ _ _ _ _ _ => by
    have h1 : te.size = 1 := Nat.eq_of_beq_eq_true hsz
    simp only [vop, opd_eq hσ hx, vconvert, vtoStr, ht.get hU, ht.get hT, hku, hkt, ht.get hte, hke, h1, if_true, elemsOf, hb, Option.bind_some, Option.map_some]
theorem quo_app (a b : List UInt8) : quo (a ++ b) = quo a ++ quo b := by simp [quo]
set_option maxHeartbeats 4000000 in
theorem specl2Quote_v (l : List UInt8) (hl : l.length ≤ 20) (s : S) : VCalls Tryd.prog 20 [.str l, .int .u8 34] s (fun v s' => v = .str (quoted l) ∧ s' = s) := by
  refine VCalls.pureOf rfl rfl (fun s => ?_) s
  have hh : Hold s s.next [] := .start _ _
  refine LCalls.body Tryd.func20 rfl (by kernel_rfl) ?_
  repeat' first
    | (refine kBsl ?_ ; refine' LOps.bslH tT_ok rfl rfl rfl rfl rfl rfl rfl rfl hh ?_ ?_ ?_ ; rotate_left 2 ; (focus ((repeat' first | (exact ConsL.pls rfl rfl)); done)) ; (focus ((repeat' first | (exact ElsH.of rfl)); done)) ; intro s n hh)
    | (refine kOps ?_; first | (refine LOps.nil ?_) | (refine LOps.ev tT_ok rfl ?_))
    | (refine kWL ?_; first | (refine WL.seq ?_) | (refine WL.region (by kernel_rfl) ?_) | (refine WL.block ?_))
    | (refine lthen_n ?_)
  refine WL.loopH (fun i : Nat => l.length - i) (fun i => [(0, .str l), (1, .int .u8 34), (5, .sl n (bL ([34] ++ quo (l.take i)))), (6, .int .i64 (i : Int))])
    (fun i => [.acc n 1 (bL ([34] ++ quo (l.take i))) (bL ([34] ++ quo (l.take i)))]) (fun i => i ≤ l.length) 0 (Nat.zero_le _) ⟨rfl, rfl, rfl, rfl, trivial⟩ hh (Sel.refl _) (fun i s hI hh => ?_)
  try dsimp only at hI hh ⊢
  have hq := quo_len (l.take i)
  have hB : (bL ([34] ++ quo (l.take i))).length ≤ 41 := by
    rw [bL_len, List.length_append, List.length_singleton]
    rw [List.length_take] at hq
    omega
  rcases Nat.lt_or_ge i l.length with hlt | hge
  · have hg : l[i]? = some l[i] := by simp [hlt]
    have hst : bL ([34] ++ quo (l.take (i + 1))) = bL ([34] ++ quo (l.take i)) ++ bL (if l[i] = 34 then [34, 34] else [l[i]]) := by
      rw [List.take_succ_eq_append_getElem hlt, quo_app, ← List.append_assoc, bL_app]
      simp [quo]
    by_cases he : l[i] = 34
    · rw [if_pos he] at hst
      have hgi : ((l[i]).toNat : Int) = 34 := by rw [he]; rfl
      have hv : V.int .u8 ((l[i]).toNat : Int) = V.int .u8 34 := by rw [hgi]
      generalize bL ([34] ++ quo (l.take i)) = B at hh hB hst ⊢
      generalize l[i] = y at hg hgi hv
      repeat' first
        | (refine kBsl ?_ ; refine' LOps.bslH tT_ok rfl rfl rfl rfl rfl rfl rfl rfl hh ?_ ?_ ?_ ; rotate_left 2 ; (focus ((repeat' first | (exact ConsL.pls rfl rfl)); done)) ; (focus ((repeat' first | (exact ElsH.of rfl)); done)) ; intro s n hh)
        | (refine kApp ?_ ; first | (refine' LOps.appH tT_ok 1 rfl rfl rfl rfl rfl rfl rfl rfl rfl rfl hh ?_ ?_ (AppB.of ?_ rfl) ?_ ; rotate_left 3 ; (focus (first | (refine' ConsSp.ap ?_; ((repeat' first | (exact Pick.here)); done)))) ; (focus ((repeat' first | (exact Elems.of rfl)); done)) ; (focus (first | omega | (simp ; omega))) ; intro s hh))
        | (refine kOps ?_; first | (refine LOps.nil ?_) | (refine LOps.ev tT_ok rfl ?_) | (refine kBin ?_; first | (refine LOps.ans (AnsL.add rfl rfl ?_) ?_; (focus (constructor <;> omega)))) | (refine kSidx ?_; first | (refine LOps.ans (AnsL.sidx tT_ok rfl rfl rfl rfl hg) ?_)))
        | (refine kWL ?_; first | (refine WL.seq ?_) | (refine WL.region (by kernel_rfl) ?_) | (refine WL.block ?_) | (refine WL.skip ?_) | (refine kCond ?_; first | (refine WL.condT' rfl ?_ ?_; (focus (first | (exact decide_eq_true (by assumption)) | (simp only [decide_eq_true_eq, decide_eq_false_iff_not, Bool.not_eq_true', Bool.not_eq_false', Int.ofNat_lt, Int.ofNat_le, Int.ofNat_inj, not_true_eq_false, not_false_eq_true]; omega))))))
        | (refine lthen_n ?_)
        | (refine lblock_n ?_)
      have e : B ++ [V.int .u8 34] ++ [V.int .u8 (y.toNat : Int)] = bL ([34] ++ quo (l.take (i + 1))) := by rw [hst, hv, List.append_assoc]; rfl
      rw [e] at hh
      exact lbackH.of (i + 1) ⟨rfl, rfl, by rw [← e]; rfl, rfl, trivial⟩ hh (Sel.refl _) hlt (by omega)
    · rw [if_neg he] at hst
      have hgi : ¬ ((l[i]).toNat : Int) = 34 := fun h => he (UInt8.toNat_inj.1 (by show l[i].toNat = 34; omega))
      generalize bL ([34] ++ quo (l.take i)) = B at hh hB hst ⊢
      generalize l[i] = y at hg hgi hst
      repeat' first
        | (refine kBsl ?_ ; refine' LOps.bslH tT_ok rfl rfl rfl rfl rfl rfl rfl rfl hh ?_ ?_ ?_ ; rotate_left 2 ; (focus ((repeat' first | (exact ConsL.pls rfl rfl)); done)) ; (focus ((repeat' first | (exact ElsH.of rfl)); done)) ; intro s n hh)
        | (refine kApp ?_ ; first | (refine' LOps.appH tT_ok 1 rfl rfl rfl rfl rfl rfl rfl rfl rfl rfl hh ?_ ?_ (AppB.of ?_ rfl) ?_ ; rotate_left 3 ; (focus (first | (refine' ConsSp.ap ?_; ((repeat' first | (exact Pick.here)); done)))) ; (focus ((repeat' first | (exact Elems.of rfl)); done)) ; (focus (first | omega | (simp ; omega))) ; intro s hh))
        | (refine kOps ?_; first | (refine LOps.nil ?_) | (refine LOps.ev tT_ok rfl ?_) | (refine kBin ?_; first | (refine LOps.ans (AnsL.add rfl rfl ?_) ?_; (focus (constructor <;> omega)))) | (refine kSidx ?_; first | (refine LOps.ans (AnsL.sidx tT_ok rfl rfl rfl rfl hg) ?_)))
        | (refine kWL ?_; first | (refine WL.seq ?_) | (refine WL.region (by kernel_rfl) ?_) | (refine WL.block ?_) | (refine WL.skip ?_) | (refine kCond ?_; first | (refine WL.condT' rfl ?_ ?_; (focus (first | (simp only [decide_eq_true_eq, decide_eq_false_iff_not, Bool.not_eq_true', Bool.not_eq_false', Int.ofNat_lt, Int.ofNat_le, Int.ofNat_inj, not_true_eq_false, not_false_eq_true]; omega)))) | (refine WL.condF' rfl ?_ ?_; (focus (first | (exact decide_eq_false (by assumption)))))))
        | (refine lthen_n ?_)
        | (refine lblock_n ?_)
      have e : B ++ [V.int .u8 (y.toNat : Int)] = bL ([34] ++ quo (l.take (i + 1))) := by rw [hst]; rfl
      rw [e] at hh
      exact lbackH.of (i + 1) ⟨rfl, rfl, by rw [← e]; rfl, rfl, trivial⟩ hh (Sel.refl _) hlt (by omega)
  · have e : i = l.length := by omega
    subst e
    have hE : vbytes (bL ([34] ++ quo (l.take l.length)) ++ [V.int .u8 34]) = some (quoted l) := by
      have : bL ([34] ++ quo (l.take l.length)) ++ [V.int .u8 34] = bL (quoted l) := by
        rw [List.take_length]
        show _ ++ bL [34] = _
        rw [← bL_app]
        rfl
      rw [this, bL_bytes]
    generalize bL ([34] ++ quo (l.take l.length)) = B at hh hB hE ⊢
    repeat' first
      | (refine kBsl ?_ ; refine' LOps.bslH tT_ok rfl rfl rfl rfl rfl rfl rfl rfl hh ?_ ?_ ?_ ; rotate_left 2 ; (focus ((repeat' first | (exact ConsL.pls rfl rfl)); done)) ; (focus ((repeat' first | (exact ElsH.of rfl)); done)) ; intro s n hh)
      | (refine kApp ?_ ; first | (refine' LOps.appH tT_ok 1 rfl rfl rfl rfl rfl rfl rfl rfl rfl rfl hh ?_ ?_ (AppB.of ?_ rfl) ?_ ; rotate_left 3 ; (focus (first | (refine' ConsSp.ap ?_; ((repeat' first | (exact Pick.here)); done)))) ; (focus ((repeat' first | (exact Elems.of rfl)); done)) ; (focus (first | omega | (simp ; omega))) ; intro s hh))
      | (refine LOps.ans (AnsL.toStrJ tT_ok rfl rfl rfl rfl rfl rfl rfl rfl hE) ?_)
      | (refine kOps ?_; first | (refine LOps.nil ?_) | (refine LOps.ev tT_ok rfl ?_))
      | (refine kWL ?_; first | (refine WL.seq ?_) | (refine WL.region (by kernel_rfl) ?_) | (refine WL.exit ?_) | (refine WL.ret ?_) | (refine kCond ?_; first | (refine WL.condF' rfl ?_ ?_; (focus (first | (simp only [decide_eq_true_eq, decide_eq_false_iff_not, Bool.not_eq_true', Bool.not_eq_false', Int.ofNat_lt, Int.ofNat_le, Int.ofNat_inj, not_true_eq_false, not_false_eq_true]; omega))))))
      | (refine lthen_n ?_)
      | (refine lthen_e ?_)
      | (refine lblock_e ?_)
      | (refine lbackH_e ?_)
      | (refine LPost.r1 (r := .tmp 4) (.inl rfl) (Res1.tmp rfl) ?_)
    exact ⟨[], .scal rfl, List.nodup_nil⟩

end Go.Proofs.YtpnabgllpgodmaaDoor
