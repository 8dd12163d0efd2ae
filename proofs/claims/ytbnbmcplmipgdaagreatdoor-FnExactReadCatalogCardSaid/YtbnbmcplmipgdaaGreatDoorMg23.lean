/-
  What stands in quotes, of the reference.
  Signs and tokens that are right, of the reference.
  Own work; no condition.
-/
import Derived.Test.YtbnbmcplmipgdaaGreatDoorDLexS2
import Derived.Test.YtbnbmcplmipgdaaGreatDoorMg13
import Derived.Test.YtbnbmcplmipgdaaGreatDoorMg15
namespace Go.Proofs.YtbnbmcplmipgdaaGreatDoor
open Go
set_option linter.unusedSimpArgs false
set_option linter.unusedVariables false

theorem AnsL.toStrQ {P : Program} {L : Kn} {s : S} {tt : BT} (ht : tt.ok P) {U T e : TypeId} {u t te : Ty} {x : Operand} {id : Nat} {us : List V} {bs : List UInt8} (hx : opd L x = some (.sl id us)) (hU : tt.get U = some u) (hku : u.kd = .slice e) (hT : tt.get T = some t) (hkt : t.kd = .string)
    (hte : tt.get e = some te) (hke : te.kd = .int .u8) (hsz : Nat.beq te.size 1 = true) (hb : vbytes us = some bs) : AnsL P (.convert U T x) L s (.str bs) :=
  .of fun σ hσ _ _ _ _ _ => by
    have h1 : te.size = 1 := Nat.eq_of_beq_eq_true hsz
    simp only [vop, opd_eq hσ hx, vconvert, vtoStr, ht.get hU, ht.get hT, hku, hkt, ht.get hte, hke, h1, if_true, elemsOf, hb, Option.bind_some, Option.map_some]
theorem quotS_ne {q b : UInt8} {l : List UInt8} (h : b ≠ q) : quotS q (b :: l) = (quotS q l).map (fun x => (b :: x.1, x.2 + 1)) := by
  cases l <;> simp [quotS, h]
theorem quotS_end {q : UInt8} : quotS q [q] = some ([], 1) := by
  rw [quotS, if_pos rfl]
theorem quotS_stop {q c : UInt8} {l : List UInt8} (h : c ≠ q) : quotS q (q :: c :: l) = some ([], 1) := by
  rw [quotS, if_pos rfl]
  simp only [if_neg h]
theorem quotS_two {q : UInt8} {l : List UInt8} : quotS q (q :: q :: l) = (quotS q l).map (fun x => (q :: x.1, x.2 + 2)) := by
  rw [quotS, if_pos rfl]
  simp only [if_true]
/-- The answer of the reference's reader of quotes. -/
def quotV (l : List UInt8) (a : Nat) : Option (List UInt8 × Nat) → V
  | some x => .tup [.str x.1, .int .i64 ((a + 1 + x.2 : Nat) : Int)]
  | none => .tup [.str [], .int .i64 (-1)]
set_option maxHeartbeats 2000000 in
theorem specl3Quoted_b (l : List UInt8) (hl : l.length ≤ 1048576) (a : Nat) (ha : a < l.length) {s : S} {H : List BE} (hh : Hold s s.next H) : VCalls Tryz.prog 61 [.str l, .int .i64 (a : Int)] (s.ext []) (fun v t => v = quotV l a (quotS l[a] (l.drop (a + 1))) ∧ ∃ s' : S, t = s'.ext [] ∧ Hold s' s'.next H) := by
  have hga : l[a]? = some l[a] := by simp [ha]
  generalize l[a] = q at hga ⊢
  refine LCalls.body0 Tryz.func61 rfl (by kernel_rfl) ?_
  repeat' first
    | (refine kOps ?_; first | (refine LOps.nil ?_) | (refine LOps.ev tT_ok rfl ?_) | (refine kBsl ?_; first | (refine LOps.bsl0 tT_ok rfl rfl rfl rfl rfl ?_)) | (refine kBin ?_; first | (refine LOps.ans (AnsL.add rfl rfl ?_) ?_; (focus (constructor <;> omega)))) | (refine kSidx ?_; first | (refine LOps.ans (AnsL.sidx tT_ok rfl rfl rfl rfl hga) ?_)))
    | (refine kWL ?_; first | (refine WL.seq ?_) | (refine WL.region (by kernel_rfl) ?_) | (refine WL.block ?_))
    | (refine lthen_n ?_)
  refine WL.zfamH (t := 7) 1 rfl rfl hh (fun s id hh => ?_)
  refine WL.loopH (fun y : Nat × List UInt8 => l.length - y.1) (fun y => [(0, .str l), (6, .int .u8 (q.toNat : Int)), (7, .sl id (bL y.2)), (8, .int .i64 (y.1 : Int))]) (fun y => .acc id 1 (bL y.2) (bL y.2) :: H)
    (fun y => a + 1 ≤ y.1 ∧ y.1 ≤ l.length ∧ y.2.length ≤ y.1 ∧ quotS q (l.drop (a + 1)) = (quotS q (l.drop y.1)).map (fun x => (y.2 ++ x.1, x.2 + (y.1 - (a + 1))))) (a + 1, []) ⟨Nat.le_refl _, by dsimp only; omega, Nat.zero_le _, by simp⟩ ⟨rfl, rfl, rfl, rfl, trivial⟩ hh (Sel.refl _) (fun y s hI hh => ?_)
  obtain ⟨i, out⟩ := y
  obtain ⟨g1, g2, g3, g4⟩ := hI
  dsimp only at g1 g2 g3 g4 hh ⊢
  have hB : (bL out).length ≤ 1048577 := by rw [bL_len]; omega
  rcases Nat.lt_or_ge i l.length with hlt | hge
  · have hlt' : (i : Int) < (l.length : Int) := by omega
    have hg : l[i]? = some l[i] := by simp [hlt]
    have hd : l.drop i = l[i] :: l.drop (i + 1) := List.drop_eq_getElem_cons hlt
    rw [hd] at g4
    have hst : ∀ b, bL (out ++ [b]) = bL out ++ [V.int .u8 (b.toNat : Int)] := fun b => by rw [bL_app]; rfl
    by_cases hb : l[i] = q
    · have hbn : ¬ (l[i].toNat : Int) ≠ (q.toNat : Int) := by rw [hb]; omega
      rw [hb] at g4
      have hE : vbytes (bL out) = some out := bL_bytes out
      by_cases hend : i + 1 < l.length
      · have hend' : ¬ (i : Int) + 1 ≥ (l.length : Int) := by omega
        have hg2 : l[i + 1]? = some l[i + 1] := by simp [hend]
        rw [List.drop_eq_getElem_cons hend] at g4
        by_cases hc : l[i + 1] = q
        · rw [hc, quotS_two, Option.map_map] at g4
          have hcn : ¬ (l[i + 1].toNat : Int) ≠ (q.toNat : Int) := by rw [hc]; omega
          generalize hBo : bL out = B at hh hB hst ⊢
          repeat' first
            | (refine kBsl ?_ ; refine' LOps.bslH tT_ok rfl rfl rfl rfl rfl rfl rfl rfl hh ?_ ?_ ?_ ; rotate_left 2 ; (focus ((repeat' first | (exact ConsL.pls rfl rfl)); done)) ; (focus ((repeat' first | (exact ElsH.of rfl)); done)) ; intro s n hh)
            | (refine kApp ?_ ; first | (refine' LOps.appH tT_ok 1 rfl rfl rfl rfl rfl rfl rfl rfl rfl rfl hh ?_ ?_ (AppB.of ?_ rfl) ?_ ; rotate_left 3 ; (focus (first | (refine' ConsSp.ap ?_; ((repeat' first | (exact Pick.here)); done)))) ; (focus ((repeat' first | (exact Elems.of rfl)); done)) ; (focus (first | omega | (simp ; omega))) ; intro s hh))
            | (refine kOps ?_; first | (refine LOps.nil ?_) | (refine kG ?_; first | (refine LOps.gT rfl rfl rfl ?_) | (refine LOps.gD false rfl rfl rfl ?_ ?_; (focus (first | (exact decide_eq_false (by assumption)))))) | (refine LOps.ev tT_ok rfl ?_) | (refine kBin ?_; first | (refine LOps.ans (AnsL.add rfl rfl ?_) ?_; (focus (constructor <;> omega)))) | (refine kSidx ?_; first | (refine LOps.ans (AnsL.sidx tT_ok rfl rfl rfl rfl hg) ?_) | (refine LOps.ans (AnsL.sidx (j := i + 1) tT_ok rfl rfl rfl rfl hg2) ?_)))
            | (refine kWL ?_; first | (refine WL.seq ?_) | (refine WL.region (by kernel_rfl) ?_) | (refine WL.block ?_) | (refine WL.skip ?_) | (refine kCond ?_; first | (refine WL.condT' rfl ?_ ?_; (focus (first | (exact decide_eq_true (by assumption))))) | (refine WL.condF' rfl ?_ ?_; (focus (first | (simp only [decide_eq_true_eq, decide_eq_false_iff_not, Bool.not_eq_true', Bool.not_eq_false', Int.ofNat_lt, Int.ofNat_le, Int.ofNat_inj, not_true_eq_false, not_false_eq_true]; omega))))))
            | (refine lthen_n ?_)
            | (refine lblock_n ?_)
          have e : B ++ [V.int .u8 (q.toNat : Int)] = bL (out ++ [q]) := (hst q).symm
          rw [e] at hh
          refine lbackH.of (i + 2, out ++ [q]) ⟨rfl, rfl, by rw [← e]; rfl, rfl, trivial⟩ hh (Sel.refl _) ⟨by dsimp only; omega, by dsimp only; omega, by simp only [List.length_append, List.length_singleton]; omega, ?_⟩ (by dsimp only; omega)
          dsimp only
          rw [g4]
          congr 1
          funext x
          simp only [Function.comp_apply, List.append_assoc, List.cons_append, List.nil_append, Prod.mk.injEq, true_and]
          omega
        · rw [quotS_stop hc] at g4
          have hcn : (l[i + 1].toNat : Int) ≠ (q.toNat : Int) := fun h => hc (UInt8.toNat_inj.1 (by omega))
          generalize bL out = B at hh hB hE ⊢
          repeat' first
            | (refine LOps.ans (AnsL.toStrQ tT_ok rfl rfl rfl rfl rfl rfl rfl rfl hE) ?_)
            | (refine kOps ?_; first | (refine LOps.nil ?_) | (refine kG ?_; first | (refine LOps.gT rfl rfl rfl ?_) | (refine LOps.gD false rfl rfl rfl ?_ ?_; (focus (first | (exact decide_eq_false (by assumption)))))) | (refine LOps.ev tT_ok rfl ?_) | (refine kBin ?_; first | (refine LOps.ans (AnsL.add rfl rfl ?_) ?_; (focus (constructor <;> omega)))) | (refine kSidx ?_; first | (refine LOps.ans (AnsL.sidx tT_ok rfl rfl rfl rfl hg) ?_) | (refine LOps.ans (AnsL.sidx (j := i + 1) tT_ok rfl rfl rfl rfl hg2) ?_)))
            | (refine kWL ?_; first | (refine WL.seq ?_) | (refine WL.region (by kernel_rfl) ?_) | (refine WL.block ?_) | (refine WL.skip ?_) | (refine WL.ret ?_) | (refine kCond ?_; first | (refine WL.condT' rfl ?_ ?_; (focus (first | (exact decide_eq_true (by assumption)) | (simp only [decide_eq_true_eq, decide_eq_false_iff_not, Bool.not_eq_true', Bool.not_eq_false', Int.ofNat_lt, Int.ofNat_le, Int.ofNat_inj, not_true_eq_false, not_false_eq_true]; omega)))) | (refine WL.condF' rfl ?_ ?_; (focus (first | (simp only [decide_eq_true_eq, decide_eq_false_iff_not, Bool.not_eq_true', Bool.not_eq_false', Int.ofNat_lt, Int.ofNat_le, Int.ofNat_inj, not_true_eq_false, not_false_eq_true]; omega))))))
            | (refine lthen_n ?_)
            | (refine lthen_r ?_)
            | (refine lblock_r ?_)
            | (refine lbackH_r ?_)
            | (refine LPost.r2 (r := .tmp 4) (r' := .tmp 5) (.inl rfl) (Res1.tmp rfl) (Res1.tmp rfl) ?_)
          refine ⟨?_, s, rfl, hh.sel (Sel.drop (Sel.refl _))⟩
          rw [g4]
          simp only [Option.map_some, quotV, List.append_nil]
          rw [show ((a + 1 + (1 + (i - (a + 1))) : Nat) : Int) = (i : Int) + 1 by omega]
          try rfl
      · have hend' : (i : Int) + 1 ≥ (l.length : Int) := by omega
        rw [List.drop_of_length_le (show l.length ≤ i + 1 by omega), quotS_end] at g4
        generalize bL out = B at hh hB hE ⊢
        repeat' first
          | (refine LOps.ans (AnsL.toStrQ tT_ok rfl rfl rfl rfl rfl rfl rfl rfl hE) ?_)
          | (refine kOps ?_; first | (refine LOps.nil ?_) | (refine kG ?_; first | (refine LOps.gF rfl rfl rfl ?_) | (refine LOps.gD true rfl rfl rfl ?_ ?_; (focus (first | (exact decide_eq_true (by assumption)))))) | (refine LOps.ev tT_ok rfl ?_) | (refine kBin ?_; first | (refine LOps.ans (AnsL.add rfl rfl ?_) ?_; (focus (constructor <;> omega)))) | (refine kSidx ?_; first | (refine LOps.ans (AnsL.sidx tT_ok rfl rfl rfl rfl hg) ?_)))
          | (refine kWL ?_; first | (refine WL.seq ?_) | (refine WL.region (by kernel_rfl) ?_) | (refine WL.block ?_) | (refine WL.skip ?_) | (refine WL.ret ?_) | (refine kCond ?_; first | (refine WL.condT rfl ?_) | (refine WL.condT' rfl ?_ ?_; (focus (first | (exact decide_eq_true (by assumption))))) | (refine WL.condF' rfl ?_ ?_; (focus (first | (simp only [decide_eq_true_eq, decide_eq_false_iff_not, Bool.not_eq_true', Bool.not_eq_false', Int.ofNat_lt, Int.ofNat_le, Int.ofNat_inj, not_true_eq_false, not_false_eq_true]; omega))))))
          | (refine lthen_n ?_)
          | (refine lthen_r ?_)
          | (refine lblock_r ?_)
          | (refine lbackH_r ?_)
          | (refine LPost.r2 (r := .tmp 4) (r' := .tmp 5) (.inl rfl) (Res1.tmp rfl) (Res1.tmp rfl) ?_)
        refine ⟨?_, s, rfl, hh.sel (Sel.drop (Sel.refl _))⟩
        rw [g4]
        simp only [Option.map_some, quotV, List.append_nil]
        rw [show ((a + 1 + (1 + (i - (a + 1))) : Nat) : Int) = (i : Int) + 1 by omega]
        try rfl
    · rw [quotS_ne hb, Option.map_map] at g4
      have hbn : (l[i].toNat : Int) ≠ (q.toNat : Int) := fun h => hb (UInt8.toNat_inj.1 (by omega))
      generalize l[i] = b at hg hbn g4
      generalize hBo : bL out = B at hh hB hst ⊢
      repeat' first
        | (refine kBsl ?_ ; refine' LOps.bslH tT_ok rfl rfl rfl rfl rfl rfl rfl rfl hh ?_ ?_ ?_ ; rotate_left 2 ; (focus ((repeat' first | (exact ConsL.pls rfl rfl)); done)) ; (focus ((repeat' first | (exact ElsH.of rfl)); done)) ; intro s n hh)
        | (refine kApp ?_ ; first | (refine' LOps.appH tT_ok 1 rfl rfl rfl rfl rfl rfl rfl rfl rfl rfl hh ?_ ?_ (AppB.of ?_ rfl) ?_ ; rotate_left 3 ; (focus (first | (refine' ConsSp.ap ?_; ((repeat' first | (exact Pick.here)); done)))) ; (focus ((repeat' first | (exact Elems.of rfl)); done)) ; (focus (first | omega | (simp ; omega))) ; intro s hh))
        | (refine kOps ?_; first | (refine LOps.nil ?_) | (refine LOps.ev tT_ok rfl ?_) | (refine kBin ?_; first | (refine LOps.ans (AnsL.add rfl rfl ?_) ?_; (focus (constructor <;> omega)))) | (refine kSidx ?_; first | (refine LOps.ans (AnsL.sidx tT_ok rfl rfl rfl rfl hg) ?_)))
        | (refine kWL ?_; first | (refine WL.seq ?_) | (refine WL.region (by kernel_rfl) ?_) | (refine WL.block ?_) | (refine WL.exit ?_) | (refine WL.skip ?_) | (refine kCond ?_; first | (refine WL.condT' rfl ?_ ?_; (focus (first | (exact decide_eq_true (by assumption)) | (simp only [decide_eq_true_eq, decide_eq_false_iff_not, Bool.not_eq_true', Bool.not_eq_false', Int.ofNat_lt, Int.ofNat_le, Int.ofNat_inj, not_true_eq_false, not_false_eq_true]; omega))))))
        | (refine lthen_n ?_)
        | (refine lthen_e ?_)
        | (refine lblock_e ?_)
      have e : B ++ [V.int .u8 (b.toNat : Int)] = bL (out ++ [b]) := (hst b).symm
      rw [e] at hh
      refine lbackH.of (i + 1, out ++ [b]) ⟨rfl, rfl, by rw [← e]; rfl, rfl, trivial⟩ hh (Sel.refl _) ⟨by dsimp only; omega, by dsimp only; omega, by simp only [List.length_append, List.length_singleton]; omega, ?_⟩ (by dsimp only; omega)
      dsimp only
      rw [g4]
      congr 1
      funext x
      simp only [Function.comp_apply, List.append_assoc, List.cons_append, List.nil_append, Prod.mk.injEq, true_and]
      omega
  · have hlt' : ¬ (i : Int) < (l.length : Int) := by omega
    rw [List.drop_of_length_le hge] at g4
    have hn : quotS q (l.drop (a + 1)) = none := g4
    rw [hn]
    repeat' first
      | (refine kOps ?_; first | (refine LOps.nil ?_) | (refine LOps.ev tT_ok rfl ?_))
      | (refine kWL ?_; first | (refine WL.seq ?_) | (refine WL.region (by kernel_rfl) ?_) | (refine WL.exit ?_) | (refine WL.ret ?_) | (refine kCond ?_; first | (refine WL.condF' rfl ?_ ?_; (focus (first | (exact decide_eq_false (by assumption)))))))
      | (refine lthen_n ?_)
      | (refine lthen_e ?_)
      | (refine lblock_e ?_)
      | (refine lbackH_e ?_)
      | (refine LPost.r2 (r := .tmp 4) (r' := .tmp 5) (.inl rfl) (Res1.tmp rfl) (Res1.tmp rfl) ?_)
    exact ⟨rfl, s, rfl, hh.sel (Sel.drop (Sel.refl _))⟩

end Go.Proofs.YtbnbmcplmipgdaaGreatDoor

namespace Go.Proofs.YtbnbmcplmipgdaaGreatDoor
open Go
set_option linter.unusedSimpArgs false
set_option linter.unusedVariables false

def signL : List (List UInt8) := [[40], [41], [44], [46], [42], [43], [45], [47], [37], [61], [60, 62], [60], [60, 61], [62], [62, 61], [124, 124]]
def signOk (l : List UInt8) : Bool := decide (l ∈ signL)
set_option maxHeartbeats 2000000 in
theorem specSignOk_v (l : List UInt8) (s : S) : VCalls Tryz.prog 62 [.str l] s (fun v s' => v = .bool (signOk l) ∧ s' = s) := by
  by_cases h : l ∈ signL
  · have e : signOk l = true := decide_eq_true h
    rw [e]
    simp only [signL, List.mem_cons, List.not_mem_nil, or_false] at h
    rcases h with rfl | rfl | rfl | rfl | rfl | rfl | rfl | rfl | rfl | rfl | rfl | rfl | rfl | rfl | rfl | rfl
    all_goals
      refine LCalls.pure Tryz.func62 rfl (by kernel_rfl) (by simp) ?_
      repeat' first
        | (refine kOps ?_; first | (refine LOps.nil ?_) | (refine LOps.ev tT_ok rfl ?_))
        | (refine kWL ?_; first | (refine WL.seq ?_) | (refine WL.region (by kernel_rfl) ?_) | (refine WL.block ?_) | (refine WL.skip ?_) | (refine WL.ret ?_) | (refine kCond ?_; first | (refine WL.condT rfl ?_) | (refine WL.condF rfl ?_)))
        | (refine lthen_n ?_)
        | (refine lthen_r ?_)
        | (refine lblock_r ?_)
        | (refine LPost.r1 (r := .tmp 2) (.inl rfl) (Res1.tmp rfl) ?_)
        | (refine PureR.mk ?_)
      rfl
  · have e : signOk l = false := decide_eq_false h
    rw [e]
    simp only [signL, List.mem_cons, List.not_mem_nil, or_false, not_or] at h
    obtain ⟨h1, h2, h3, h4, h5, h6, h7, h8, h9, h10, h11, h12, h13, h14, h15, h16⟩ := h
    refine LCalls.pure Tryz.func62 rfl (by kernel_rfl) (by simp) ?_
    repeat' first
      | (refine kOps ?_; first | (refine LOps.nil ?_) | (refine LOps.ev tT_ok rfl ?_))
      | (refine kWL ?_; first | (refine WL.seq ?_) | (refine WL.region (by kernel_rfl) ?_) | (refine WL.block ?_) | (refine WL.skip ?_) | (refine WL.ret ?_) | (refine kCond ?_; first | (refine WL.condF' rfl ?_ ?_; (focus (first | (exact decide_eq_false (by assumption)))))))
      | (refine lthen_n ?_)
      | (refine lblock_n ?_)
      | (refine LPost.r1 (r := .tmp 2) (.inl rfl) (Res1.tmp rfl) ?_)
      | (refine PureR.mk ?_)
    rfl

theorem implsigns_v (s : S) : VCalls Tryz.prog 73 [] s (fun v s' => v = .sl 0 (signL.map V.str) ∧ s' = s) := by
  refine LCalls.pure Tryz.func73 rfl (by kernel_rfl) (by simp) ?_
  repeat' first
    | (refine kBsl ?_ ; refine LOps.ans (AnsL.bslF tT_ok rfl rfl rfl rfl rfl rfl rfl rfl rfl) ?_)
    | (refine kOps ?_; first | (refine LOps.nil ?_) | (refine LOps.ev tT_ok rfl ?_))
    | (refine kWL ?_; first | (refine WL.seq ?_) | (refine WL.region (by kernel_rfl) ?_) | (refine WL.ret ?_))
    | (refine lthen_n ?_)
    | (refine LPost.r1 (r := .tmp 0) (.inl rfl) (Res1.tmp rfl) ?_)
    | (refine PureR.mk ?_)
  rfl
theorem idxI_mem (ws : List (List UInt8)) (x : List UInt8) : decide (idxI ws x ≥ 0) = decide (x ∈ ws) := by
  unfold idxI
  cases e : ws.findIdx? (fun w => decide (w = x)) with
  | none =>
    rw [List.findIdx?_eq_none_iff] at e
    have : x ∉ ws := fun h => by simpa using e x h
    simp [this]
  | some k =>
    rw [List.findIdx?_eq_some_iff_getElem] at e
    obtain ⟨h, h1, _⟩ := e
    have : x ∈ ws := by
      rw [← of_decide_eq_true h1]
      exact List.getElem_mem h
    simp [this]
theorem containsStr_v (ws : List (List UInt8)) (hw : ws.length ≤ 1048576) (x : List UInt8) (s : S) : VCalls Tryz.prog 102 [.sl 0 (ws.map V.str), .str x] s (fun v s' => v = .bool (decide (x ∈ ws)) ∧ s' = s) := by
  have hI := fun t => slicesIndex_v ws hw x t
  rw [← idxI_mem]
  generalize idxI ws x = n at hI ⊢
  refine LCalls.pure Tryz.func102 rfl (by kernel_rfl) (by simp) ?_
  repeat' first
    | (refine kOps ?_; first | (refine LOps.nil ?_) | (refine LOps.ev tT_ok rfl ?_) | (refine kCallN 19 ?_; first | (refine LOps.ans (AnsL.callP rfl rfl rfl (ok19) (hI _)) ?_)))
    | (refine kWL ?_; first | (refine WL.seq ?_) | (refine WL.region (by kernel_rfl) ?_) | (refine WL.ret ?_))
    | (refine lthen_n ?_)
    | (refine LPost.r1 (r := .tmp 4) (.inl rfl) (Res1.tmp rfl) ?_)
    | (refine PureR.mk ?_)
  rfl
theorem implSignOk_v (l : List UInt8) (s : S) : VCalls Tryz.prog 90 [.str l] s (fun v s' => v = .bool (signOk l) ∧ s' = s) := by
  have hS := fun t => implsigns_v t
  have hC := fun t => containsStr_v signL (by decide) l t
  have hp : V.plain (.sl 0 (signL.map V.str)) = true := plain_strs signL
  unfold signOk
  generalize decide (l ∈ signL) = b at hC ⊢
  generalize signL = ws at hS hC hp
  refine LCalls.pure Tryz.func90 rfl (by kernel_rfl) (by simp) ?_
  repeat' first
    | (refine kOps ?_; first | (refine LOps.nil ?_) | (refine LOps.ev tT_ok rfl ?_) | (refine kCallN 102 ?_; first | (refine LOps.ans (AnsL.callP rfl rfl rfl (ok102) (hC _)) ?_)) | (refine kCallN 73 ?_; first | (refine LOps.ans (AnsL.callP rfl rfl rfl (ok73) (hS _)) ?_)))
    | (refine kWL ?_; first | (refine WL.seq ?_) | (refine WL.region (by kernel_rfl) ?_) | (refine WL.ret ?_))
    | (refine lthen_n ?_)
    | (refine LPost.r1 (r := .tmp 2) (.inl rfl) (Res1.tmp rfl) ?_)
    | (refine PureR.mk ?_)
  rfl

end Go.Proofs.YtbnbmcplmipgdaaGreatDoor
