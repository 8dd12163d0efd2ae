/-
  What marks plans' trees and plans and what finds them marked. Printed by a program of our own; no condition.
-/
import Derived.Test.YtehmlklfbllgcaaDPE
namespace Go.Proofs.Ytehmlklfbllgcaa
open Go
set_option linter.unusedSimpArgs false
set_option linter.unusedVariables false

def HeldC (P : Program) (g : FuncId) (d : V) : Prop := ∀ (k : Int) (s : S), 0 ≤ k → nk d k ≤ 4000000000000 → VCalls P g [mkV d k, .int .i64 k] s (fun v s' => v = .int .i64 (nk d k) ∧ s' = s)
section
variable {P : Program} {N : Nat} {ops : Array Oper} {l : List Oper} {K : Kn → S → Prop} {L : Kn} {t : S} {d : Nat} {ty : TypeId} {p : String} {a : Array Edge} {n l0 : Nat}
theorem LOps.markP {f : Operand} {g : FuncId} {args : Array Operand} {B : Array TypeId} {dv v : V} {kk : Int} {m : Nat} {C : List V} {D A Z : List (Nat × List V)} (hf : opd L f = some (.fn g [])) (ha : opdL L args.toList = some [v, .int .i64 kk]) (hok : CallOk P g)
    (hc : MarkC P g dv) (hv : v = (thw m dv).1) (hD : D = A ++ ((thw m dv).2 ++ Z)) (hm : m = n + A.length) (hl : m + cv dv ≤ l0) (h0 : 0 ≤ kk) (hb : nk dv kk ≤ 4000000000000)
    (hk : LOps P N ops l K ((d, .int .i64 (nk dv kk)) :: L) (t.mb n (A ++ ((thw m (mkV dv kk)).2 ++ Z)) l0 C)) :
    LOps P N ops (⟨some d, .call ⟨.value f, args, B⟩, ty, p, a, none⟩ :: l) K L (t.mb n D l0 C) := by
  subst hD
  exact LOps.markE hf ha hok hc hv hm hl h0 hb hk
end
theorem blk_blk (t : S) (n : Nat) (A B : List (Nat × List V)) {m : Nat} (hm : m = n + A.length) : (t.blk n A).blk m B = t.blk n (A ++ B) := by
  subst hm
  refine S.ext_eq (fun x => ?_) (fun _ => rfl) rfl
  simp only [S.blk, List.length_append]
  by_cases h1 : n + A.length ≤ x ∧ x < n + A.length + B.length
  · rw [if_pos h1, if_pos (by omega), List.getElem?_append_right (by omega), show x - (n + A.length) = x - n - A.length by omega]
  · rw [if_neg h1]
    by_cases h2 : n ≤ x ∧ x < n + A.length
    · rw [if_pos h2, if_pos (by omega), List.getElem?_append_left (by omega)]
    · rw [if_neg h2, if_neg (by omega)]
theorem HasV.blk_after {t : S} {n m : Nat} {A : List (Nat × List V)} {os : List (Nat × List V)} (h : HasV t m os) (hm : n + A.length ≤ m) : HasV (t.blk n A) m os := fun j p hj => by
  rw [blk_out (.inr (by omega))]
  exact h j p hj

theorem PExprS_mlen (l : List PE) : ∀ x ∈ l.map PE.toV, x.cells.length = 10 := by
  intro v hv
  obtain ⟨x, _, rfl⟩ := List.mem_map.1 hv
  rw [PE.toV_eq]; rfl
theorem PExprS_th (m : Nat) (y : PE) : (thw m (PE.v y)).2 = (thw (m) (.sl 0 (y.kids.map PE.toV))).2 ++ ((thw (m + cv (.sl 0 (y.kids.map PE.toV))) (.sl 0 (y.sub.map PE.planV))).2) := by simp only [PE.v, thw_agg, thwL_nil, thwL_int, thwL_str, thwL_bool, thwL_sl, thwL_mk, mk_agg, mkL_nil, mkL_int, mkL_str, mkL_bool, mkL_sl, V.cells, List.append_nil, List.nil_append, List.append_assoc]
theorem PExprS_tc (m : Nat) (y : PE) : (thw m (PE.v y)).1.cells = [.int .i64 y.kind, .int .i64 y.op, .bool y.nt, .int .i64 y.value.kind, .int .i64 y.value.num, .str y.value.text, .int .i64 y.up, .int .i64 y.pos, (thw (m) (.sl 0 (y.kids.map PE.toV))).1, (thw (m + cv (.sl 0 (y.kids.map PE.toV))) (.sl 0 (y.sub.map PE.planV))).1] := by simp only [PE.v, thw_agg, thwL_nil, thwL_int, thwL_str, thwL_bool, thwL_sl, thwL_mk, mk_agg, mkL_nil, mkL_int, mkL_str, mkL_bool, mkL_sl, V.cells, List.append_nil, List.nil_append]
theorem PExprS_th2 (m : Nat) (y : PE) (kk : Int) : (thw m (mkV (PE.v y) kk)).2 = (thw (m) (mkV (.sl 0 (y.kids.map PE.toV)) (kk + 1 + 1 + 1 + 1 + 1 + 1 + 1 + 1))).2 ++ ((thw (m + cv (.sl 0 (y.kids.map PE.toV))) (mkV (.sl 0 (y.sub.map PE.planV)) (nk (.sl 0 (y.kids.map PE.toV)) (kk + 1 + 1 + 1 + 1 + 1 + 1 + 1 + 1)))).2) := by simp only [PE.v, thw_agg, thwL_nil, thwL_int, thwL_str, thwL_bool, thwL_sl, thwL_mk, mk_agg, mkL_nil, mkL_int, mkL_str, mkL_bool, mkL_sl, V.cells, List.append_nil, List.nil_append, List.append_assoc]
theorem PExprS_tc2 (m : Nat) (y : PE) (kk : Int) : (thw m (mkV (PE.v y) kk)).1.cells = [.int .i64 (kk), .int .i64 (kk + 1), .bool (decide ((kk + 1 + 1).tmod 3 = 0)), .int .i64 (kk + 1 + 1 + 1), .int .i64 (kk + 1 + 1 + 1 + 1), .str (mt (kk + 1 + 1 + 1 + 1 + 1)), .int .i64 (kk + 1 + 1 + 1 + 1 + 1 + 1), .int .i64 (kk + 1 + 1 + 1 + 1 + 1 + 1 + 1), (thw (m) (.sl 0 (y.kids.map PE.toV))).1, (thw (m + cv (.sl 0 (y.kids.map PE.toV))) (.sl 0 (y.sub.map PE.planV))).1] := by simp only [PE.v, thw_agg, thwL_nil, thwL_int, thwL_str, thwL_bool, thwL_sl, thwL_mk, mk_agg, mkL_nil, mkL_int, mkL_str, mkL_bool, mkL_sl, V.cells, List.append_nil, List.nil_append]
theorem PExprS_mk (y : PE) (kk : Int) : mkV (PE.v y) kk = .agg [.int .i64 (kk), .int .i64 (kk + 1), .bool (decide ((kk + 1 + 1).tmod 3 = 0)), .int .i64 (kk + 1 + 1 + 1), .int .i64 (kk + 1 + 1 + 1 + 1), .str (mt (kk + 1 + 1 + 1 + 1 + 1)), .int .i64 (kk + 1 + 1 + 1 + 1 + 1 + 1), .int .i64 (kk + 1 + 1 + 1 + 1 + 1 + 1 + 1), mkV (.sl 0 (y.kids.map PE.toV)) (kk + 1 + 1 + 1 + 1 + 1 + 1 + 1 + 1), mkV (.sl 0 (y.sub.map PE.planV)) (nk (.sl 0 (y.kids.map PE.toV)) (kk + 1 + 1 + 1 + 1 + 1 + 1 + 1 + 1))] := by simp only [PE.v, mk_agg, mkL_nil, mkL_int, mkL_str, mkL_bool, mkL_sl, nk] <;> rfl
theorem PExprS_cv (y : PE) : cv (PE.v y) = cv (.sl 0 (y.kids.map PE.toV)) + cv (.sl 0 (y.sub.map PE.planV)) := by simp only [PE.v, cv, cvL]; omega
theorem PExprS_nk (y : PE) (kk : Int) : nk (PE.v y) kk = nk (.sl 0 (y.sub.map PE.planV)) (nk (.sl 0 (y.kids.map PE.toV)) (kk + 1 + 1 + 1 + 1 + 1 + 1 + 1 + 1)) := by simp only [PE.v, nk, nkL]
theorem markPExprS_r (ys : List PE) (ih : ∀ y ∈ ys, MarkC Try.prog 48 (.sl 0 (y.kids.map PE.toV)) ∧ MarkC Try.prog 120 (.sl 0 (y.sub.map PE.planV))) : MarkC Try.prog 48 (.sl 0 (ys.map PE.toV)) := by
  intro t n k hv hk0 hk
  by_cases he : ys = []
  · subst he
    refine LCalls.body0 Try.func48 rfl (by kernel_rfl) ?_
    repeat' first
      | (refine kOps ?_; first | (refine LOps.nil ?_) | (refine LOps.ev tT_ok rfl ?_))
      | (refine kWL ?_; first | (refine WL.seq ?_) | (refine WL.region (by kernel_rfl) ?_) | (refine WL.block ?_))
      | (refine lthen_n ?_)
    refine WL.loop0 (fun _ : Unit => 0) (fun _ => [(0, .sl 0 []), (1, .int .i64 k), (5, .int .i64 0)]) (fun _ => t) (fun _ => True) () trivial ⟨rfl, rfl, rfl, trivial⟩ rfl (fun _ _ => ?_)
    repeat' first
      | (refine kOps ?_; first | (refine LOps.nil ?_) | (refine LOps.ev tT_ok rfl ?_) | (refine kLen ?_; first | (refine LOps.ans (AnsL.lenS tT_ok rfl rfl rfl rfl) ?_)))
      | (refine kWL ?_; first | (refine WL.seq ?_) | (refine WL.region (by kernel_rfl) ?_) | (refine WL.exit ?_) | (refine WL.ret ?_) | (refine kCond ?_; first | (refine WL.condF rfl ?_)))
      | (refine lthen_n ?_)
      | (refine lthen_e ?_)
      | (refine lblock_e ?_)
      | (refine lback_e ?_)
      | (refine LPost.r1 (r := .tmp 4) (.inl rfl) (Res1.tmp rfl) ?_)
    exact ⟨rfl, (blk_nil t n).symm⟩
  · have hne := map_ne (f := PE.toV) he
    rw [thw_sl n 0 hne]
    refine VCalls.wf fun hwf => ?_
    have hlen : (ys.map PE.toV).length < 9223372036854775808 := slm_len hwf
    refine LCalls.body0 Try.func48 rfl (by kernel_rfl) ?_
    repeat' first
      | (refine kOps ?_; first | (refine LOps.nil ?_) | (refine LOps.ev tT_ok rfl ?_))
      | (refine kWL ?_; first | (refine WL.seq ?_) | (refine WL.region (by kernel_rfl) ?_) | (refine WL.block ?_))
      | (refine lthen_n ?_)
    refine WL.loopMark t n (ys.map PE.toV) k 10 (fun kk i => [(0, .slm false (n + cvL (ys.map PE.toV)) 0 (ys.map PE.toV).length), (1, .int .i64 kk), (5, .int .i64 (i : Int))]) hne (PExprS_mlen ys) hv hk0 hk ⟨rfl, rfl, rfl, trivial⟩ (fun i hi kk m A Z CA CZ hq hm hl h0 hb => ?_) ?_
    · have hlt : i < ys.length := by simpa using hi
      have hd : (ys.map PE.toV)[i] = PE.v ys[i] := by rw [List.getElem_map, PE.toV_eq]
      rw [hd] at hl hb ⊢
      have hI := ih ys[i] (List.getElem_mem hlt)
      generalize ys[i] = y at hl hb hI ⊢
      rw [PExprS_cv] at hl
      rw [PExprS_nk] at hb ⊢
      have hn0 := nk_le (.sl 0 (y.kids.map PE.toV)) (kk + 1 + 1 + 1 + 1 + 1 + 1 + 1 + 1)
      have hn1 := nk_le (.sl 0 (y.sub.map PE.planV)) (nk (.sl 0 (y.kids.map PE.toV)) (kk + 1 + 1 + 1 + 1 + 1 + 1 + 1 + 1))
      rw [PExprS_th, PExprS_tc, PExprS_th2, PExprS_tc2]
      repeat' first
        | (refine kStore ?_ ; first | (refine LOps.storeE tT_ok 0 hq rfl rfl rfl rfl rfl rfl rfl rfl ?_) | (refine LOps.storeE tT_ok 1 hq rfl rfl rfl rfl rfl rfl rfl rfl ?_) | (refine LOps.storeE tT_ok 2 hq rfl rfl rfl rfl rfl rfl rfl rfl ?_) | (refine LOps.storeE tT_ok 3 hq rfl rfl rfl rfl rfl rfl rfl rfl ?_) | (refine LOps.storeE tT_ok 4 hq rfl rfl rfl rfl rfl rfl rfl rfl ?_) | (refine LOps.storeE tT_ok 5 hq rfl rfl rfl rfl rfl rfl rfl rfl ?_) | (refine LOps.storeE tT_ok 6 hq rfl rfl rfl rfl rfl rfl rfl rfl ?_) | (refine LOps.storeE tT_ok 7 hq rfl rfl rfl rfl rfl rfl rfl rfl ?_))
        | (refine kCallN 48 ?_ ; refine LOps.markP (m := m) (A := A) (Z := (thw (m + cv (.sl 0 (y.kids.map PE.toV))) (.sl 0 (y.sub.map PE.planV))).2 ++ (Z)) rfl rfl ok48 (hI.1) rfl ?_ ?_ ?_ ?_ ?_ ?_ ; (focus (first | rfl | (simp only [List.append_assoc]))) ; (focus ((try simp only [List.length_append, thw_cv, mk_cv]) ; omega)) ; (focus omega) ; (focus omega) ; (focus omega))
        | (refine kCallN 120 ?_ ; refine LOps.markP (m := m + cv (.sl 0 (y.kids.map PE.toV))) (A := (A ++ (thw (m) (mkV (.sl 0 (y.kids.map PE.toV)) (kk + 1 + 1 + 1 + 1 + 1 + 1 + 1 + 1))).2)) (Z := Z) rfl rfl ok120 (hI.2) rfl ?_ ?_ ?_ ?_ ?_ ?_ ; (focus (first | rfl | (simp only [List.append_assoc]))) ; (focus ((try simp only [List.length_append, thw_cv, mk_cv]) ; omega)) ; (focus omega) ; (focus omega) ; (focus omega))
        | (refine kOps ?_; first | (refine LOps.nil ?_) | (refine LOps.ev tT_ok rfl ?_) | (refine kLoad ?_; first | (refine LOps.ans (AnsL.loadE tT_ok 8 hq rfl rfl rfl rfl) ?_) | (refine LOps.ans (AnsL.loadE tT_ok 9 hq rfl rfl rfl rfl) ?_)) | (refine kBin ?_; first | (refine LOps.ans (AnsL.add rfl rfl ?_) ?_; (focus (constructor <;> omega)))) | (refine kIdx ?_; first | (refine LOps.ans (AnsL.idxM tT_ok rfl rfl rfl rfl rfl ?_) ?_; (focus (omega)))) | (refine kCallN 123 ?_; first | (refine LOps.ans (AnsL.callP rfl rfl rfl (ok123) (markText_v _ ?_ _)) ?_; (focus (omega)))))
        | (refine kWL ?_; first | (refine WL.seq ?_) | (refine WL.region (by kernel_rfl) ?_) | (refine WL.block ?_) | (refine WL.skip ?_) | (refine kCond ?_; first | (refine WL.condT' rfl ?_ ?_; (focus (first | (simp only [decide_eq_true_eq, decide_eq_false_iff_not, Bool.not_eq_true', Bool.not_eq_false', Int.ofNat_lt, Int.ofNat_le, Int.ofNat_inj, not_true_eq_false, not_false_eq_true]; omega))))))
        | (refine lthen_n ?_)
        | (refine lblock_n ?_)
      exact ⟨rfl, ⟨rfl, rfl, rfl, trivial⟩, by simp only [List.append_assoc]⟩
    · skip
      repeat' first
        | (refine lfin_e ?_)
        | (refine kOps ?_; first | (refine LOps.nil ?_) | (refine LOps.ev tT_ok rfl ?_))
        | (refine kWL ?_; first | (refine WL.seq ?_) | (refine WL.region (by kernel_rfl) ?_) | (refine WL.exit ?_) | (refine WL.ret ?_) | (refine kCond ?_; first | (refine WL.condF' rfl ?_ ?_; (focus (first | (simp only [decide_eq_true_eq, decide_eq_false_iff_not, Bool.not_eq_true', Bool.not_eq_false', Int.ofNat_lt, Int.ofNat_le, Int.ofNat_inj, not_true_eq_false, not_false_eq_true]; omega))))))
        | (refine lthen_n ?_)
        | (refine lthen_e ?_)
        | (refine lblock_e ?_)
        | (refine LPost.r1 (r := .tmp 4) (.inl rfl) (Res1.tmp rfl) ?_)
      exact ⟨rfl, rfl⟩
theorem heldPExprS_r (ys : List PE) (ih : ∀ y ∈ ys, HeldC Try.prog 49 (.sl 0 (y.kids.map PE.toV)) ∧ HeldC Try.prog 124 (.sl 0 (y.sub.map PE.planV))) : HeldC Try.prog 49 (.sl 0 (ys.map PE.toV)) := by
  intro k s hk0 hk
  refine VCalls.wf fun hwf => ?_
  have hlen : (mkL (ys.map PE.toV) k).length < 9223372036854775808 := sl_len hwf
  have hl2 : (mkL (ys.map PE.toV) k).length = (ys.map PE.toV).length := mkL_length _ _
  refine LCalls.pure Try.func49 rfl (by kernel_rfl) (by simp) ?_
  repeat' first
    | (refine kOps ?_; first | (refine LOps.nil ?_) | (refine LOps.ev tT_ok rfl ?_))
    | (refine kWL ?_; first | (refine WL.seq ?_) | (refine WL.region (by kernel_rfl) ?_) | (refine WL.block ?_))
    | (refine lthen_n ?_)
  refine WL.loopHeld (ys.map PE.toV) k (fun kk i => [(0, .sl 0 (mkL (ys.map PE.toV) k)), (1, .int .i64 kk), (5, .int .i64 (i : Int))]) hk0 hk ⟨rfl, rfl, rfl, trivial⟩ (fun i hi kk hg h0 hb => ?_) ?_
  · have hlt : i < ys.length := by simpa using hi
    have hd : (ys.map PE.toV)[i] = PE.v ys[i] := by rw [List.getElem_map, PE.toV_eq]
    rw [hd] at hg hb ⊢
    have hi2 : i < (mkL (ys.map PE.toV) k).length := by omega
    have hI := ih ys[i] (List.getElem_mem hlt)
    generalize ys[i] = y at hg hb hI ⊢
    rw [PExprS_nk] at hb ⊢
    have hn0 := nk_le (.sl 0 (y.kids.map PE.toV)) (kk + 1 + 1 + 1 + 1 + 1 + 1 + 1 + 1)
    have hn1 := nk_le (.sl 0 (y.sub.map PE.planV)) (nk (.sl 0 (y.kids.map PE.toV)) (kk + 1 + 1 + 1 + 1 + 1 + 1 + 1 + 1))
    rw [PExprS_mk] at hg
    repeat' first
      | (refine kOps ?_; first | (refine LOps.nil ?_) | (refine LOps.ev tT_ok rfl ?_) | (refine kLen ?_; first | (refine LOps.ans (AnsL.lenG tT_ok rfl rfl rfl) ?_)) | (refine kBin ?_; first | (refine LOps.ans (AnsL.add rfl rfl ?_) ?_; (focus (constructor <;> omega)))) | (refine kIdx ?_; first | (refine LOps.ans (AnsL.idx tT_ok rfl rfl rfl rfl rfl hg rfl rfl) ?_)) | (refine kCallN 124 ?_; first | (refine LOps.ans (AnsL.callP rfl rfl rfl (ok124) (hI.2 _ _ ?_ ?_)) ?_; (focus (omega)); (focus (omega)))) | (refine kCallN 49 ?_; first | (refine LOps.ans (AnsL.callP rfl rfl rfl (ok49) (hI.1 _ _ ?_ ?_)) ?_; (focus (omega)); (focus (omega)))))
      | (refine kWL ?_; first | (refine WL.seq ?_) | (refine WL.region (by kernel_rfl) ?_) | (refine WL.drawn (id := 19) [0, 1, 2, 3, 4, 5, 6, 7, 8] [] [[], [], [0, 1], [0, 1, 2], [0, 1, 2, 3], [0, 1, 2, 3, 4], [], [6], [0, 1, 2, 3, 4, 5, 6, 7]] (by kernel_rfl) (by kernel_rfl) ?_) | (refine WL.block ?_) | (refine WL.skip ?_) | (refine kCond ?_; first | (refine WL.condT' rfl ?_ ?_; (focus (first | (simp only [decide_eq_true_eq, decide_eq_false_iff_not, Bool.not_eq_true', Bool.not_eq_false', Int.ofNat_lt, Int.ofNat_le, Int.ofNat_inj, not_true_eq_false, not_false_eq_true]; omega)))) | (refine WL.condF' rfl ?_ ?_; (focus (first | (simp only [decide_eq_true_eq, decide_eq_false_iff_not, Bool.not_eq_true', Bool.not_eq_false', Int.ofNat_lt, Int.ofNat_le, Int.ofNat_inj, not_true_eq_false, not_false_eq_true]; omega) | (simp <;> fail))))))
      | (refine kDr ?_; first | (refine LDr.nil ?_) | (refine LDr.fl rfl rfl (.ev tT_ok rfl) ?_) | (refine kDIdx rfl ?_; first | (refine LDr.fl rfl rfl (AnsL.idx tT_ok rfl rfl rfl rfl rfl hg rfl rfl) ?_)) | (refine kDCallN 123 rfl ?_; first | (refine LDr.fl rfl rfl (AnsL.callP rfl rfl rfl (ok123) (markText_v _ ?_ _)) ?_; (focus (omega)))))
      | (refine lthen_n ?_)
      | (refine lblock_n ?_)
    exact ⟨rfl, ⟨rfl, rfl, rfl, trivial⟩, rfl⟩
  · skip
    repeat' first
      | (refine lfin_e ?_)
      | (refine kOps ?_; first | (refine LOps.nil ?_) | (refine LOps.ev tT_ok rfl ?_) | (refine kLen ?_; first | (refine LOps.ans (AnsL.lenG tT_ok rfl rfl rfl) ?_)))
      | (refine kWL ?_; first | (refine WL.seq ?_) | (refine WL.region (by kernel_rfl) ?_) | (refine WL.exit ?_) | (refine WL.ret ?_) | (refine kCond ?_; first | (refine WL.condF' rfl ?_ ?_; (focus (first | (simp only [decide_eq_true_eq, decide_eq_false_iff_not, Bool.not_eq_true', Bool.not_eq_false', Int.ofNat_lt, Int.ofNat_le, Int.ofNat_inj, not_true_eq_false, not_false_eq_true]; omega))))))
      | (refine lthen_n ?_)
      | (refine lthen_e ?_)
      | (refine lblock_e ?_)
      | (refine LPost.r1 (r := .tmp 4) (.inl rfl) (Res1.tmp rfl) ?_)
      | (refine PureR.mk ?_)
    rfl
theorem PExprSS_mlen (l : List (List PE)) : ∀ x ∈ l.map PE.vS, x.cells.length = 1 := by
  intro v hv
  obtain ⟨x, _, rfl⟩ := List.mem_map.1 hv
  rfl
theorem PExprSS_th (m : Nat) (y : (List PE)) : (thw m (PE.vS y)).2 = (thw (m) (.sl 0 (y.map PE.toV))).2 := rfl
theorem PExprSS_tc (m : Nat) (y : (List PE)) : (thw m (PE.vS y)).1.cells = [(thw (m) (.sl 0 (y.map PE.toV))).1] := thw_sl_cells m 0 _
theorem PExprSS_th2 (m : Nat) (y : (List PE)) (kk : Int) : (thw m (mkV (PE.vS y) kk)).2 = (thw (m) (mkV (.sl 0 (y.map PE.toV)) (kk))).2 := rfl
theorem PExprSS_tc2 (m : Nat) (y : (List PE)) (kk : Int) : (thw m (mkV (PE.vS y) kk)).1.cells = [(thw (m) (.sl 0 (y.map PE.toV))).1] := by rw [← thw_mk_sl m 0 _ kk]; exact thw_sl_cells m 0 _
theorem PExprSS_cv (y : (List PE)) : cv (PE.vS y) = cv (.sl 0 (y.map PE.toV)) := rfl
theorem PExprSS_nk (y : (List PE)) (kk : Int) : nk (PE.vS y) kk = nk (.sl 0 (y.map PE.toV)) (kk) := rfl
theorem markPExprSS_r (ys : List (List PE)) (ih : ∀ y ∈ ys, MarkC Try.prog 48 (.sl 0 (y.map PE.toV))) : MarkC Try.prog 109 (.sl 0 (ys.map PE.vS)) := by
  intro t n k hv hk0 hk
  by_cases he : ys = []
  · subst he
    refine LCalls.body0 Try.func109 rfl (by kernel_rfl) ?_
    repeat' first
      | (refine kOps ?_; first | (refine LOps.nil ?_) | (refine LOps.ev tT_ok rfl ?_))
      | (refine kWL ?_; first | (refine WL.seq ?_) | (refine WL.region (by kernel_rfl) ?_) | (refine WL.block ?_))
      | (refine lthen_n ?_)
    refine WL.loop0 (fun _ : Unit => 0) (fun _ => [(0, .sl 0 []), (1, .int .i64 k), (5, .int .i64 0)]) (fun _ => t) (fun _ => True) () trivial ⟨rfl, rfl, rfl, trivial⟩ rfl (fun _ _ => ?_)
    repeat' first
      | (refine kOps ?_; first | (refine LOps.nil ?_) | (refine LOps.ev tT_ok rfl ?_) | (refine kLen ?_; first | (refine LOps.ans (AnsL.lenS tT_ok rfl rfl rfl rfl) ?_)))
      | (refine kWL ?_; first | (refine WL.seq ?_) | (refine WL.region (by kernel_rfl) ?_) | (refine WL.exit ?_) | (refine WL.ret ?_) | (refine kCond ?_; first | (refine WL.condF rfl ?_)))
      | (refine lthen_n ?_)
      | (refine lthen_e ?_)
      | (refine lblock_e ?_)
      | (refine lback_e ?_)
      | (refine LPost.r1 (r := .tmp 4) (.inl rfl) (Res1.tmp rfl) ?_)
    exact ⟨rfl, (blk_nil t n).symm⟩
  · have hne := map_ne (f := PE.vS) he
    rw [thw_sl n 0 hne]
    refine VCalls.wf fun hwf => ?_
    have hlen : (ys.map PE.vS).length < 9223372036854775808 := slm_len hwf
    refine LCalls.body0 Try.func109 rfl (by kernel_rfl) ?_
    repeat' first
      | (refine kOps ?_; first | (refine LOps.nil ?_) | (refine LOps.ev tT_ok rfl ?_))
      | (refine kWL ?_; first | (refine WL.seq ?_) | (refine WL.region (by kernel_rfl) ?_) | (refine WL.block ?_))
      | (refine lthen_n ?_)
    refine WL.loopMark t n (ys.map PE.vS) k 1 (fun kk i => [(0, .slm false (n + cvL (ys.map PE.vS)) 0 (ys.map PE.vS).length), (1, .int .i64 kk), (5, .int .i64 (i : Int))]) hne (PExprSS_mlen ys) hv hk0 hk ⟨rfl, rfl, rfl, trivial⟩ (fun i hi kk m A Z CA CZ hq hm hl h0 hb => ?_) ?_
    · have hlt : i < ys.length := by simpa using hi
      have hd : (ys.map PE.vS)[i] = PE.vS ys[i] := List.getElem_map ..
      rw [hd] at hl hb ⊢
      have hI := ih ys[i] (List.getElem_mem hlt)
      generalize ys[i] = y at hl hb hI ⊢
      rw [PExprSS_cv] at hl
      rw [PExprSS_nk] at hb ⊢
      have hn0 := nk_le (.sl 0 (y.map PE.toV)) (kk)
      rw [PExprSS_th, PExprSS_tc, PExprSS_th2, PExprSS_tc2]
      repeat' first
        | (refine kCallN 48 ?_ ; refine LOps.markP (m := m) (A := A) (Z := Z) rfl rfl ok48 (hI) rfl ?_ ?_ ?_ ?_ ?_ ?_ ; (focus (first | rfl)) ; (focus ((try simp only [List.length_append, thw_cv, mk_cv]) ; omega)) ; (focus omega) ; (focus omega) ; (focus omega))
        | (refine kOps ?_; first | (refine LOps.nil ?_) | (refine LOps.ev tT_ok rfl ?_) | (refine kLoad ?_; first | (refine LOps.ans (AnsL.loadE tT_ok 0 hq rfl rfl rfl rfl) ?_)) | (refine kBin ?_; first | (refine LOps.ans (AnsL.add rfl rfl ?_) ?_; (focus (constructor <;> omega)))) | (refine kIdx ?_; first | (refine LOps.ans (AnsL.idxM tT_ok rfl rfl rfl rfl rfl ?_) ?_; (focus (omega)))))
        | (refine kWL ?_; first | (refine WL.seq ?_) | (refine WL.region (by kernel_rfl) ?_) | (refine WL.block ?_) | (refine WL.skip ?_) | (refine kCond ?_; first | (refine WL.condT' rfl ?_ ?_; (focus (first | (simp only [decide_eq_true_eq, decide_eq_false_iff_not, Bool.not_eq_true', Bool.not_eq_false', Int.ofNat_lt, Int.ofNat_le, Int.ofNat_inj, not_true_eq_false, not_false_eq_true]; omega))))))
        | (refine lthen_n ?_)
        | (refine lblock_n ?_)
      exact ⟨rfl, ⟨rfl, rfl, rfl, trivial⟩, by simp only [List.append_assoc]⟩
    · skip
      repeat' first
        | (refine lfin_e ?_)
        | (refine kOps ?_; first | (refine LOps.nil ?_) | (refine LOps.ev tT_ok rfl ?_))
        | (refine kWL ?_; first | (refine WL.seq ?_) | (refine WL.region (by kernel_rfl) ?_) | (refine WL.exit ?_) | (refine WL.ret ?_) | (refine kCond ?_; first | (refine WL.condF' rfl ?_ ?_; (focus (first | (simp only [decide_eq_true_eq, decide_eq_false_iff_not, Bool.not_eq_true', Bool.not_eq_false', Int.ofNat_lt, Int.ofNat_le, Int.ofNat_inj, not_true_eq_false, not_false_eq_true]; omega))))))
        | (refine lthen_n ?_)
        | (refine lthen_e ?_)
        | (refine lblock_e ?_)
        | (refine LPost.r1 (r := .tmp 4) (.inl rfl) (Res1.tmp rfl) ?_)
      exact ⟨rfl, rfl⟩
theorem heldPExprSS_r (ys : List (List PE)) (ih : ∀ y ∈ ys, HeldC Try.prog 49 (.sl 0 (y.map PE.toV))) : HeldC Try.prog 148 (.sl 0 (ys.map PE.vS)) := by
  intro k s hk0 hk
  refine VCalls.wf fun hwf => ?_
  have hlen : (mkL (ys.map PE.vS) k).length < 9223372036854775808 := sl_len hwf
  have hl2 : (mkL (ys.map PE.vS) k).length = (ys.map PE.vS).length := mkL_length _ _
  refine LCalls.pure Try.func148 rfl (by kernel_rfl) (by simp) ?_
  repeat' first
    | (refine kOps ?_; first | (refine LOps.nil ?_) | (refine LOps.ev tT_ok rfl ?_))
    | (refine kWL ?_; first | (refine WL.seq ?_) | (refine WL.region (by kernel_rfl) ?_) | (refine WL.block ?_))
    | (refine lthen_n ?_)
  refine WL.loopHeld (ys.map PE.vS) k (fun kk i => [(0, .sl 0 (mkL (ys.map PE.vS) k)), (1, .int .i64 kk), (5, .int .i64 (i : Int))]) hk0 hk ⟨rfl, rfl, rfl, trivial⟩ (fun i hi kk hg h0 hb => ?_) ?_
  · have hlt : i < ys.length := by simpa using hi
    have hd : (ys.map PE.vS)[i] = PE.vS ys[i] := List.getElem_map ..
    rw [hd] at hg hb ⊢
    have hi2 : i < (mkL (ys.map PE.vS) k).length := by omega
    have hI := ih ys[i] (List.getElem_mem hlt)
    generalize ys[i] = y at hg hb hI ⊢
    rw [PExprSS_nk] at hb ⊢
    have hn0 := nk_le (.sl 0 (y.map PE.toV)) (kk)
    repeat' first
      | (refine kOps ?_; first | (refine LOps.nil ?_) | (refine LOps.ev tT_ok rfl ?_) | (refine kLen ?_; first | (refine LOps.ans (AnsL.lenG tT_ok rfl rfl rfl) ?_)) | (refine kBin ?_; first | (refine LOps.ans (AnsL.add rfl rfl ?_) ?_; (focus (constructor <;> omega)))) | (refine kIdx ?_; first | (refine LOps.ans (AnsL.idx tT_ok rfl rfl rfl rfl rfl hg rfl rfl) ?_)) | (refine kCallN 49 ?_; first | (refine LOps.ans (AnsL.callP rfl rfl rfl (ok49) (hI _ _ ?_ ?_)) ?_; (focus (omega)); (focus (omega)))))
      | (refine kWL ?_; first | (refine WL.seq ?_) | (refine WL.region (by kernel_rfl) ?_) | (refine WL.block ?_) | (refine WL.skip ?_) | (refine kCond ?_; first | (refine WL.condT' rfl ?_ ?_; (focus (first | (simp only [decide_eq_true_eq, decide_eq_false_iff_not, Bool.not_eq_true', Bool.not_eq_false', Int.ofNat_lt, Int.ofNat_le, Int.ofNat_inj, not_true_eq_false, not_false_eq_true]; omega)))) | (refine WL.condF' rfl ?_ ?_; (focus (first | (simp only [decide_eq_true_eq, decide_eq_false_iff_not, Bool.not_eq_true', Bool.not_eq_false', Int.ofNat_lt, Int.ofNat_le, Int.ofNat_inj, not_true_eq_false, not_false_eq_true]; omega))))))
      | (refine lthen_n ?_)
      | (refine lblock_n ?_)
    exact ⟨rfl, ⟨rfl, rfl, rfl, trivial⟩, rfl⟩
  · skip
    repeat' first
      | (refine lfin_e ?_)
      | (refine kOps ?_; first | (refine LOps.nil ?_) | (refine LOps.ev tT_ok rfl ?_) | (refine kLen ?_; first | (refine LOps.ans (AnsL.lenG tT_ok rfl rfl rfl) ?_)))
      | (refine kWL ?_; first | (refine WL.seq ?_) | (refine WL.region (by kernel_rfl) ?_) | (refine WL.exit ?_) | (refine WL.ret ?_) | (refine kCond ?_; first | (refine WL.condF' rfl ?_ ?_; (focus (first | (simp only [decide_eq_true_eq, decide_eq_false_iff_not, Bool.not_eq_true', Bool.not_eq_false', Int.ofNat_lt, Int.ofNat_le, Int.ofNat_inj, not_true_eq_false, not_false_eq_true]; omega))))))
      | (refine lthen_n ?_)
      | (refine lthen_e ?_)
      | (refine lblock_e ?_)
      | (refine LPost.r1 (r := .tmp 4) (.inl rfl) (Res1.tmp rfl) ?_)
      | (refine PureR.mk ?_)
    rfl
theorem PSortS_mlen (l : List (PE × Bool)) : ∀ x ∈ l.map PE.sv, x.cells.length = 11 := by
  intro v hv
  obtain ⟨x, _, rfl⟩ := List.mem_map.1 hv
  rfl
theorem PSortS_th (m : Nat) (y : (PE × Bool)) : (thw m (PE.sv y)).2 = (thw (m) (.sl 0 (y.1.kids.map PE.toV))).2 ++ ((thw (m + cv (.sl 0 (y.1.kids.map PE.toV))) (.sl 0 (y.1.sub.map PE.planV))).2) := by simp only [PE.sv, thw_agg, thwL_nil, thwL_int, thwL_str, thwL_bool, thwL_sl, thwL_mk, mk_agg, mkL_nil, mkL_int, mkL_str, mkL_bool, mkL_sl, V.cells, List.append_nil, List.nil_append, List.append_assoc]
theorem PSortS_tc (m : Nat) (y : (PE × Bool)) : (thw m (PE.sv y)).1.cells = [.int .i64 y.1.kind, .int .i64 y.1.op, .bool y.1.nt, .int .i64 y.1.value.kind, .int .i64 y.1.value.num, .str y.1.value.text, .int .i64 y.1.up, .int .i64 y.1.pos, (thw (m) (.sl 0 (y.1.kids.map PE.toV))).1, (thw (m + cv (.sl 0 (y.1.kids.map PE.toV))) (.sl 0 (y.1.sub.map PE.planV))).1, .bool y.2] := by simp only [PE.sv, thw_agg, thwL_nil, thwL_int, thwL_str, thwL_bool, thwL_sl, thwL_mk, mk_agg, mkL_nil, mkL_int, mkL_str, mkL_bool, mkL_sl, V.cells, List.append_nil, List.nil_append]
theorem PSortS_th2 (m : Nat) (y : (PE × Bool)) (kk : Int) : (thw m (mkV (PE.sv y) kk)).2 = (thw (m) (mkV (.sl 0 (y.1.kids.map PE.toV)) (kk + 1 + 1 + 1 + 1 + 1 + 1 + 1 + 1))).2 ++ ((thw (m + cv (.sl 0 (y.1.kids.map PE.toV))) (mkV (.sl 0 (y.1.sub.map PE.planV)) (nk (.sl 0 (y.1.kids.map PE.toV)) (kk + 1 + 1 + 1 + 1 + 1 + 1 + 1 + 1)))).2) := by simp only [PE.sv, thw_agg, thwL_nil, thwL_int, thwL_str, thwL_bool, thwL_sl, thwL_mk, mk_agg, mkL_nil, mkL_int, mkL_str, mkL_bool, mkL_sl, V.cells, List.append_nil, List.nil_append, List.append_assoc]
theorem PSortS_tc2 (m : Nat) (y : (PE × Bool)) (kk : Int) : (thw m (mkV (PE.sv y) kk)).1.cells = [.int .i64 (kk), .int .i64 (kk + 1), .bool (decide ((kk + 1 + 1).tmod 3 = 0)), .int .i64 (kk + 1 + 1 + 1), .int .i64 (kk + 1 + 1 + 1 + 1), .str (mt (kk + 1 + 1 + 1 + 1 + 1)), .int .i64 (kk + 1 + 1 + 1 + 1 + 1 + 1), .int .i64 (kk + 1 + 1 + 1 + 1 + 1 + 1 + 1), (thw (m) (.sl 0 (y.1.kids.map PE.toV))).1, (thw (m + cv (.sl 0 (y.1.kids.map PE.toV))) (.sl 0 (y.1.sub.map PE.planV))).1, .bool (decide ((nk (.sl 0 (y.1.sub.map PE.planV)) (nk (.sl 0 (y.1.kids.map PE.toV)) (kk + 1 + 1 + 1 + 1 + 1 + 1 + 1 + 1))).tmod 3 = 0))] := by simp only [PE.sv, thw_agg, thwL_nil, thwL_int, thwL_str, thwL_bool, thwL_sl, thwL_mk, mk_agg, mkL_nil, mkL_int, mkL_str, mkL_bool, mkL_sl, V.cells, List.append_nil, List.nil_append]
theorem PSortS_mk (y : (PE × Bool)) (kk : Int) : mkV (PE.sv y) kk = .agg [.int .i64 (kk), .int .i64 (kk + 1), .bool (decide ((kk + 1 + 1).tmod 3 = 0)), .int .i64 (kk + 1 + 1 + 1), .int .i64 (kk + 1 + 1 + 1 + 1), .str (mt (kk + 1 + 1 + 1 + 1 + 1)), .int .i64 (kk + 1 + 1 + 1 + 1 + 1 + 1), .int .i64 (kk + 1 + 1 + 1 + 1 + 1 + 1 + 1), mkV (.sl 0 (y.1.kids.map PE.toV)) (kk + 1 + 1 + 1 + 1 + 1 + 1 + 1 + 1), mkV (.sl 0 (y.1.sub.map PE.planV)) (nk (.sl 0 (y.1.kids.map PE.toV)) (kk + 1 + 1 + 1 + 1 + 1 + 1 + 1 + 1)), .bool (decide ((nk (.sl 0 (y.1.sub.map PE.planV)) (nk (.sl 0 (y.1.kids.map PE.toV)) (kk + 1 + 1 + 1 + 1 + 1 + 1 + 1 + 1))).tmod 3 = 0))] := by simp only [PE.sv, mk_agg, mkL_nil, mkL_int, mkL_str, mkL_bool, mkL_sl, nk] <;> rfl
theorem PSortS_cv (y : (PE × Bool)) : cv (PE.sv y) = cv (.sl 0 (y.1.kids.map PE.toV)) + cv (.sl 0 (y.1.sub.map PE.planV)) := by simp only [PE.sv, cv, cvL]; omega
theorem PSortS_nk (y : (PE × Bool)) (kk : Int) : nk (PE.sv y) kk = nk (.sl 0 (y.1.sub.map PE.planV)) (nk (.sl 0 (y.1.kids.map PE.toV)) (kk + 1 + 1 + 1 + 1 + 1 + 1 + 1 + 1)) + 1 := by simp only [PE.sv, nk, nkL]
theorem markPSortS_r (ys : List (PE × Bool)) (ih : ∀ y ∈ ys, MarkC Try.prog 48 (.sl 0 (y.1.kids.map PE.toV)) ∧ MarkC Try.prog 120 (.sl 0 (y.1.sub.map PE.planV))) : MarkC Try.prog 110 (.sl 0 (ys.map PE.sv)) := by
  intro t n k hv hk0 hk
  by_cases he : ys = []
  · subst he
    refine LCalls.body0 Try.func110 rfl (by kernel_rfl) ?_
    repeat' first
      | (refine kOps ?_; first | (refine LOps.nil ?_) | (refine LOps.ev tT_ok rfl ?_))
      | (refine kWL ?_; first | (refine WL.seq ?_) | (refine WL.region (by kernel_rfl) ?_) | (refine WL.block ?_))
      | (refine lthen_n ?_)
    refine WL.loop0 (fun _ : Unit => 0) (fun _ => [(0, .sl 0 []), (1, .int .i64 k), (5, .int .i64 0)]) (fun _ => t) (fun _ => True) () trivial ⟨rfl, rfl, rfl, trivial⟩ rfl (fun _ _ => ?_)
    repeat' first
      | (refine kOps ?_; first | (refine LOps.nil ?_) | (refine LOps.ev tT_ok rfl ?_) | (refine kLen ?_; first | (refine LOps.ans (AnsL.lenS tT_ok rfl rfl rfl rfl) ?_)))
      | (refine kWL ?_; first | (refine WL.seq ?_) | (refine WL.region (by kernel_rfl) ?_) | (refine WL.exit ?_) | (refine WL.ret ?_) | (refine kCond ?_; first | (refine WL.condF rfl ?_)))
      | (refine lthen_n ?_)
      | (refine lthen_e ?_)
      | (refine lblock_e ?_)
      | (refine lback_e ?_)
      | (refine LPost.r1 (r := .tmp 4) (.inl rfl) (Res1.tmp rfl) ?_)
    exact ⟨rfl, (blk_nil t n).symm⟩
  · have hne := map_ne (f := PE.sv) he
    rw [thw_sl n 0 hne]
    refine VCalls.wf fun hwf => ?_
    have hlen : (ys.map PE.sv).length < 9223372036854775808 := slm_len hwf
    refine LCalls.body0 Try.func110 rfl (by kernel_rfl) ?_
    repeat' first
      | (refine kOps ?_; first | (refine LOps.nil ?_) | (refine LOps.ev tT_ok rfl ?_))
      | (refine kWL ?_; first | (refine WL.seq ?_) | (refine WL.region (by kernel_rfl) ?_) | (refine WL.block ?_))
      | (refine lthen_n ?_)
    refine WL.loopMark t n (ys.map PE.sv) k 11 (fun kk i => [(0, .slm false (n + cvL (ys.map PE.sv)) 0 (ys.map PE.sv).length), (1, .int .i64 kk), (5, .int .i64 (i : Int))]) hne (PSortS_mlen ys) hv hk0 hk ⟨rfl, rfl, rfl, trivial⟩ (fun i hi kk m A Z CA CZ hq hm hl h0 hb => ?_) ?_
    · have hlt : i < ys.length := by simpa using hi
      have hd : (ys.map PE.sv)[i] = PE.sv ys[i] := List.getElem_map ..
      rw [hd] at hl hb ⊢
      have hI := ih ys[i] (List.getElem_mem hlt)
      generalize ys[i] = y at hl hb hI ⊢
      rw [PSortS_cv] at hl
      rw [PSortS_nk] at hb ⊢
      have hn0 := nk_le (.sl 0 (y.1.kids.map PE.toV)) (kk + 1 + 1 + 1 + 1 + 1 + 1 + 1 + 1)
      have hn1 := nk_le (.sl 0 (y.1.sub.map PE.planV)) (nk (.sl 0 (y.1.kids.map PE.toV)) (kk + 1 + 1 + 1 + 1 + 1 + 1 + 1 + 1))
      rw [PSortS_th, PSortS_tc, PSortS_th2, PSortS_tc2]
      repeat' first
        | (refine kStore ?_ ; first | (refine LOps.storeE tT_ok 0 hq rfl rfl rfl rfl rfl rfl rfl rfl ?_) | (refine LOps.storeE tT_ok 1 hq rfl rfl rfl rfl rfl rfl rfl rfl ?_) | (refine LOps.storeE tT_ok 2 hq rfl rfl rfl rfl rfl rfl rfl rfl ?_) | (refine LOps.storeE tT_ok 3 hq rfl rfl rfl rfl rfl rfl rfl rfl ?_) | (refine LOps.storeE tT_ok 4 hq rfl rfl rfl rfl rfl rfl rfl rfl ?_) | (refine LOps.storeE tT_ok 5 hq rfl rfl rfl rfl rfl rfl rfl rfl ?_) | (refine LOps.storeE tT_ok 6 hq rfl rfl rfl rfl rfl rfl rfl rfl ?_) | (refine LOps.storeE tT_ok 7 hq rfl rfl rfl rfl rfl rfl rfl rfl ?_) | (refine LOps.storeE tT_ok 10 hq rfl rfl rfl rfl rfl rfl rfl rfl ?_))
        | (refine kCallN 48 ?_ ; refine LOps.markP (m := m) (A := A) (Z := (thw (m + cv (.sl 0 (y.1.kids.map PE.toV))) (.sl 0 (y.1.sub.map PE.planV))).2 ++ (Z)) rfl rfl ok48 (hI.1) rfl ?_ ?_ ?_ ?_ ?_ ?_ ; (focus (first | rfl | (simp only [List.append_assoc]))) ; (focus ((try simp only [List.length_append, thw_cv, mk_cv]) ; omega)) ; (focus omega) ; (focus omega) ; (focus omega))
        | (refine kCallN 120 ?_ ; refine LOps.markP (m := m + cv (.sl 0 (y.1.kids.map PE.toV))) (A := (A ++ (thw (m) (mkV (.sl 0 (y.1.kids.map PE.toV)) (kk + 1 + 1 + 1 + 1 + 1 + 1 + 1 + 1))).2)) (Z := Z) rfl rfl ok120 (hI.2) rfl ?_ ?_ ?_ ?_ ?_ ?_ ; (focus (first | rfl | (simp only [List.append_assoc]))) ; (focus ((try simp only [List.length_append, thw_cv, mk_cv]) ; omega)) ; (focus omega) ; (focus omega) ; (focus omega))
        | (refine kOps ?_; first | (refine LOps.nil ?_) | (refine LOps.ev tT_ok rfl ?_) | (refine kLoad ?_; first | (refine LOps.ans (AnsL.loadE tT_ok 8 hq rfl rfl rfl rfl) ?_) | (refine LOps.ans (AnsL.loadE tT_ok 9 hq rfl rfl rfl rfl) ?_)) | (refine kBin ?_; first | (refine LOps.ans (AnsL.add rfl rfl ?_) ?_; (focus (constructor <;> omega)))) | (refine kIdx ?_; first | (refine LOps.ans (AnsL.idxM tT_ok rfl rfl rfl rfl rfl ?_) ?_; (focus (omega)))) | (refine kCallN 123 ?_; first | (refine LOps.ans (AnsL.callP rfl rfl rfl (ok123) (markText_v _ ?_ _)) ?_; (focus (omega)))))
        | (refine kWL ?_; first | (refine WL.seq ?_) | (refine WL.region (by kernel_rfl) ?_) | (refine WL.block ?_) | (refine WL.skip ?_) | (refine kCond ?_; first | (refine WL.condT' rfl ?_ ?_; (focus (first | (simp only [decide_eq_true_eq, decide_eq_false_iff_not, Bool.not_eq_true', Bool.not_eq_false', Int.ofNat_lt, Int.ofNat_le, Int.ofNat_inj, not_true_eq_false, not_false_eq_true]; omega))))))
        | (refine lthen_n ?_)
        | (refine lblock_n ?_)
      exact ⟨rfl, ⟨rfl, rfl, rfl, trivial⟩, by simp only [List.append_assoc]⟩
    · skip
      repeat' first
        | (refine lfin_e ?_)
        | (refine kOps ?_; first | (refine LOps.nil ?_) | (refine LOps.ev tT_ok rfl ?_))
        | (refine kWL ?_; first | (refine WL.seq ?_) | (refine WL.region (by kernel_rfl) ?_) | (refine WL.exit ?_) | (refine WL.ret ?_) | (refine kCond ?_; first | (refine WL.condF' rfl ?_ ?_; (focus (first | (simp only [decide_eq_true_eq, decide_eq_false_iff_not, Bool.not_eq_true', Bool.not_eq_false', Int.ofNat_lt, Int.ofNat_le, Int.ofNat_inj, not_true_eq_false, not_false_eq_true]; omega))))))
        | (refine lthen_n ?_)
        | (refine lthen_e ?_)
        | (refine lblock_e ?_)
        | (refine LPost.r1 (r := .tmp 4) (.inl rfl) (Res1.tmp rfl) ?_)
      exact ⟨rfl, rfl⟩
theorem heldPSortS_r (ys : List (PE × Bool)) (ih : ∀ y ∈ ys, HeldC Try.prog 49 (.sl 0 (y.1.kids.map PE.toV)) ∧ HeldC Try.prog 124 (.sl 0 (y.1.sub.map PE.planV))) : HeldC Try.prog 149 (.sl 0 (ys.map PE.sv)) := by
  intro k s hk0 hk
  refine VCalls.wf fun hwf => ?_
  have hlen : (mkL (ys.map PE.sv) k).length < 9223372036854775808 := sl_len hwf
  have hl2 : (mkL (ys.map PE.sv) k).length = (ys.map PE.sv).length := mkL_length _ _
  refine LCalls.pure Try.func149 rfl (by kernel_rfl) (by simp) ?_
  repeat' first
    | (refine kOps ?_; first | (refine LOps.nil ?_) | (refine LOps.ev tT_ok rfl ?_))
    | (refine kWL ?_; first | (refine WL.seq ?_) | (refine WL.region (by kernel_rfl) ?_) | (refine WL.block ?_))
    | (refine lthen_n ?_)
  refine WL.loopHeld (ys.map PE.sv) k (fun kk i => [(0, .sl 0 (mkL (ys.map PE.sv) k)), (1, .int .i64 kk), (5, .int .i64 (i : Int))]) hk0 hk ⟨rfl, rfl, rfl, trivial⟩ (fun i hi kk hg h0 hb => ?_) ?_
  · have hlt : i < ys.length := by simpa using hi
    have hd : (ys.map PE.sv)[i] = PE.sv ys[i] := List.getElem_map ..
    rw [hd] at hg hb ⊢
    have hi2 : i < (mkL (ys.map PE.sv) k).length := by omega
    have hI := ih ys[i] (List.getElem_mem hlt)
    generalize ys[i] = y at hg hb hI ⊢
    rw [PSortS_nk] at hb ⊢
    have hn0 := nk_le (.sl 0 (y.1.kids.map PE.toV)) (kk + 1 + 1 + 1 + 1 + 1 + 1 + 1 + 1)
    have hn1 := nk_le (.sl 0 (y.1.sub.map PE.planV)) (nk (.sl 0 (y.1.kids.map PE.toV)) (kk + 1 + 1 + 1 + 1 + 1 + 1 + 1 + 1))
    rw [PSortS_mk] at hg
    repeat' first
      | (refine kOps ?_; first | (refine LOps.nil ?_) | (refine LOps.ev tT_ok rfl ?_) | (refine kLen ?_; first | (refine LOps.ans (AnsL.lenG tT_ok rfl rfl rfl) ?_)) | (refine kBin ?_; first | (refine LOps.ans (AnsL.add rfl rfl ?_) ?_; (focus (constructor <;> omega)))) | (refine kIdx ?_; first | (refine LOps.ans (AnsL.idx tT_ok rfl rfl rfl rfl rfl hg rfl rfl) ?_)) | (refine kCallN 124 ?_; first | (refine LOps.ans (AnsL.callP rfl rfl rfl (ok124) (hI.2 _ _ ?_ ?_)) ?_; (focus (omega)); (focus (omega)))) | (refine kCallN 49 ?_; first | (refine LOps.ans (AnsL.callP rfl rfl rfl (ok49) (hI.1 _ _ ?_ ?_)) ?_; (focus (omega)); (focus (omega)))))
      | (refine kWL ?_; first | (refine WL.seq ?_) | (refine WL.region (by kernel_rfl) ?_) | (refine WL.drawn (id := 19) [0, 1, 2, 3, 4, 5, 6, 7, 8, 9] [] [[], [], [0, 1], [0, 1, 2], [0, 1, 2, 3], [0, 1, 2, 3, 4], [0, 1, 2, 3, 4, 5], [], [7], [0, 1, 2, 3, 4, 5, 6, 7, 8]] (by kernel_rfl) (by kernel_rfl) ?_) | (refine WL.block ?_) | (refine WL.skip ?_) | (refine kCond ?_; first | (refine WL.condT' rfl ?_ ?_; (focus (first | (simp only [decide_eq_true_eq, decide_eq_false_iff_not, Bool.not_eq_true', Bool.not_eq_false', Int.ofNat_lt, Int.ofNat_le, Int.ofNat_inj, not_true_eq_false, not_false_eq_true]; omega)))) | (refine WL.condF' rfl ?_ ?_; (focus (first | (simp only [decide_eq_true_eq, decide_eq_false_iff_not, Bool.not_eq_true', Bool.not_eq_false', Int.ofNat_lt, Int.ofNat_le, Int.ofNat_inj, not_true_eq_false, not_false_eq_true]; omega) | (simp <;> fail))))))
      | (refine kDr ?_; first | (refine LDr.nil ?_) | (refine LDr.fl rfl rfl (.ev tT_ok rfl) ?_) | (refine kDIdx rfl ?_; first | (refine LDr.fl rfl rfl (AnsL.idx tT_ok rfl rfl rfl rfl rfl hg rfl rfl) ?_)) | (refine kDCallN 123 rfl ?_; first | (refine LDr.fl rfl rfl (AnsL.callP rfl rfl rfl (ok123) (markText_v _ ?_ _)) ?_; (focus (omega)))))
      | (refine lthen_n ?_)
      | (refine lblock_n ?_)
    exact ⟨rfl, ⟨rfl, rfl, rfl, trivial⟩, rfl⟩
  · skip
    repeat' first
      | (refine lfin_e ?_)
      | (refine kOps ?_; first | (refine LOps.nil ?_) | (refine LOps.ev tT_ok rfl ?_) | (refine kLen ?_; first | (refine LOps.ans (AnsL.lenG tT_ok rfl rfl rfl) ?_)))
      | (refine kWL ?_; first | (refine WL.seq ?_) | (refine WL.region (by kernel_rfl) ?_) | (refine WL.exit ?_) | (refine WL.ret ?_) | (refine kCond ?_; first | (refine WL.condF' rfl ?_ ?_; (focus (first | (simp only [decide_eq_true_eq, decide_eq_false_iff_not, Bool.not_eq_true', Bool.not_eq_false', Int.ofNat_lt, Int.ofNat_le, Int.ofNat_inj, not_true_eq_false, not_false_eq_true]; omega))))))
      | (refine lthen_n ?_)
      | (refine lthen_e ?_)
      | (refine lblock_e ?_)
      | (refine LPost.r1 (r := .tmp 4) (.inl rfl) (Res1.tmp rfl) ?_)
      | (refine PureR.mk ?_)
    rfl
theorem PlanS_mlen (l : List PL) : ∀ x ∈ l.map PE.planV, x.cells.length = 8 := by
  intro v hv
  obtain ⟨x, _, rfl⟩ := List.mem_map.1 hv
  rw [PE.planV_eq]; rfl
theorem PlanS_th (m : Nat) (y : PL) : (thw m (PL.v y)).2 = (thw (m) (.sl 0 (y.tables.map iV))).2 ++ ((thw (m + cv (.sl 0 (y.tables.map iV))) (.sl 0 (y.on.map PE.vS))).2 ++ ((thw (m + cv (.sl 0 (y.tables.map iV)) + cv (.sl 0 (y.on.map PE.vS))) (.sl 0 (y.wher.map PE.toV))).2 ++ ((thw (m + cv (.sl 0 (y.tables.map iV)) + cv (.sl 0 (y.on.map PE.vS)) + cv (.sl 0 (y.wher.map PE.toV))) (.sl 0 (y.order.map PE.sv))).2 ++ ((thw (m + cv (.sl 0 (y.tables.map iV)) + cv (.sl 0 (y.on.map PE.vS)) + cv (.sl 0 (y.wher.map PE.toV)) + cv (.sl 0 (y.order.map PE.sv))) (.sl 0 (y.items.map PE.toV))).2 ++ ((thw (m + cv (.sl 0 (y.tables.map iV)) + cv (.sl 0 (y.on.map PE.vS)) + cv (.sl 0 (y.wher.map PE.toV)) + cv (.sl 0 (y.order.map PE.sv)) + cv (.sl 0 (y.items.map PE.toV))) (.sl 0 (y.names.map sV))).2))))) := by simp only [PL.v, thw_agg, thwL_nil, thwL_int, thwL_str, thwL_bool, thwL_sl, thwL_mk, mk_agg, mkL_nil, mkL_int, mkL_str, mkL_bool, mkL_sl, V.cells, List.append_nil, List.nil_append, List.append_assoc]
theorem PlanS_tc (m : Nat) (y : PL) : (thw m (PL.v y)).1.cells = [(thw (m) (.sl 0 (y.tables.map iV))).1, (thw (m + cv (.sl 0 (y.tables.map iV))) (.sl 0 (y.on.map PE.vS))).1, (thw (m + cv (.sl 0 (y.tables.map iV)) + cv (.sl 0 (y.on.map PE.vS))) (.sl 0 (y.wher.map PE.toV))).1, (thw (m + cv (.sl 0 (y.tables.map iV)) + cv (.sl 0 (y.on.map PE.vS)) + cv (.sl 0 (y.wher.map PE.toV))) (.sl 0 (y.order.map PE.sv))).1, (thw (m + cv (.sl 0 (y.tables.map iV)) + cv (.sl 0 (y.on.map PE.vS)) + cv (.sl 0 (y.wher.map PE.toV)) + cv (.sl 0 (y.order.map PE.sv))) (.sl 0 (y.items.map PE.toV))).1, (thw (m + cv (.sl 0 (y.tables.map iV)) + cv (.sl 0 (y.on.map PE.vS)) + cv (.sl 0 (y.wher.map PE.toV)) + cv (.sl 0 (y.order.map PE.sv)) + cv (.sl 0 (y.items.map PE.toV))) (.sl 0 (y.names.map sV))).1, .bool y.distinct, .int .i64 y.limit] := by simp only [PL.v, thw_agg, thwL_nil, thwL_int, thwL_str, thwL_bool, thwL_sl, thwL_mk, mk_agg, mkL_nil, mkL_int, mkL_str, mkL_bool, mkL_sl, V.cells, List.append_nil, List.nil_append]
theorem PlanS_th2 (m : Nat) (y : PL) (kk : Int) : (thw m (mkV (PL.v y) kk)).2 = (thw (m) (mkV (.sl 0 (y.tables.map iV)) (kk))).2 ++ ((thw (m + cv (.sl 0 (y.tables.map iV))) (mkV (.sl 0 (y.on.map PE.vS)) (nk (.sl 0 (y.tables.map iV)) (kk)))).2 ++ ((thw (m + cv (.sl 0 (y.tables.map iV)) + cv (.sl 0 (y.on.map PE.vS))) (mkV (.sl 0 (y.wher.map PE.toV)) (nk (.sl 0 (y.on.map PE.vS)) (nk (.sl 0 (y.tables.map iV)) (kk))))).2 ++ ((thw (m + cv (.sl 0 (y.tables.map iV)) + cv (.sl 0 (y.on.map PE.vS)) + cv (.sl 0 (y.wher.map PE.toV))) (mkV (.sl 0 (y.order.map PE.sv)) (nk (.sl 0 (y.wher.map PE.toV)) (nk (.sl 0 (y.on.map PE.vS)) (nk (.sl 0 (y.tables.map iV)) (kk)))))).2 ++ ((thw (m + cv (.sl 0 (y.tables.map iV)) + cv (.sl 0 (y.on.map PE.vS)) + cv (.sl 0 (y.wher.map PE.toV)) + cv (.sl 0 (y.order.map PE.sv))) (mkV (.sl 0 (y.items.map PE.toV)) (nk (.sl 0 (y.order.map PE.sv)) (nk (.sl 0 (y.wher.map PE.toV)) (nk (.sl 0 (y.on.map PE.vS)) (nk (.sl 0 (y.tables.map iV)) (kk))))))).2 ++ ((thw (m + cv (.sl 0 (y.tables.map iV)) + cv (.sl 0 (y.on.map PE.vS)) + cv (.sl 0 (y.wher.map PE.toV)) + cv (.sl 0 (y.order.map PE.sv)) + cv (.sl 0 (y.items.map PE.toV))) (mkV (.sl 0 (y.names.map sV)) (nk (.sl 0 (y.items.map PE.toV)) (nk (.sl 0 (y.order.map PE.sv)) (nk (.sl 0 (y.wher.map PE.toV)) (nk (.sl 0 (y.on.map PE.vS)) (nk (.sl 0 (y.tables.map iV)) (kk)))))))).2))))) := by simp only [PL.v, thw_agg, thwL_nil, thwL_int, thwL_str, thwL_bool, thwL_sl, thwL_mk, mk_agg, mkL_nil, mkL_int, mkL_str, mkL_bool, mkL_sl, V.cells, List.append_nil, List.nil_append, List.append_assoc]
theorem PlanS_tc2 (m : Nat) (y : PL) (kk : Int) : (thw m (mkV (PL.v y) kk)).1.cells = [(thw (m) (.sl 0 (y.tables.map iV))).1, (thw (m + cv (.sl 0 (y.tables.map iV))) (.sl 0 (y.on.map PE.vS))).1, (thw (m + cv (.sl 0 (y.tables.map iV)) + cv (.sl 0 (y.on.map PE.vS))) (.sl 0 (y.wher.map PE.toV))).1, (thw (m + cv (.sl 0 (y.tables.map iV)) + cv (.sl 0 (y.on.map PE.vS)) + cv (.sl 0 (y.wher.map PE.toV))) (.sl 0 (y.order.map PE.sv))).1, (thw (m + cv (.sl 0 (y.tables.map iV)) + cv (.sl 0 (y.on.map PE.vS)) + cv (.sl 0 (y.wher.map PE.toV)) + cv (.sl 0 (y.order.map PE.sv))) (.sl 0 (y.items.map PE.toV))).1, (thw (m + cv (.sl 0 (y.tables.map iV)) + cv (.sl 0 (y.on.map PE.vS)) + cv (.sl 0 (y.wher.map PE.toV)) + cv (.sl 0 (y.order.map PE.sv)) + cv (.sl 0 (y.items.map PE.toV))) (.sl 0 (y.names.map sV))).1, .bool (decide ((nk (.sl 0 (y.names.map sV)) (nk (.sl 0 (y.items.map PE.toV)) (nk (.sl 0 (y.order.map PE.sv)) (nk (.sl 0 (y.wher.map PE.toV)) (nk (.sl 0 (y.on.map PE.vS)) (nk (.sl 0 (y.tables.map iV)) (kk))))))).tmod 3 = 0)), .int .i64 (nk (.sl 0 (y.names.map sV)) (nk (.sl 0 (y.items.map PE.toV)) (nk (.sl 0 (y.order.map PE.sv)) (nk (.sl 0 (y.wher.map PE.toV)) (nk (.sl 0 (y.on.map PE.vS)) (nk (.sl 0 (y.tables.map iV)) (kk)))))) + 1)] := by simp only [PL.v, thw_agg, thwL_nil, thwL_int, thwL_str, thwL_bool, thwL_sl, thwL_mk, mk_agg, mkL_nil, mkL_int, mkL_str, mkL_bool, mkL_sl, V.cells, List.append_nil, List.nil_append]
theorem PlanS_mk (y : PL) (kk : Int) : mkV (PL.v y) kk = .agg [mkV (.sl 0 (y.tables.map iV)) (kk), mkV (.sl 0 (y.on.map PE.vS)) (nk (.sl 0 (y.tables.map iV)) (kk)), mkV (.sl 0 (y.wher.map PE.toV)) (nk (.sl 0 (y.on.map PE.vS)) (nk (.sl 0 (y.tables.map iV)) (kk))), mkV (.sl 0 (y.order.map PE.sv)) (nk (.sl 0 (y.wher.map PE.toV)) (nk (.sl 0 (y.on.map PE.vS)) (nk (.sl 0 (y.tables.map iV)) (kk)))), mkV (.sl 0 (y.items.map PE.toV)) (nk (.sl 0 (y.order.map PE.sv)) (nk (.sl 0 (y.wher.map PE.toV)) (nk (.sl 0 (y.on.map PE.vS)) (nk (.sl 0 (y.tables.map iV)) (kk))))), mkV (.sl 0 (y.names.map sV)) (nk (.sl 0 (y.items.map PE.toV)) (nk (.sl 0 (y.order.map PE.sv)) (nk (.sl 0 (y.wher.map PE.toV)) (nk (.sl 0 (y.on.map PE.vS)) (nk (.sl 0 (y.tables.map iV)) (kk)))))), .bool (decide ((nk (.sl 0 (y.names.map sV)) (nk (.sl 0 (y.items.map PE.toV)) (nk (.sl 0 (y.order.map PE.sv)) (nk (.sl 0 (y.wher.map PE.toV)) (nk (.sl 0 (y.on.map PE.vS)) (nk (.sl 0 (y.tables.map iV)) (kk))))))).tmod 3 = 0)), .int .i64 (nk (.sl 0 (y.names.map sV)) (nk (.sl 0 (y.items.map PE.toV)) (nk (.sl 0 (y.order.map PE.sv)) (nk (.sl 0 (y.wher.map PE.toV)) (nk (.sl 0 (y.on.map PE.vS)) (nk (.sl 0 (y.tables.map iV)) (kk)))))) + 1)] := by simp only [PL.v, mk_agg, mkL_nil, mkL_int, mkL_str, mkL_bool, mkL_sl, nk] <;> rfl
theorem PlanS_cv (y : PL) : cv (PL.v y) = cv (.sl 0 (y.tables.map iV)) + cv (.sl 0 (y.on.map PE.vS)) + cv (.sl 0 (y.wher.map PE.toV)) + cv (.sl 0 (y.order.map PE.sv)) + cv (.sl 0 (y.items.map PE.toV)) + cv (.sl 0 (y.names.map sV)) := by simp only [PL.v, cv, cvL]; omega
theorem PlanS_nk (y : PL) (kk : Int) : nk (PL.v y) kk = nk (.sl 0 (y.names.map sV)) (nk (.sl 0 (y.items.map PE.toV)) (nk (.sl 0 (y.order.map PE.sv)) (nk (.sl 0 (y.wher.map PE.toV)) (nk (.sl 0 (y.on.map PE.vS)) (nk (.sl 0 (y.tables.map iV)) (kk)))))) + 1 + 1 := by simp only [PL.v, nk, nkL]
theorem markPlanS_r (ys : List PL) (ih : ∀ y ∈ ys, MarkC Try.prog 109 (.sl 0 (y.on.map PE.vS)) ∧ MarkC Try.prog 48 (.sl 0 (y.wher.map PE.toV)) ∧ MarkC Try.prog 110 (.sl 0 (y.order.map PE.sv)) ∧ MarkC Try.prog 48 (.sl 0 (y.items.map PE.toV))) : MarkC Try.prog 120 (.sl 0 (ys.map PE.planV)) := by
  intro t n k hv hk0 hk
  by_cases he : ys = []
  · subst he
    refine LCalls.body0 Try.func120 rfl (by kernel_rfl) ?_
    repeat' first
      | (refine kOps ?_; first | (refine LOps.nil ?_) | (refine LOps.ev tT_ok rfl ?_))
      | (refine kWL ?_; first | (refine WL.seq ?_) | (refine WL.region (by kernel_rfl) ?_) | (refine WL.block ?_))
      | (refine lthen_n ?_)
    refine WL.loop0 (fun _ : Unit => 0) (fun _ => [(0, .sl 0 []), (1, .int .i64 k), (5, .int .i64 0)]) (fun _ => t) (fun _ => True) () trivial ⟨rfl, rfl, rfl, trivial⟩ rfl (fun _ _ => ?_)
    repeat' first
      | (refine kOps ?_; first | (refine LOps.nil ?_) | (refine LOps.ev tT_ok rfl ?_) | (refine kLen ?_; first | (refine LOps.ans (AnsL.lenS tT_ok rfl rfl rfl rfl) ?_)))
      | (refine kWL ?_; first | (refine WL.seq ?_) | (refine WL.region (by kernel_rfl) ?_) | (refine WL.exit ?_) | (refine WL.ret ?_) | (refine kCond ?_; first | (refine WL.condF rfl ?_)))
      | (refine lthen_n ?_)
      | (refine lthen_e ?_)
      | (refine lblock_e ?_)
      | (refine lback_e ?_)
      | (refine LPost.r1 (r := .tmp 4) (.inl rfl) (Res1.tmp rfl) ?_)
    exact ⟨rfl, (blk_nil t n).symm⟩
  · have hne := map_ne (f := PE.planV) he
    rw [thw_sl n 0 hne]
    refine VCalls.wf fun hwf => ?_
    have hlen : (ys.map PE.planV).length < 9223372036854775808 := slm_len hwf
    refine LCalls.body0 Try.func120 rfl (by kernel_rfl) ?_
    repeat' first
      | (refine kOps ?_; first | (refine LOps.nil ?_) | (refine LOps.ev tT_ok rfl ?_))
      | (refine kWL ?_; first | (refine WL.seq ?_) | (refine WL.region (by kernel_rfl) ?_) | (refine WL.block ?_))
      | (refine lthen_n ?_)
    refine WL.loopMark t n (ys.map PE.planV) k 8 (fun kk i => [(0, .slm false (n + cvL (ys.map PE.planV)) 0 (ys.map PE.planV).length), (1, .int .i64 kk), (5, .int .i64 (i : Int))]) hne (PlanS_mlen ys) hv hk0 hk ⟨rfl, rfl, rfl, trivial⟩ (fun i hi kk m A Z CA CZ hq hm hl h0 hb => ?_) ?_
    · have hlt : i < ys.length := by simpa using hi
      have hd : (ys.map PE.planV)[i] = PL.v ys[i] := by rw [List.getElem_map, PE.planV_eq]
      rw [hd] at hl hb ⊢
      have hI := ih ys[i] (List.getElem_mem hlt)
      generalize ys[i] = y at hl hb hI ⊢
      rw [PlanS_cv] at hl
      rw [PlanS_nk] at hb ⊢
      have hn0 := nk_le (.sl 0 (y.tables.map iV)) (kk)
      have hn1 := nk_le (.sl 0 (y.on.map PE.vS)) (nk (.sl 0 (y.tables.map iV)) (kk))
      have hn2 := nk_le (.sl 0 (y.wher.map PE.toV)) (nk (.sl 0 (y.on.map PE.vS)) (nk (.sl 0 (y.tables.map iV)) (kk)))
      have hn3 := nk_le (.sl 0 (y.order.map PE.sv)) (nk (.sl 0 (y.wher.map PE.toV)) (nk (.sl 0 (y.on.map PE.vS)) (nk (.sl 0 (y.tables.map iV)) (kk))))
      have hn4 := nk_le (.sl 0 (y.items.map PE.toV)) (nk (.sl 0 (y.order.map PE.sv)) (nk (.sl 0 (y.wher.map PE.toV)) (nk (.sl 0 (y.on.map PE.vS)) (nk (.sl 0 (y.tables.map iV)) (kk)))))
      have hn5 := nk_le (.sl 0 (y.names.map sV)) (nk (.sl 0 (y.items.map PE.toV)) (nk (.sl 0 (y.order.map PE.sv)) (nk (.sl 0 (y.wher.map PE.toV)) (nk (.sl 0 (y.on.map PE.vS)) (nk (.sl 0 (y.tables.map iV)) (kk))))))
      rw [PlanS_th, PlanS_tc, PlanS_th2, PlanS_tc2]
      repeat' first
        | (refine kStore ?_ ; first | (refine LOps.storeE tT_ok 6 hq rfl rfl rfl rfl rfl rfl rfl rfl ?_) | (refine LOps.storeE tT_ok 7 hq rfl rfl rfl rfl rfl rfl rfl rfl ?_))
        | (refine kCallN 108 ?_ ; refine LOps.markP (m := m) (A := A) (Z := (thw (m + cv (.sl 0 (y.tables.map iV))) (.sl 0 (y.on.map PE.vS))).2 ++ ((thw (m + cv (.sl 0 (y.tables.map iV)) + cv (.sl 0 (y.on.map PE.vS))) (.sl 0 (y.wher.map PE.toV))).2 ++ ((thw (m + cv (.sl 0 (y.tables.map iV)) + cv (.sl 0 (y.on.map PE.vS)) + cv (.sl 0 (y.wher.map PE.toV))) (.sl 0 (y.order.map PE.sv))).2 ++ ((thw (m + cv (.sl 0 (y.tables.map iV)) + cv (.sl 0 (y.on.map PE.vS)) + cv (.sl 0 (y.wher.map PE.toV)) + cv (.sl 0 (y.order.map PE.sv))) (.sl 0 (y.items.map PE.toV))).2 ++ ((thw (m + cv (.sl 0 (y.tables.map iV)) + cv (.sl 0 (y.on.map PE.vS)) + cv (.sl 0 (y.wher.map PE.toV)) + cv (.sl 0 (y.order.map PE.sv)) + cv (.sl 0 (y.items.map PE.toV))) (.sl 0 (y.names.map sV))).2 ++ (Z)))))) rfl rfl ok108 (markIntS_c y.tables) rfl ?_ ?_ ?_ ?_ ?_ ?_ ; (focus (first | rfl | (simp only [List.append_assoc]))) ; (focus ((try simp only [List.length_append, thw_cv, mk_cv]) ; omega)) ; (focus omega) ; (focus omega) ; (focus omega))
        | (refine kCallN 109 ?_ ; refine LOps.markP (m := m + cv (.sl 0 (y.tables.map iV))) (A := (A ++ (thw (m) (mkV (.sl 0 (y.tables.map iV)) (kk))).2)) (Z := (thw (m + cv (.sl 0 (y.tables.map iV)) + cv (.sl 0 (y.on.map PE.vS))) (.sl 0 (y.wher.map PE.toV))).2 ++ ((thw (m + cv (.sl 0 (y.tables.map iV)) + cv (.sl 0 (y.on.map PE.vS)) + cv (.sl 0 (y.wher.map PE.toV))) (.sl 0 (y.order.map PE.sv))).2 ++ ((thw (m + cv (.sl 0 (y.tables.map iV)) + cv (.sl 0 (y.on.map PE.vS)) + cv (.sl 0 (y.wher.map PE.toV)) + cv (.sl 0 (y.order.map PE.sv))) (.sl 0 (y.items.map PE.toV))).2 ++ ((thw (m + cv (.sl 0 (y.tables.map iV)) + cv (.sl 0 (y.on.map PE.vS)) + cv (.sl 0 (y.wher.map PE.toV)) + cv (.sl 0 (y.order.map PE.sv)) + cv (.sl 0 (y.items.map PE.toV))) (.sl 0 (y.names.map sV))).2 ++ (Z))))) rfl rfl ok109 (hI.1) rfl ?_ ?_ ?_ ?_ ?_ ?_ ; (focus (first | rfl | (simp only [List.append_assoc]))) ; (focus ((try simp only [List.length_append, thw_cv, mk_cv]) ; omega)) ; (focus omega) ; (focus omega) ; (focus omega))
        | (refine kCallN 48 ?_ ; refine LOps.markP (m := m + cv (.sl 0 (y.tables.map iV)) + cv (.sl 0 (y.on.map PE.vS))) (A := ((A ++ (thw (m) (mkV (.sl 0 (y.tables.map iV)) (kk))).2) ++ (thw (m + cv (.sl 0 (y.tables.map iV))) (mkV (.sl 0 (y.on.map PE.vS)) (nk (.sl 0 (y.tables.map iV)) (kk)))).2)) (Z := (thw (m + cv (.sl 0 (y.tables.map iV)) + cv (.sl 0 (y.on.map PE.vS)) + cv (.sl 0 (y.wher.map PE.toV))) (.sl 0 (y.order.map PE.sv))).2 ++ ((thw (m + cv (.sl 0 (y.tables.map iV)) + cv (.sl 0 (y.on.map PE.vS)) + cv (.sl 0 (y.wher.map PE.toV)) + cv (.sl 0 (y.order.map PE.sv))) (.sl 0 (y.items.map PE.toV))).2 ++ ((thw (m + cv (.sl 0 (y.tables.map iV)) + cv (.sl 0 (y.on.map PE.vS)) + cv (.sl 0 (y.wher.map PE.toV)) + cv (.sl 0 (y.order.map PE.sv)) + cv (.sl 0 (y.items.map PE.toV))) (.sl 0 (y.names.map sV))).2 ++ (Z)))) rfl rfl ok48 (hI.2.1) rfl ?_ ?_ ?_ ?_ ?_ ?_ ; (focus (first | rfl | (simp only [List.append_assoc]))) ; (focus ((try simp only [List.length_append, thw_cv, mk_cv]) ; omega)) ; (focus omega) ; (focus omega) ; (focus omega))
        | (refine kCallN 110 ?_ ; refine LOps.markP (m := m + cv (.sl 0 (y.tables.map iV)) + cv (.sl 0 (y.on.map PE.vS)) + cv (.sl 0 (y.wher.map PE.toV))) (A := (((A ++ (thw (m) (mkV (.sl 0 (y.tables.map iV)) (kk))).2) ++ (thw (m + cv (.sl 0 (y.tables.map iV))) (mkV (.sl 0 (y.on.map PE.vS)) (nk (.sl 0 (y.tables.map iV)) (kk)))).2) ++ (thw (m + cv (.sl 0 (y.tables.map iV)) + cv (.sl 0 (y.on.map PE.vS))) (mkV (.sl 0 (y.wher.map PE.toV)) (nk (.sl 0 (y.on.map PE.vS)) (nk (.sl 0 (y.tables.map iV)) (kk))))).2)) (Z := (thw (m + cv (.sl 0 (y.tables.map iV)) + cv (.sl 0 (y.on.map PE.vS)) + cv (.sl 0 (y.wher.map PE.toV)) + cv (.sl 0 (y.order.map PE.sv))) (.sl 0 (y.items.map PE.toV))).2 ++ ((thw (m + cv (.sl 0 (y.tables.map iV)) + cv (.sl 0 (y.on.map PE.vS)) + cv (.sl 0 (y.wher.map PE.toV)) + cv (.sl 0 (y.order.map PE.sv)) + cv (.sl 0 (y.items.map PE.toV))) (.sl 0 (y.names.map sV))).2 ++ (Z))) rfl rfl ok110 (hI.2.2.1) rfl ?_ ?_ ?_ ?_ ?_ ?_ ; (focus (first | rfl | (simp only [List.append_assoc]))) ; (focus ((try simp only [List.length_append, thw_cv, mk_cv]) ; omega)) ; (focus omega) ; (focus omega) ; (focus omega))
        | (refine kCallN 48 ?_ ; refine LOps.markP (m := m + cv (.sl 0 (y.tables.map iV)) + cv (.sl 0 (y.on.map PE.vS)) + cv (.sl 0 (y.wher.map PE.toV)) + cv (.sl 0 (y.order.map PE.sv))) (A := ((((A ++ (thw (m) (mkV (.sl 0 (y.tables.map iV)) (kk))).2) ++ (thw (m + cv (.sl 0 (y.tables.map iV))) (mkV (.sl 0 (y.on.map PE.vS)) (nk (.sl 0 (y.tables.map iV)) (kk)))).2) ++ (thw (m + cv (.sl 0 (y.tables.map iV)) + cv (.sl 0 (y.on.map PE.vS))) (mkV (.sl 0 (y.wher.map PE.toV)) (nk (.sl 0 (y.on.map PE.vS)) (nk (.sl 0 (y.tables.map iV)) (kk))))).2) ++ (thw (m + cv (.sl 0 (y.tables.map iV)) + cv (.sl 0 (y.on.map PE.vS)) + cv (.sl 0 (y.wher.map PE.toV))) (mkV (.sl 0 (y.order.map PE.sv)) (nk (.sl 0 (y.wher.map PE.toV)) (nk (.sl 0 (y.on.map PE.vS)) (nk (.sl 0 (y.tables.map iV)) (kk)))))).2)) (Z := (thw (m + cv (.sl 0 (y.tables.map iV)) + cv (.sl 0 (y.on.map PE.vS)) + cv (.sl 0 (y.wher.map PE.toV)) + cv (.sl 0 (y.order.map PE.sv)) + cv (.sl 0 (y.items.map PE.toV))) (.sl 0 (y.names.map sV))).2 ++ (Z)) rfl rfl ok48 (hI.2.2.2) rfl ?_ ?_ ?_ ?_ ?_ ?_ ; (focus (first | rfl | (simp only [List.append_assoc]))) ; (focus ((try simp only [List.length_append, thw_cv, mk_cv]) ; omega)) ; (focus omega) ; (focus omega) ; (focus omega))
        | (refine kCallN 111 ?_ ; refine LOps.markP (m := m + cv (.sl 0 (y.tables.map iV)) + cv (.sl 0 (y.on.map PE.vS)) + cv (.sl 0 (y.wher.map PE.toV)) + cv (.sl 0 (y.order.map PE.sv)) + cv (.sl 0 (y.items.map PE.toV))) (A := (((((A ++ (thw (m) (mkV (.sl 0 (y.tables.map iV)) (kk))).2) ++ (thw (m + cv (.sl 0 (y.tables.map iV))) (mkV (.sl 0 (y.on.map PE.vS)) (nk (.sl 0 (y.tables.map iV)) (kk)))).2) ++ (thw (m + cv (.sl 0 (y.tables.map iV)) + cv (.sl 0 (y.on.map PE.vS))) (mkV (.sl 0 (y.wher.map PE.toV)) (nk (.sl 0 (y.on.map PE.vS)) (nk (.sl 0 (y.tables.map iV)) (kk))))).2) ++ (thw (m + cv (.sl 0 (y.tables.map iV)) + cv (.sl 0 (y.on.map PE.vS)) + cv (.sl 0 (y.wher.map PE.toV))) (mkV (.sl 0 (y.order.map PE.sv)) (nk (.sl 0 (y.wher.map PE.toV)) (nk (.sl 0 (y.on.map PE.vS)) (nk (.sl 0 (y.tables.map iV)) (kk)))))).2) ++ (thw (m + cv (.sl 0 (y.tables.map iV)) + cv (.sl 0 (y.on.map PE.vS)) + cv (.sl 0 (y.wher.map PE.toV)) + cv (.sl 0 (y.order.map PE.sv))) (mkV (.sl 0 (y.items.map PE.toV)) (nk (.sl 0 (y.order.map PE.sv)) (nk (.sl 0 (y.wher.map PE.toV)) (nk (.sl 0 (y.on.map PE.vS)) (nk (.sl 0 (y.tables.map iV)) (kk))))))).2)) (Z := Z) rfl rfl ok111 (markStringS_c y.names) rfl ?_ ?_ ?_ ?_ ?_ ?_ ; (focus (first | rfl | (simp only [List.append_assoc]))) ; (focus ((try simp only [List.length_append, thw_cv, mk_cv]) ; omega)) ; (focus omega) ; (focus omega) ; (focus omega))
        | (refine kOps ?_; first | (refine LOps.nil ?_) | (refine LOps.ev tT_ok rfl ?_) | (refine kLoad ?_; first | (refine LOps.ans (AnsL.loadE tT_ok 0 hq rfl rfl rfl rfl) ?_) | (refine LOps.ans (AnsL.loadE tT_ok 1 hq rfl rfl rfl rfl) ?_) | (refine LOps.ans (AnsL.loadE tT_ok 2 hq rfl rfl rfl rfl) ?_) | (refine LOps.ans (AnsL.loadE tT_ok 3 hq rfl rfl rfl rfl) ?_) | (refine LOps.ans (AnsL.loadE tT_ok 4 hq rfl rfl rfl rfl) ?_) | (refine LOps.ans (AnsL.loadE tT_ok 5 hq rfl rfl rfl rfl) ?_)) | (refine kBin ?_; first | (refine LOps.ans (AnsL.add rfl rfl ?_) ?_; (focus (constructor <;> omega)))) | (refine kIdx ?_; first | (refine LOps.ans (AnsL.idxM tT_ok rfl rfl rfl rfl rfl ?_) ?_; (focus (omega)))))
        | (refine kWL ?_; first | (refine WL.seq ?_) | (refine WL.region (by kernel_rfl) ?_) | (refine WL.block ?_) | (refine WL.skip ?_) | (refine kCond ?_; first | (refine WL.condT' rfl ?_ ?_; (focus (first | (simp only [decide_eq_true_eq, decide_eq_false_iff_not, Bool.not_eq_true', Bool.not_eq_false', Int.ofNat_lt, Int.ofNat_le, Int.ofNat_inj, not_true_eq_false, not_false_eq_true]; omega))))))
        | (refine lthen_n ?_)
        | (refine lblock_n ?_)
      exact ⟨rfl, ⟨rfl, rfl, rfl, trivial⟩, by simp only [List.append_assoc]⟩
    · skip
      repeat' first
        | (refine lfin_e ?_)
        | (refine kOps ?_; first | (refine LOps.nil ?_) | (refine LOps.ev tT_ok rfl ?_))
        | (refine kWL ?_; first | (refine WL.seq ?_) | (refine WL.region (by kernel_rfl) ?_) | (refine WL.exit ?_) | (refine WL.ret ?_) | (refine kCond ?_; first | (refine WL.condF' rfl ?_ ?_; (focus (first | (simp only [decide_eq_true_eq, decide_eq_false_iff_not, Bool.not_eq_true', Bool.not_eq_false', Int.ofNat_lt, Int.ofNat_le, Int.ofNat_inj, not_true_eq_false, not_false_eq_true]; omega))))))
        | (refine lthen_n ?_)
        | (refine lthen_e ?_)
        | (refine lblock_e ?_)
        | (refine LPost.r1 (r := .tmp 4) (.inl rfl) (Res1.tmp rfl) ?_)
      exact ⟨rfl, rfl⟩
theorem heldPlanS_r (ys : List PL) (ih : ∀ y ∈ ys, HeldC Try.prog 148 (.sl 0 (y.on.map PE.vS)) ∧ HeldC Try.prog 49 (.sl 0 (y.wher.map PE.toV)) ∧ HeldC Try.prog 149 (.sl 0 (y.order.map PE.sv)) ∧ HeldC Try.prog 49 (.sl 0 (y.items.map PE.toV))) : HeldC Try.prog 124 (.sl 0 (ys.map PE.planV)) := by
  intro k s hk0 hk
  refine VCalls.wf fun hwf => ?_
  have hlen : (mkL (ys.map PE.planV) k).length < 9223372036854775808 := sl_len hwf
  have hl2 : (mkL (ys.map PE.planV) k).length = (ys.map PE.planV).length := mkL_length _ _
  refine LCalls.pure Try.func124 rfl (by kernel_rfl) (by simp) ?_
  repeat' first
    | (refine kOps ?_; first | (refine LOps.nil ?_) | (refine LOps.ev tT_ok rfl ?_))
    | (refine kWL ?_; first | (refine WL.seq ?_) | (refine WL.region (by kernel_rfl) ?_) | (refine WL.block ?_))
    | (refine lthen_n ?_)
  refine WL.loopHeld (ys.map PE.planV) k (fun kk i => [(0, .sl 0 (mkL (ys.map PE.planV) k)), (1, .int .i64 kk), (5, .int .i64 (i : Int))]) hk0 hk ⟨rfl, rfl, rfl, trivial⟩ (fun i hi kk hg h0 hb => ?_) ?_
  · have hlt : i < ys.length := by simpa using hi
    have hd : (ys.map PE.planV)[i] = PL.v ys[i] := by rw [List.getElem_map, PE.planV_eq]
    rw [hd] at hg hb ⊢
    have hi2 : i < (mkL (ys.map PE.planV) k).length := by omega
    have hI := ih ys[i] (List.getElem_mem hlt)
    generalize ys[i] = y at hg hb hI ⊢
    rw [PlanS_nk] at hb ⊢
    have hn0 := nk_le (.sl 0 (y.tables.map iV)) (kk)
    have hn1 := nk_le (.sl 0 (y.on.map PE.vS)) (nk (.sl 0 (y.tables.map iV)) (kk))
    have hn2 := nk_le (.sl 0 (y.wher.map PE.toV)) (nk (.sl 0 (y.on.map PE.vS)) (nk (.sl 0 (y.tables.map iV)) (kk)))
    have hn3 := nk_le (.sl 0 (y.order.map PE.sv)) (nk (.sl 0 (y.wher.map PE.toV)) (nk (.sl 0 (y.on.map PE.vS)) (nk (.sl 0 (y.tables.map iV)) (kk))))
    have hn4 := nk_le (.sl 0 (y.items.map PE.toV)) (nk (.sl 0 (y.order.map PE.sv)) (nk (.sl 0 (y.wher.map PE.toV)) (nk (.sl 0 (y.on.map PE.vS)) (nk (.sl 0 (y.tables.map iV)) (kk)))))
    have hn5 := nk_le (.sl 0 (y.names.map sV)) (nk (.sl 0 (y.items.map PE.toV)) (nk (.sl 0 (y.order.map PE.sv)) (nk (.sl 0 (y.wher.map PE.toV)) (nk (.sl 0 (y.on.map PE.vS)) (nk (.sl 0 (y.tables.map iV)) (kk))))))
    rw [PlanS_mk] at hg
    repeat' first
      | (refine kOps ?_; first | (refine LOps.nil ?_) | (refine LOps.ev tT_ok rfl ?_) | (refine kLen ?_; first | (refine LOps.ans (AnsL.lenG tT_ok rfl rfl rfl) ?_)) | (refine kBin ?_; first | (refine LOps.ans (AnsL.add rfl rfl ?_) ?_; (focus (constructor <;> omega)))) | (refine kIdx ?_; first | (refine LOps.ans (AnsL.idx tT_ok rfl rfl rfl rfl rfl hg rfl rfl) ?_)) | (refine kCallN 147 ?_; first | (refine LOps.ans (AnsL.callP rfl rfl rfl (ok147) (heldIntS_c y.tables _ ?_ ?_ _)) ?_; (focus (omega)); (focus (omega)))) | (refine kCallN 148 ?_; first | (refine LOps.ans (AnsL.callP rfl rfl rfl (ok148) (hI.1 _ _ ?_ ?_)) ?_; (focus (omega)); (focus (omega)))) | (refine kCallN 149 ?_; first | (refine LOps.ans (AnsL.callP rfl rfl rfl (ok149) (hI.2.2.1 _ _ ?_ ?_)) ?_; (focus (omega)); (focus (omega)))) | (refine kCallN 150 ?_; first | (refine LOps.ans (AnsL.callP rfl rfl rfl (ok150) (heldStringS_c y.names _ ?_ ?_ _)) ?_; (focus (omega)); (focus (omega)))) | (refine kCallN 49 ?_; first | (refine LOps.ans (AnsL.callP rfl rfl rfl (ok49) (hI.2.1 _ _ ?_ ?_)) ?_; (focus (omega)); (focus (omega))) | (refine LOps.ans (AnsL.callP rfl rfl rfl (ok49) (hI.2.2.2 _ _ ?_ ?_)) ?_; (focus (omega)); (focus (omega)))))
      | (refine kWL ?_; first | (refine WL.seq ?_) | (refine WL.region (by kernel_rfl) ?_) | (refine WL.block ?_) | (refine WL.skip ?_) | (refine kCond ?_; first | (refine WL.condT' rfl ?_ ?_; (focus (first | (simp only [decide_eq_true_eq, decide_eq_false_iff_not, Bool.not_eq_true', Bool.not_eq_false', Int.ofNat_lt, Int.ofNat_le, Int.ofNat_inj, not_true_eq_false, not_false_eq_true]; omega)))) | (refine WL.condF' rfl ?_ ?_; (focus (first | (simp only [decide_eq_true_eq, decide_eq_false_iff_not, Bool.not_eq_true', Bool.not_eq_false', Int.ofNat_lt, Int.ofNat_le, Int.ofNat_inj, not_true_eq_false, not_false_eq_true]; omega) | (simp <;> fail))))))
      | (refine lthen_n ?_)
      | (refine lblock_n ?_)
    exact ⟨rfl, ⟨rfl, rfl, rfl, trivial⟩, rfl⟩
  · skip
    repeat' first
      | (refine lfin_e ?_)
      | (refine kOps ?_; first | (refine LOps.nil ?_) | (refine LOps.ev tT_ok rfl ?_) | (refine kLen ?_; first | (refine LOps.ans (AnsL.lenG tT_ok rfl rfl rfl) ?_)))
      | (refine kWL ?_; first | (refine WL.seq ?_) | (refine WL.region (by kernel_rfl) ?_) | (refine WL.exit ?_) | (refine WL.ret ?_) | (refine kCond ?_; first | (refine WL.condF' rfl ?_ ?_; (focus (first | (simp only [decide_eq_true_eq, decide_eq_false_iff_not, Bool.not_eq_true', Bool.not_eq_false', Int.ofNat_lt, Int.ofNat_le, Int.ofNat_inj, not_true_eq_false, not_false_eq_true]; omega))))))
      | (refine lthen_n ?_)
      | (refine lthen_e ?_)
      | (refine lblock_e ?_)
      | (refine LPost.r1 (r := .tmp 4) (.inl rfl) (Res1.tmp rfl) ?_)
      | (refine PureR.mk ?_)
    rfl
theorem markPE_c (e : PE) : MarkC Try.prog 48 (.sl 0 (e.kids.map PE.toV)) ∧ MarkC Try.prog 120 (.sl 0 (e.sub.map PE.planV)) := by
  induction e using PE.ind with
  | h e ih1 ih2 =>
    refine ⟨markPExprS_r e.kids fun k hk => ih1 k hk, markPlanS_r e.sub fun p hp => ?_⟩
    have h := ih2 p hp
    exact ⟨markPExprSS_r p.on fun l hl => markPExprS_r l fun k hk => h k (PlanOf.mem_on hl hk), markPExprS_r p.wher fun k hk => h k (PlanOf.mem_wher hk), markPSortS_r p.order fun x hx => h x.1 (PlanOf.mem_order hx), markPExprS_r p.items fun k hk => h k (PlanOf.mem_items hk)⟩
theorem markPExprS_c (l : List PE) : MarkC Try.prog 48 (.sl 0 (l.map PE.toV)) := markPExprS_r l fun k _ => markPE_c k
theorem markPExprSS_c (l : List (List PE)) : MarkC Try.prog 109 (.sl 0 (l.map PE.vS)) := markPExprSS_r l fun k _ => markPExprS_c k
theorem markPSortS_c (l : List (PE × Bool)) : MarkC Try.prog 110 (.sl 0 (l.map PE.sv)) := markPSortS_r l fun x _ => markPE_c x.1
theorem heldPE_c (e : PE) : HeldC Try.prog 49 (.sl 0 (e.kids.map PE.toV)) ∧ HeldC Try.prog 124 (.sl 0 (e.sub.map PE.planV)) := by
  induction e using PE.ind with
  | h e ih1 ih2 =>
    refine ⟨heldPExprS_r e.kids fun k hk => ih1 k hk, heldPlanS_r e.sub fun p hp => ?_⟩
    have h := ih2 p hp
    exact ⟨heldPExprSS_r p.on fun l hl => heldPExprS_r l fun k hk => h k (PlanOf.mem_on hl hk), heldPExprS_r p.wher fun k hk => h k (PlanOf.mem_wher hk), heldPSortS_r p.order fun x hx => h x.1 (PlanOf.mem_order hx), heldPExprS_r p.items fun k hk => h k (PlanOf.mem_items hk)⟩
theorem heldPExprS_c (l : List PE) : HeldC Try.prog 49 (.sl 0 (l.map PE.toV)) := heldPExprS_r l fun k _ => heldPE_c k
theorem heldPExprSS_c (l : List (List PE)) : HeldC Try.prog 148 (.sl 0 (l.map PE.vS)) := heldPExprSS_r l fun k _ => heldPExprS_c k
theorem heldPSortS_c (l : List (PE × Bool)) : HeldC Try.prog 149 (.sl 0 (l.map PE.sv)) := heldPSortS_r l fun x _ => heldPE_c x.1
theorem mk_mkL (i : Nat) (xs : List V) (k : Int) : (V.sl i (mkL xs k)) = mkV (.sl i xs) k := by simp only [mkV]
theorem mk_cvL (xs : List V) (k : Int) : cvL (mkL xs k) = cvL xs := mkL_cv xs k
theorem markPExpr_t (y : PE) : MarkT Try.prog 44 (PE.v y) := by
  intro t n k hv hn h0 hb
  have e1 : nkT (PE.v y) k = nk (.sl 0 (y.sub.map PE.planV)) (nk (.sl 0 (y.kids.map PE.toV)) (k)) := by simp only [PE.v, nkT, nkTL, nk]
  have e2 : (thw n (mkT (PE.v y) k)).2 = (thw (n) (mkV (.sl 0 (y.kids.map PE.toV)) (k))).2 ++ ((thw (n + cv (.sl 0 (y.kids.map PE.toV))) (mkV (.sl 0 (y.sub.map PE.planV)) (nk (.sl 0 (y.kids.map PE.toV)) (k)))).2) := by
    simp only [PE.v, mkT, mkTL, nkT, nk, thw_agg, thwL_nil, thwL_int, thwL_str, thwL_bool, thwL_sl, thwL_mk, mk_agg, mkL_nil, mkL_int, mkL_str, mkL_bool, mkL_sl, V.cells, List.append_nil, List.nil_append, cv, cvL, List.append_assoc, mk_mkL, mk_cvL]
  have e3 : (thw n (PE.v y)).2 = (thw (n) (.sl 0 (y.kids.map PE.toV))).2 ++ ((thw (n + cv (.sl 0 (y.kids.map PE.toV))) (.sl 0 (y.sub.map PE.planV))).2) := by simp only [PE.v, thw_agg, thwL_nil, thwL_int, thwL_str, thwL_bool, thwL_sl, thwL_mk, mk_agg, mkL_nil, mkL_int, mkL_str, mkL_bool, mkL_sl, V.cells, List.append_nil, List.nil_append, List.append_assoc]
  have e4 : (thw n (PE.v y)).1 = .agg [.int .i64 y.kind, .int .i64 y.op, .bool y.nt, .int .i64 y.value.kind, .int .i64 y.value.num, .str y.value.text, .int .i64 y.up, .int .i64 y.pos, (thw (n) (.sl 0 (y.kids.map PE.toV))).1, (thw (n + cv (.sl 0 (y.kids.map PE.toV))) (.sl 0 (y.sub.map PE.planV))).1] := by simp only [PE.v, thw_agg, thwL_nil, thwL_int, thwL_str, thwL_bool, thwL_sl, thwL_mk, mk_agg, mkL_nil, mkL_int, mkL_str, mkL_bool, mkL_sl, V.cells, List.append_nil, List.nil_append]
  have e5 : cv (PE.v y) = cv (.sl 0 (y.kids.map PE.toV)) + cv (.sl 0 (y.sub.map PE.planV)) := by simp only [PE.v, cv, cvL]; omega
  have hpl := PE.plainv y
  rw [e1] at hb
  rw [e5] at hn
  rw [e3] at hv
  have hv0 := HasV.left hv
  have hw0 := HasV.right hv
  rw [thw_cv] at hw0
  have hv1 := hw0
  have hn0 := nk_le (.sl 0 (y.kids.map PE.toV)) (k)
  have hn1 := nk_le (.sl 0 (y.sub.map PE.planV)) (nk (.sl 0 (y.kids.map PE.toV)) (k))
  have hfin : ∀ t' : S, t' = t.blk n ((thw (n) (mkV (.sl 0 (y.kids.map PE.toV)) (k))).2 ++ ((thw (n + cv (.sl 0 (y.kids.map PE.toV))) (mkV (.sl 0 (y.sub.map PE.planV)) (nk (.sl 0 (y.kids.map PE.toV)) (k)))).2)) → t' = t.blk n (thw n (mkT (PE.v y) k)).2 := fun t' h => by rw [e2]; exact h
  rw [e1, e4]
  refine VCalls.dropB rfl (mkT_plain _ _ hpl) (by rw [mkT_cv, e5]; exact hn) ?_
  rw [e2]
  refine LCalls.body Try.func44 rfl (by kernel_rfl) ?_
  repeat' first
    | (refine kCallN 48 ?_ ; refine LOps.markX (m := n) rfl rfl ok48 (markPExprS_c (y.kids)) rfl ?_ ?_ ?_ ?_ ?_ ; (focus (exact hv0)) ; (focus (show _ ≤ t.next ; omega)) ; (focus omega) ; (focus omega))
    | (refine kCallN 120 ?_ ; refine LOps.markX (m := n + cv (.sl 0 (y.kids.map PE.toV))) rfl rfl ok120 ((markPE_c y).2) rfl ?_ ?_ ?_ ?_ ?_ ; (focus ((repeat' first | exact hv1 | (refine HasV.blk_after ?_ (by simp only [thw_cv, mk_cv] ; try omega))))) ; (focus (show _ ≤ t.next ; omega)) ; (focus omega) ; (focus omega))
    | (refine kOps ?_; first | (refine LOps.nil ?_) | (refine LOps.ev tT_ok rfl ?_) | (refine kBox ?_; refine LOps.box rfl rfl rfl rfl ?_) | (refine kLoad ?_; first | (refine LOps.ans (AnsL.loadP tT_ok rfl rfl rfl rfl) ?_)))
    | (refine kWL ?_; first | (refine WL.seq ?_) | (refine WL.region (by kernel_rfl) ?_) | (refine WL.ret ?_))
    | (refine lthen_n ?_)
    | (refine LPost.r1 (r := .tmp 4) (.inl rfl) (Res1.tmp rfl) ?_)
  rw [blk_blk]; rotate_left; focus ((try simp only [List.length_append, thw_cv, mk_cv]) <;> try omega)
  try simp only [List.append_assoc]
  first | exact ⟨rfl, _, rfl⟩ | exact ⟨trivial, _, rfl⟩
theorem heldPExpr_t (y : PE) : HeldT Try.prog 52 (PE.v y) := by
  intro k s h0 hb
  have e1 : nkT (PE.v y) k = nk (.sl 0 (y.sub.map PE.planV)) (nk (.sl 0 (y.kids.map PE.toV)) (k)) := by simp only [PE.v, nkT, nkTL, nk]
  have e0 : mkT (PE.v y) k = .agg [.int .i64 y.kind, .int .i64 y.op, .bool y.nt, .int .i64 y.value.kind, .int .i64 y.value.num, .str y.value.text, .int .i64 y.up, .int .i64 y.pos, mkV (.sl 0 (y.kids.map PE.toV)) (k), mkV (.sl 0 (y.sub.map PE.planV)) (nk (.sl 0 (y.kids.map PE.toV)) (k))] := by simp only [PE.v, mkT, mkTL, nkT, nk, mk_mkL] <;> rfl
  rw [e1] at hb
  have hn0 := nk_le (.sl 0 (y.kids.map PE.toV)) (k)
  have hn1 := nk_le (.sl 0 (y.sub.map PE.planV)) (nk (.sl 0 (y.kids.map PE.toV)) (k))
  rw [e1, e0]
  refine LCalls.pure Try.func52 rfl (by kernel_rfl) (by simp) ?_
  repeat' first
    | (refine kOps ?_; first | (refine LOps.nil ?_) | (refine LOps.ev tT_ok rfl ?_) | (refine kBox ?_; refine LOps.box rfl rfl rfl rfl ?_) | (refine kLoad ?_; first | (refine LOps.ans (AnsL.loadP tT_ok rfl rfl rfl rfl) ?_)) | (refine kCallN 124 ?_; first | (refine LOps.ans (AnsL.callP rfl rfl rfl (ok124) ((heldPE_c y).2 _ _ ?_ ?_)) ?_; (focus (omega)); (focus (omega)))) | (refine kCallN 49 ?_; first | (refine LOps.ans (AnsL.callP rfl rfl rfl (ok49) (heldPExprS_c (y.kids) _ _ ?_ ?_)) ?_; (focus (omega)); (focus (omega)))))
    | (refine kWL ?_; first | (refine WL.seq ?_) | (refine WL.region (by kernel_rfl) ?_) | (refine WL.skip ?_) | (refine WL.ret ?_) | (refine kCond ?_; first | (refine WL.condF' rfl ?_ ?_; (focus (first | (simp only [decide_eq_true_eq, decide_eq_false_iff_not, Bool.not_eq_true', Bool.not_eq_false', Int.ofNat_lt, Int.ofNat_le, Int.ofNat_inj, not_true_eq_false, not_false_eq_true]; omega))))))
    | (refine lthen_n ?_)
    | (refine LPost.r1 (r := .tmp 4) (.inl rfl) (Res1.tmp rfl) ?_)
    | (refine PureR.mk ?_)
  rfl
theorem markPlan_t (y : PL) : MarkT Try.prog 36 (PL.v y) := by
  intro t n k hv hn h0 hb
  have e1 : nkT (PL.v y) k = nk (.sl 0 (y.names.map sV)) (nk (.sl 0 (y.items.map PE.toV)) (nk (.sl 0 (y.order.map PE.sv)) (nk (.sl 0 (y.wher.map PE.toV)) (nk (.sl 0 (y.on.map PE.vS)) (nk (.sl 0 (y.tables.map iV)) (k)))))) := by simp only [PL.v, nkT, nkTL, nk]
  have e2 : (thw n (mkT (PL.v y) k)).2 = (thw (n) (mkV (.sl 0 (y.tables.map iV)) (k))).2 ++ ((thw (n + cv (.sl 0 (y.tables.map iV))) (mkV (.sl 0 (y.on.map PE.vS)) (nk (.sl 0 (y.tables.map iV)) (k)))).2 ++ ((thw (n + cv (.sl 0 (y.tables.map iV)) + cv (.sl 0 (y.on.map PE.vS))) (mkV (.sl 0 (y.wher.map PE.toV)) (nk (.sl 0 (y.on.map PE.vS)) (nk (.sl 0 (y.tables.map iV)) (k))))).2 ++ ((thw (n + cv (.sl 0 (y.tables.map iV)) + cv (.sl 0 (y.on.map PE.vS)) + cv (.sl 0 (y.wher.map PE.toV))) (mkV (.sl 0 (y.order.map PE.sv)) (nk (.sl 0 (y.wher.map PE.toV)) (nk (.sl 0 (y.on.map PE.vS)) (nk (.sl 0 (y.tables.map iV)) (k)))))).2 ++ ((thw (n + cv (.sl 0 (y.tables.map iV)) + cv (.sl 0 (y.on.map PE.vS)) + cv (.sl 0 (y.wher.map PE.toV)) + cv (.sl 0 (y.order.map PE.sv))) (mkV (.sl 0 (y.items.map PE.toV)) (nk (.sl 0 (y.order.map PE.sv)) (nk (.sl 0 (y.wher.map PE.toV)) (nk (.sl 0 (y.on.map PE.vS)) (nk (.sl 0 (y.tables.map iV)) (k))))))).2 ++ ((thw (n + cv (.sl 0 (y.tables.map iV)) + cv (.sl 0 (y.on.map PE.vS)) + cv (.sl 0 (y.wher.map PE.toV)) + cv (.sl 0 (y.order.map PE.sv)) + cv (.sl 0 (y.items.map PE.toV))) (mkV (.sl 0 (y.names.map sV)) (nk (.sl 0 (y.items.map PE.toV)) (nk (.sl 0 (y.order.map PE.sv)) (nk (.sl 0 (y.wher.map PE.toV)) (nk (.sl 0 (y.on.map PE.vS)) (nk (.sl 0 (y.tables.map iV)) (k)))))))).2))))) := by
    simp only [PL.v, mkT, mkTL, nkT, nk, thw_agg, thwL_nil, thwL_int, thwL_str, thwL_bool, thwL_sl, thwL_mk, mk_agg, mkL_nil, mkL_int, mkL_str, mkL_bool, mkL_sl, V.cells, List.append_nil, List.nil_append, cv, cvL, List.append_assoc, mk_mkL, mk_cvL]
  have e3 : (thw n (PL.v y)).2 = (thw (n) (.sl 0 (y.tables.map iV))).2 ++ ((thw (n + cv (.sl 0 (y.tables.map iV))) (.sl 0 (y.on.map PE.vS))).2 ++ ((thw (n + cv (.sl 0 (y.tables.map iV)) + cv (.sl 0 (y.on.map PE.vS))) (.sl 0 (y.wher.map PE.toV))).2 ++ ((thw (n + cv (.sl 0 (y.tables.map iV)) + cv (.sl 0 (y.on.map PE.vS)) + cv (.sl 0 (y.wher.map PE.toV))) (.sl 0 (y.order.map PE.sv))).2 ++ ((thw (n + cv (.sl 0 (y.tables.map iV)) + cv (.sl 0 (y.on.map PE.vS)) + cv (.sl 0 (y.wher.map PE.toV)) + cv (.sl 0 (y.order.map PE.sv))) (.sl 0 (y.items.map PE.toV))).2 ++ ((thw (n + cv (.sl 0 (y.tables.map iV)) + cv (.sl 0 (y.on.map PE.vS)) + cv (.sl 0 (y.wher.map PE.toV)) + cv (.sl 0 (y.order.map PE.sv)) + cv (.sl 0 (y.items.map PE.toV))) (.sl 0 (y.names.map sV))).2))))) := by simp only [PL.v, thw_agg, thwL_nil, thwL_int, thwL_str, thwL_bool, thwL_sl, thwL_mk, mk_agg, mkL_nil, mkL_int, mkL_str, mkL_bool, mkL_sl, V.cells, List.append_nil, List.nil_append, List.append_assoc]
  have e4 : (thw n (PL.v y)).1 = .agg [(thw (n) (.sl 0 (y.tables.map iV))).1, (thw (n + cv (.sl 0 (y.tables.map iV))) (.sl 0 (y.on.map PE.vS))).1, (thw (n + cv (.sl 0 (y.tables.map iV)) + cv (.sl 0 (y.on.map PE.vS))) (.sl 0 (y.wher.map PE.toV))).1, (thw (n + cv (.sl 0 (y.tables.map iV)) + cv (.sl 0 (y.on.map PE.vS)) + cv (.sl 0 (y.wher.map PE.toV))) (.sl 0 (y.order.map PE.sv))).1, (thw (n + cv (.sl 0 (y.tables.map iV)) + cv (.sl 0 (y.on.map PE.vS)) + cv (.sl 0 (y.wher.map PE.toV)) + cv (.sl 0 (y.order.map PE.sv))) (.sl 0 (y.items.map PE.toV))).1, (thw (n + cv (.sl 0 (y.tables.map iV)) + cv (.sl 0 (y.on.map PE.vS)) + cv (.sl 0 (y.wher.map PE.toV)) + cv (.sl 0 (y.order.map PE.sv)) + cv (.sl 0 (y.items.map PE.toV))) (.sl 0 (y.names.map sV))).1, .bool y.distinct, .int .i64 y.limit] := by simp only [PL.v, thw_agg, thwL_nil, thwL_int, thwL_str, thwL_bool, thwL_sl, thwL_mk, mk_agg, mkL_nil, mkL_int, mkL_str, mkL_bool, mkL_sl, V.cells, List.append_nil, List.nil_append]
  have e5 : cv (PL.v y) = cv (.sl 0 (y.tables.map iV)) + cv (.sl 0 (y.on.map PE.vS)) + cv (.sl 0 (y.wher.map PE.toV)) + cv (.sl 0 (y.order.map PE.sv)) + cv (.sl 0 (y.items.map PE.toV)) + cv (.sl 0 (y.names.map sV)) := by simp only [PL.v, cv, cvL]; omega
  have hpl := PL.plain y
  rw [e1] at hb
  rw [e5] at hn
  rw [e3] at hv
  have hv0 := HasV.left hv
  have hw0 := HasV.right hv
  rw [thw_cv] at hw0
  have hv1 := HasV.left hw0
  have hw1 := HasV.right hw0
  rw [thw_cv] at hw1
  have hv2 := HasV.left hw1
  have hw2 := HasV.right hw1
  rw [thw_cv] at hw2
  have hv3 := HasV.left hw2
  have hw3 := HasV.right hw2
  rw [thw_cv] at hw3
  have hv4 := HasV.left hw3
  have hw4 := HasV.right hw3
  rw [thw_cv] at hw4
  have hv5 := hw4
  have hn0 := nk_le (.sl 0 (y.tables.map iV)) (k)
  have hn1 := nk_le (.sl 0 (y.on.map PE.vS)) (nk (.sl 0 (y.tables.map iV)) (k))
  have hn2 := nk_le (.sl 0 (y.wher.map PE.toV)) (nk (.sl 0 (y.on.map PE.vS)) (nk (.sl 0 (y.tables.map iV)) (k)))
  have hn3 := nk_le (.sl 0 (y.order.map PE.sv)) (nk (.sl 0 (y.wher.map PE.toV)) (nk (.sl 0 (y.on.map PE.vS)) (nk (.sl 0 (y.tables.map iV)) (k))))
  have hn4 := nk_le (.sl 0 (y.items.map PE.toV)) (nk (.sl 0 (y.order.map PE.sv)) (nk (.sl 0 (y.wher.map PE.toV)) (nk (.sl 0 (y.on.map PE.vS)) (nk (.sl 0 (y.tables.map iV)) (k)))))
  have hn5 := nk_le (.sl 0 (y.names.map sV)) (nk (.sl 0 (y.items.map PE.toV)) (nk (.sl 0 (y.order.map PE.sv)) (nk (.sl 0 (y.wher.map PE.toV)) (nk (.sl 0 (y.on.map PE.vS)) (nk (.sl 0 (y.tables.map iV)) (k))))))
  have hfin : ∀ t' : S, t' = t.blk n ((thw (n) (mkV (.sl 0 (y.tables.map iV)) (k))).2 ++ ((thw (n + cv (.sl 0 (y.tables.map iV))) (mkV (.sl 0 (y.on.map PE.vS)) (nk (.sl 0 (y.tables.map iV)) (k)))).2 ++ ((thw (n + cv (.sl 0 (y.tables.map iV)) + cv (.sl 0 (y.on.map PE.vS))) (mkV (.sl 0 (y.wher.map PE.toV)) (nk (.sl 0 (y.on.map PE.vS)) (nk (.sl 0 (y.tables.map iV)) (k))))).2 ++ ((thw (n + cv (.sl 0 (y.tables.map iV)) + cv (.sl 0 (y.on.map PE.vS)) + cv (.sl 0 (y.wher.map PE.toV))) (mkV (.sl 0 (y.order.map PE.sv)) (nk (.sl 0 (y.wher.map PE.toV)) (nk (.sl 0 (y.on.map PE.vS)) (nk (.sl 0 (y.tables.map iV)) (k)))))).2 ++ ((thw (n + cv (.sl 0 (y.tables.map iV)) + cv (.sl 0 (y.on.map PE.vS)) + cv (.sl 0 (y.wher.map PE.toV)) + cv (.sl 0 (y.order.map PE.sv))) (mkV (.sl 0 (y.items.map PE.toV)) (nk (.sl 0 (y.order.map PE.sv)) (nk (.sl 0 (y.wher.map PE.toV)) (nk (.sl 0 (y.on.map PE.vS)) (nk (.sl 0 (y.tables.map iV)) (k))))))).2 ++ ((thw (n + cv (.sl 0 (y.tables.map iV)) + cv (.sl 0 (y.on.map PE.vS)) + cv (.sl 0 (y.wher.map PE.toV)) + cv (.sl 0 (y.order.map PE.sv)) + cv (.sl 0 (y.items.map PE.toV))) (mkV (.sl 0 (y.names.map sV)) (nk (.sl 0 (y.items.map PE.toV)) (nk (.sl 0 (y.order.map PE.sv)) (nk (.sl 0 (y.wher.map PE.toV)) (nk (.sl 0 (y.on.map PE.vS)) (nk (.sl 0 (y.tables.map iV)) (k)))))))).2)))))) → t' = t.blk n (thw n (mkT (PL.v y) k)).2 := fun t' h => by rw [e2]; exact h
  rw [e1, e4]
  refine VCalls.dropB rfl (mkT_plain _ _ hpl) (by rw [mkT_cv, e5]; exact hn) ?_
  rw [e2]
  refine LCalls.body Try.func36 rfl (by kernel_rfl) ?_
  repeat' first
    | (refine kCallN 108 ?_ ; refine LOps.markX (m := n) rfl rfl ok108 (markIntS_c y.tables) rfl ?_ ?_ ?_ ?_ ?_ ; (focus (exact hv0)) ; (focus (show _ ≤ t.next ; omega)) ; (focus omega) ; (focus omega))
    | (refine kCallN 109 ?_ ; refine LOps.markX (m := n + cv (.sl 0 (y.tables.map iV))) rfl rfl ok109 (markPExprSS_c (y.on)) rfl ?_ ?_ ?_ ?_ ?_ ; (focus ((repeat' first | exact hv1 | (refine HasV.blk_after ?_ (by simp only [thw_cv, mk_cv] ; try omega))))) ; (focus (show _ ≤ t.next ; omega)) ; (focus omega) ; (focus omega))
    | (refine kCallN 48 ?_ ; refine LOps.markX (m := n + cv (.sl 0 (y.tables.map iV)) + cv (.sl 0 (y.on.map PE.vS))) rfl rfl ok48 (markPExprS_c (y.wher)) rfl ?_ ?_ ?_ ?_ ?_ ; (focus ((repeat' first | exact hv2 | (refine HasV.blk_after ?_ (by simp only [thw_cv, mk_cv] ; try omega))))) ; (focus (show _ ≤ t.next ; omega)) ; (focus omega) ; (focus omega))
    | (refine kCallN 110 ?_ ; refine LOps.markX (m := n + cv (.sl 0 (y.tables.map iV)) + cv (.sl 0 (y.on.map PE.vS)) + cv (.sl 0 (y.wher.map PE.toV))) rfl rfl ok110 (markPSortS_c (y.order)) rfl ?_ ?_ ?_ ?_ ?_ ; (focus ((repeat' first | exact hv3 | (refine HasV.blk_after ?_ (by simp only [thw_cv, mk_cv] ; try omega))))) ; (focus (show _ ≤ t.next ; omega)) ; (focus omega) ; (focus omega))
    | (refine kCallN 48 ?_ ; refine LOps.markX (m := n + cv (.sl 0 (y.tables.map iV)) + cv (.sl 0 (y.on.map PE.vS)) + cv (.sl 0 (y.wher.map PE.toV)) + cv (.sl 0 (y.order.map PE.sv))) rfl rfl ok48 (markPExprS_c (y.items)) rfl ?_ ?_ ?_ ?_ ?_ ; (focus ((repeat' first | exact hv4 | (refine HasV.blk_after ?_ (by simp only [thw_cv, mk_cv] ; try omega))))) ; (focus (show _ ≤ t.next ; omega)) ; (focus omega) ; (focus omega))
    | (refine kCallN 111 ?_ ; refine LOps.markX (m := n + cv (.sl 0 (y.tables.map iV)) + cv (.sl 0 (y.on.map PE.vS)) + cv (.sl 0 (y.wher.map PE.toV)) + cv (.sl 0 (y.order.map PE.sv)) + cv (.sl 0 (y.items.map PE.toV))) rfl rfl ok111 (markStringS_c y.names) rfl ?_ ?_ ?_ ?_ ?_ ; (focus ((repeat' first | exact hv5 | (refine HasV.blk_after ?_ (by simp only [thw_cv, mk_cv] ; try omega))))) ; (focus (show _ ≤ t.next ; omega)) ; (focus omega) ; (focus omega))
    | (refine kOps ?_; first | (refine LOps.nil ?_) | (refine LOps.ev tT_ok rfl ?_) | (refine kBox ?_; refine LOps.box rfl rfl rfl rfl ?_) | (refine kLoad ?_; first | (refine LOps.ans (AnsL.loadP tT_ok rfl rfl rfl rfl) ?_)))
    | (refine kWL ?_; first | (refine WL.seq ?_) | (refine WL.region (by kernel_rfl) ?_) | (refine WL.ret ?_))
    | (refine lthen_n ?_)
    | (refine LPost.r1 (r := .tmp 4) (.inl rfl) (Res1.tmp rfl) ?_)
  rw [blk_blk]; rotate_left; focus ((try simp only [List.length_append, thw_cv, mk_cv]) <;> try omega)
  rw [blk_blk]; rotate_left; focus ((try simp only [List.length_append, thw_cv, mk_cv]) <;> try omega)
  rw [blk_blk]; rotate_left; focus ((try simp only [List.length_append, thw_cv, mk_cv]) <;> try omega)
  rw [blk_blk]; rotate_left; focus ((try simp only [List.length_append, thw_cv, mk_cv]) <;> try omega)
  rw [blk_blk]; rotate_left; focus ((try simp only [List.length_append, thw_cv, mk_cv]) <;> try omega)
  try simp only [List.append_assoc]
  first | exact ⟨rfl, _, rfl⟩ | exact ⟨trivial, _, rfl⟩

end Go.Proofs.Ytehmlklfbllgcaa
