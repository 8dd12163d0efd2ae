/-
  What marks queries' trees, queries and sources. Printed by a program of our own; no condition.
-/
import Derived.Test.YtoagpmhdgllchaaDEE
import Derived.Test.YtoagpmhdgllchaaDRecM
namespace Go.Proofs.Ytoagpmhdgllchaa
open Go
set_option linter.unusedSimpArgs false
set_option linter.unusedVariables false

theorem ExprS_mlen (l : List EE) : ∀ x ∈ l.map EE.toV, x.cells.length = 10 := by
  intro v hv
  obtain ⟨x, _, rfl⟩ := List.mem_map.1 hv
  rw [EE.toV_eq]; rfl
theorem ExprS_th (m : Nat) (y : EE) : (thw m (EE.v y)).2 = (thw (m) (.sl 0 (y.kids.map EE.toV))).2 ++ ((thw (m + cv (.sl 0 (y.kids.map EE.toV))) (.sl 0 (y.sub.map EE.queryV))).2) := by simp only [EE.v, thw_agg, thwL_nil, thwL_int, thwL_str, thwL_bool, thwL_sl, thwL_mk, mk_agg, mkL_nil, mkL_int, mkL_str, mkL_bool, mkL_sl, V.cells, List.append_nil, List.nil_append, List.append_assoc]
theorem ExprS_tc (m : Nat) (y : EE) : (thw m (EE.v y)).1.cells = [.int .i64 y.kind, .int .i64 y.op, .bool y.nt, .int .i64 y.value.kind, .int .i64 y.value.num, .str y.value.text, .str y.qual, .str y.name, (thw (m) (.sl 0 (y.kids.map EE.toV))).1, (thw (m + cv (.sl 0 (y.kids.map EE.toV))) (.sl 0 (y.sub.map EE.queryV))).1] := by simp only [EE.v, thw_agg, thwL_nil, thwL_int, thwL_str, thwL_bool, thwL_sl, thwL_mk, mk_agg, mkL_nil, mkL_int, mkL_str, mkL_bool, mkL_sl, V.cells, List.append_nil, List.nil_append]
theorem ExprS_th2 (m : Nat) (y : EE) (kk : Int) : (thw m (mkV (EE.v y) kk)).2 = (thw (m) (mkV (.sl 0 (y.kids.map EE.toV)) (kk + 1 + 1 + 1 + 1 + 1 + 1 + 1 + 1))).2 ++ ((thw (m + cv (.sl 0 (y.kids.map EE.toV))) (mkV (.sl 0 (y.sub.map EE.queryV)) (nk (.sl 0 (y.kids.map EE.toV)) (kk + 1 + 1 + 1 + 1 + 1 + 1 + 1 + 1)))).2) := by simp only [EE.v, thw_agg, thwL_nil, thwL_int, thwL_str, thwL_bool, thwL_sl, thwL_mk, mk_agg, mkL_nil, mkL_int, mkL_str, mkL_bool, mkL_sl, V.cells, List.append_nil, List.nil_append, List.append_assoc]
theorem ExprS_tc2 (m : Nat) (y : EE) (kk : Int) : (thw m (mkV (EE.v y) kk)).1.cells = [.int .i64 (kk), .int .i64 (kk + 1), .bool (decide ((kk + 1 + 1).tmod 3 = 0)), .int .i64 (kk + 1 + 1 + 1), .int .i64 (kk + 1 + 1 + 1 + 1), .str (mt (kk + 1 + 1 + 1 + 1 + 1)), .str (mt (kk + 1 + 1 + 1 + 1 + 1 + 1)), .str (mt (kk + 1 + 1 + 1 + 1 + 1 + 1 + 1)), (thw (m) (.sl 0 (y.kids.map EE.toV))).1, (thw (m + cv (.sl 0 (y.kids.map EE.toV))) (.sl 0 (y.sub.map EE.queryV))).1] := by simp only [EE.v, thw_agg, thwL_nil, thwL_int, thwL_str, thwL_bool, thwL_sl, thwL_mk, mk_agg, mkL_nil, mkL_int, mkL_str, mkL_bool, mkL_sl, V.cells, List.append_nil, List.nil_append]
theorem ExprS_mk (y : EE) (kk : Int) : mkV (EE.v y) kk = .agg [.int .i64 (kk), .int .i64 (kk + 1), .bool (decide ((kk + 1 + 1).tmod 3 = 0)), .int .i64 (kk + 1 + 1 + 1), .int .i64 (kk + 1 + 1 + 1 + 1), .str (mt (kk + 1 + 1 + 1 + 1 + 1)), .str (mt (kk + 1 + 1 + 1 + 1 + 1 + 1)), .str (mt (kk + 1 + 1 + 1 + 1 + 1 + 1 + 1)), mkV (.sl 0 (y.kids.map EE.toV)) (kk + 1 + 1 + 1 + 1 + 1 + 1 + 1 + 1), mkV (.sl 0 (y.sub.map EE.queryV)) (nk (.sl 0 (y.kids.map EE.toV)) (kk + 1 + 1 + 1 + 1 + 1 + 1 + 1 + 1))] := by simp only [EE.v, mk_agg, mkL_nil, mkL_int, mkL_str, mkL_bool, mkL_sl, nk] <;> rfl
theorem ExprS_cv (y : EE) : cv (EE.v y) = cv (.sl 0 (y.kids.map EE.toV)) + cv (.sl 0 (y.sub.map EE.queryV)) := by simp only [EE.v, cv, cvL]; omega
theorem ExprS_nk (y : EE) (kk : Int) : nk (EE.v y) kk = nk (.sl 0 (y.sub.map EE.queryV)) (nk (.sl 0 (y.kids.map EE.toV)) (kk + 1 + 1 + 1 + 1 + 1 + 1 + 1 + 1)) := by simp only [EE.v, nk, nkL]
theorem markExprS_r (ys : List EE) (ih : ∀ y ∈ ys, MarkC Try.prog 48 (.sl 0 (y.kids.map EE.toV)) ∧ MarkC Try.prog 67 (.sl 0 (y.sub.map EE.queryV))) : MarkC Try.prog 48 (.sl 0 (ys.map EE.toV)) := by
  intro t n k hv hk0 hk
  by_cases he : ys = []
  · subst he
    refine LCalls.body0 Try.func48 rfl (by kernel_rfl) ?_
    repeat' first
      | (refine kOps ?_; first | (refine LOps.nil ?_) | (refine LOps.ev tT_ok rfl ?_))
      | (refine kWL ?_; first | (refine WL.seq ?_) | (refine WL.region (by kernel_rfl) ?_) | (refine WL.block ?_))
      | (refine lthen_n ?_)
    refine WL.loop0 (fun _ : Unit => 0) (fun _ => [(0, .sl 0 []), (1, .int .i64 k), (5, .int .i64 0)]) (fun _ => t) (fun _ => True) () trivial ⟨rfl, rfl, rfl, trivial⟩ rfl (fun _ _ => ?_)
    repeat' first
      | (refine kOps ?_; first | (refine LOps.nil ?_) | (refine LOps.ev tT_ok rfl ?_) | (refine kLen ?_; first | (refine LOps.ans (AnsL.lenS tT_ok rfl rfl rfl rfl) ?_)))
      | (refine kWL ?_; first | (refine WL.seq ?_) | (refine WL.region (by kernel_rfl) ?_) | (refine WL.exit ?_) | (refine WL.ret ?_) | (refine kCond ?_; first | (refine WL.condF rfl ?_)))
      | (refine lthen_n ?_)
      | (refine lthen_e ?_)
      | (refine lblock_e ?_)
      | (refine lback_e ?_)
      | (refine LPost.r1 (r := .tmp 4) (.inl rfl) (Res1.tmp rfl) ?_)
    exact ⟨rfl, (blk_nil t n).symm⟩
  · have hne := map_ne (f := EE.toV) he
    rw [thw_sl n 0 hne]
    refine VCalls.wf fun hwf => ?_
    have hlen : (ys.map EE.toV).length < 9223372036854775808 := slm_len hwf
    refine LCalls.body0 Try.func48 rfl (by kernel_rfl) ?_
    repeat' first
      | (refine kOps ?_; first | (refine LOps.nil ?_) | (refine LOps.ev tT_ok rfl ?_))
      | (refine kWL ?_; first | (refine WL.seq ?_) | (refine WL.region (by kernel_rfl) ?_) | (refine WL.block ?_))
      | (refine lthen_n ?_)
    refine WL.loopMark t n (ys.map EE.toV) k 10 (fun kk i => [(0, .slm .un (n + cvL (ys.map EE.toV)) 0 (ys.map EE.toV).length), (1, .int .i64 kk), (5, .int .i64 (i : Int))]) hne (ExprS_mlen ys) hv hk0 hk ⟨rfl, rfl, rfl, trivial⟩ (fun i hi kk m A Z CA CZ hq hm hl h0 hb => ?_) ?_
    · have hlt : i < ys.length := by simpa using hi
      have hd : (ys.map EE.toV)[i] = EE.v ys[i] := by rw [List.getElem_map, EE.toV_eq]
      rw [hd] at hl hb ⊢
      have hI := ih ys[i] (List.getElem_mem hlt)
      generalize ys[i] = y at hl hb hI ⊢
      rw [ExprS_cv] at hl
      rw [ExprS_nk] at hb ⊢
      have hn0 := nk_le (.sl 0 (y.kids.map EE.toV)) (kk + 1 + 1 + 1 + 1 + 1 + 1 + 1 + 1)
      have hn1 := nk_le (.sl 0 (y.sub.map EE.queryV)) (nk (.sl 0 (y.kids.map EE.toV)) (kk + 1 + 1 + 1 + 1 + 1 + 1 + 1 + 1))
      rw [ExprS_th, ExprS_tc, ExprS_th2, ExprS_tc2]
      repeat' first
        | (refine kStore ?_ ; first | (refine LOps.storeE tT_ok 0 hq rfl rfl rfl rfl rfl rfl rfl rfl ?_) | (refine LOps.storeE tT_ok 1 hq rfl rfl rfl rfl rfl rfl rfl rfl ?_) | (refine LOps.storeE tT_ok 2 hq rfl rfl rfl rfl rfl rfl rfl rfl ?_) | (refine LOps.storeE tT_ok 3 hq rfl rfl rfl rfl rfl rfl rfl rfl ?_) | (refine LOps.storeE tT_ok 4 hq rfl rfl rfl rfl rfl rfl rfl rfl ?_) | (refine LOps.storeE tT_ok 5 hq rfl rfl rfl rfl rfl rfl rfl rfl ?_) | (refine LOps.storeE tT_ok 6 hq rfl rfl rfl rfl rfl rfl rfl rfl ?_) | (refine LOps.storeE tT_ok 7 hq rfl rfl rfl rfl rfl rfl rfl rfl ?_))
        | (refine kCallN 48 ?_ ; refine LOps.markP (m := m) (A := A) (Z := (thw (m + cv (.sl 0 (y.kids.map EE.toV))) (.sl 0 (y.sub.map EE.queryV))).2 ++ (Z)) rfl rfl ok48 (hI.1) rfl ?_ ?_ ?_ ?_ ?_ ?_ ; (focus (first | rfl | (simp only [List.append_assoc]))) ; (focus ((try simp only [List.length_append, thw_cv, mk_cv]) ; omega)) ; (focus omega) ; (focus omega) ; (focus omega))
        | (refine kCallN 67 ?_ ; refine LOps.markP (m := m + cv (.sl 0 (y.kids.map EE.toV))) (A := (A ++ (thw (m) (mkV (.sl 0 (y.kids.map EE.toV)) (kk + 1 + 1 + 1 + 1 + 1 + 1 + 1 + 1))).2)) (Z := Z) rfl rfl ok67 (hI.2) rfl ?_ ?_ ?_ ?_ ?_ ?_ ; (focus (first | rfl | (simp only [List.append_assoc]))) ; (focus ((try simp only [List.length_append, thw_cv, mk_cv]) ; omega)) ; (focus omega) ; (focus omega) ; (focus omega))
        | (refine kOps ?_; first | (refine LOps.nil ?_) | (refine LOps.ev tT_ok rfl ?_) | (refine kLoad ?_; first | (refine LOps.ans (AnsL.loadE tT_ok 8 hq rfl rfl rfl rfl) ?_) | (refine LOps.ans (AnsL.loadE tT_ok 9 hq rfl rfl rfl rfl) ?_)) | (refine kBin ?_; first | (refine LOps.ans (AnsL.add rfl rfl ?_) ?_; (focus (constructor <;> omega)))) | (refine kIdx ?_; first | (refine LOps.ans (AnsL.idxM tT_ok rfl rfl rfl rfl rfl ?_) ?_; (focus (omega)))) | (refine kCallN 47 ?_; first | (refine LOps.ans (AnsL.callP rfl rfl rfl (ok47) (markText_v _ ?_ _)) ?_; (focus (omega)))))
        | (refine kWL ?_; first | (refine WL.seq ?_) | (refine WL.region (by kernel_rfl) ?_) | (refine WL.block ?_) | (refine WL.skip ?_) | (refine kCond ?_; first | (refine WL.condT' rfl ?_ ?_; (focus (first | (simp only [decide_eq_true_eq, decide_eq_false_iff_not, Bool.not_eq_true', Bool.not_eq_false', Int.ofNat_lt, Int.ofNat_le, Int.ofNat_inj, not_true_eq_false, not_false_eq_true]; omega))))))
        | (refine lthen_n ?_)
        | (refine lblock_n ?_)
      exact ⟨rfl, ⟨rfl, rfl, rfl, trivial⟩, by simp only [List.append_assoc]⟩
    · skip
      repeat' first
        | (refine lfin_e ?_)
        | (refine kOps ?_; first | (refine LOps.nil ?_) | (refine LOps.ev tT_ok rfl ?_))
        | (refine kWL ?_; first | (refine WL.seq ?_) | (refine WL.region (by kernel_rfl) ?_) | (refine WL.exit ?_) | (refine WL.ret ?_) | (refine kCond ?_; first | (refine WL.condF' rfl ?_ ?_; (focus (first | (simp only [decide_eq_true_eq, decide_eq_false_iff_not, Bool.not_eq_true', Bool.not_eq_false', Int.ofNat_lt, Int.ofNat_le, Int.ofNat_inj, not_true_eq_false, not_false_eq_true]; omega))))))
        | (refine lthen_n ?_)
        | (refine lthen_e ?_)
        | (refine lblock_e ?_)
        | (refine LPost.r1 (r := .tmp 4) (.inl rfl) (Res1.tmp rfl) ?_)
      exact ⟨rfl, rfl⟩
theorem SortKeyS_mlen (l : List (EE × Bool)) : ∀ x ∈ l.map EE.sv, x.cells.length = 11 := by
  intro v hv
  obtain ⟨x, _, rfl⟩ := List.mem_map.1 hv
  rfl
theorem SortKeyS_th (m : Nat) (y : (EE × Bool)) : (thw m (EE.sv y)).2 = (thw (m) (.sl 0 (y.1.kids.map EE.toV))).2 ++ ((thw (m + cv (.sl 0 (y.1.kids.map EE.toV))) (.sl 0 (y.1.sub.map EE.queryV))).2) := by simp only [EE.sv, thw_agg, thwL_nil, thwL_int, thwL_str, thwL_bool, thwL_sl, thwL_mk, mk_agg, mkL_nil, mkL_int, mkL_str, mkL_bool, mkL_sl, V.cells, List.append_nil, List.nil_append, List.append_assoc]
theorem SortKeyS_tc (m : Nat) (y : (EE × Bool)) : (thw m (EE.sv y)).1.cells = [.int .i64 y.1.kind, .int .i64 y.1.op, .bool y.1.nt, .int .i64 y.1.value.kind, .int .i64 y.1.value.num, .str y.1.value.text, .str y.1.qual, .str y.1.name, (thw (m) (.sl 0 (y.1.kids.map EE.toV))).1, (thw (m + cv (.sl 0 (y.1.kids.map EE.toV))) (.sl 0 (y.1.sub.map EE.queryV))).1, .bool y.2] := by simp only [EE.sv, thw_agg, thwL_nil, thwL_int, thwL_str, thwL_bool, thwL_sl, thwL_mk, mk_agg, mkL_nil, mkL_int, mkL_str, mkL_bool, mkL_sl, V.cells, List.append_nil, List.nil_append]
theorem SortKeyS_th2 (m : Nat) (y : (EE × Bool)) (kk : Int) : (thw m (mkV (EE.sv y) kk)).2 = (thw (m) (mkV (.sl 0 (y.1.kids.map EE.toV)) (kk + 1 + 1 + 1 + 1 + 1 + 1 + 1 + 1))).2 ++ ((thw (m + cv (.sl 0 (y.1.kids.map EE.toV))) (mkV (.sl 0 (y.1.sub.map EE.queryV)) (nk (.sl 0 (y.1.kids.map EE.toV)) (kk + 1 + 1 + 1 + 1 + 1 + 1 + 1 + 1)))).2) := by simp only [EE.sv, thw_agg, thwL_nil, thwL_int, thwL_str, thwL_bool, thwL_sl, thwL_mk, mk_agg, mkL_nil, mkL_int, mkL_str, mkL_bool, mkL_sl, V.cells, List.append_nil, List.nil_append, List.append_assoc]
theorem SortKeyS_tc2 (m : Nat) (y : (EE × Bool)) (kk : Int) : (thw m (mkV (EE.sv y) kk)).1.cells = [.int .i64 (kk), .int .i64 (kk + 1), .bool (decide ((kk + 1 + 1).tmod 3 = 0)), .int .i64 (kk + 1 + 1 + 1), .int .i64 (kk + 1 + 1 + 1 + 1), .str (mt (kk + 1 + 1 + 1 + 1 + 1)), .str (mt (kk + 1 + 1 + 1 + 1 + 1 + 1)), .str (mt (kk + 1 + 1 + 1 + 1 + 1 + 1 + 1)), (thw (m) (.sl 0 (y.1.kids.map EE.toV))).1, (thw (m + cv (.sl 0 (y.1.kids.map EE.toV))) (.sl 0 (y.1.sub.map EE.queryV))).1, .bool (decide ((nk (.sl 0 (y.1.sub.map EE.queryV)) (nk (.sl 0 (y.1.kids.map EE.toV)) (kk + 1 + 1 + 1 + 1 + 1 + 1 + 1 + 1))).tmod 3 = 0))] := by simp only [EE.sv, thw_agg, thwL_nil, thwL_int, thwL_str, thwL_bool, thwL_sl, thwL_mk, mk_agg, mkL_nil, mkL_int, mkL_str, mkL_bool, mkL_sl, V.cells, List.append_nil, List.nil_append]
theorem SortKeyS_mk (y : (EE × Bool)) (kk : Int) : mkV (EE.sv y) kk = .agg [.int .i64 (kk), .int .i64 (kk + 1), .bool (decide ((kk + 1 + 1).tmod 3 = 0)), .int .i64 (kk + 1 + 1 + 1), .int .i64 (kk + 1 + 1 + 1 + 1), .str (mt (kk + 1 + 1 + 1 + 1 + 1)), .str (mt (kk + 1 + 1 + 1 + 1 + 1 + 1)), .str (mt (kk + 1 + 1 + 1 + 1 + 1 + 1 + 1)), mkV (.sl 0 (y.1.kids.map EE.toV)) (kk + 1 + 1 + 1 + 1 + 1 + 1 + 1 + 1), mkV (.sl 0 (y.1.sub.map EE.queryV)) (nk (.sl 0 (y.1.kids.map EE.toV)) (kk + 1 + 1 + 1 + 1 + 1 + 1 + 1 + 1)), .bool (decide ((nk (.sl 0 (y.1.sub.map EE.queryV)) (nk (.sl 0 (y.1.kids.map EE.toV)) (kk + 1 + 1 + 1 + 1 + 1 + 1 + 1 + 1))).tmod 3 = 0))] := by simp only [EE.sv, mk_agg, mkL_nil, mkL_int, mkL_str, mkL_bool, mkL_sl, nk] <;> rfl
theorem SortKeyS_cv (y : (EE × Bool)) : cv (EE.sv y) = cv (.sl 0 (y.1.kids.map EE.toV)) + cv (.sl 0 (y.1.sub.map EE.queryV)) := by simp only [EE.sv, cv, cvL]; omega
theorem SortKeyS_nk (y : (EE × Bool)) (kk : Int) : nk (EE.sv y) kk = nk (.sl 0 (y.1.sub.map EE.queryV)) (nk (.sl 0 (y.1.kids.map EE.toV)) (kk + 1 + 1 + 1 + 1 + 1 + 1 + 1 + 1)) + 1 := by simp only [EE.sv, nk, nkL]
theorem markSortKeyS_r (ys : List (EE × Bool)) (ih : ∀ y ∈ ys, MarkC Try.prog 48 (.sl 0 (y.1.kids.map EE.toV)) ∧ MarkC Try.prog 67 (.sl 0 (y.1.sub.map EE.queryV))) : MarkC Try.prog 83 (.sl 0 (ys.map EE.sv)) := by
  intro t n k hv hk0 hk
  by_cases he : ys = []
  · subst he
    refine LCalls.body0 Try.func83 rfl (by kernel_rfl) ?_
    repeat' first
      | (refine kOps ?_; first | (refine LOps.nil ?_) | (refine LOps.ev tT_ok rfl ?_))
      | (refine kWL ?_; first | (refine WL.seq ?_) | (refine WL.region (by kernel_rfl) ?_) | (refine WL.block ?_))
      | (refine lthen_n ?_)
    refine WL.loop0 (fun _ : Unit => 0) (fun _ => [(0, .sl 0 []), (1, .int .i64 k), (5, .int .i64 0)]) (fun _ => t) (fun _ => True) () trivial ⟨rfl, rfl, rfl, trivial⟩ rfl (fun _ _ => ?_)
    repeat' first
      | (refine kOps ?_; first | (refine LOps.nil ?_) | (refine LOps.ev tT_ok rfl ?_) | (refine kLen ?_; first | (refine LOps.ans (AnsL.lenS tT_ok rfl rfl rfl rfl) ?_)))
      | (refine kWL ?_; first | (refine WL.seq ?_) | (refine WL.region (by kernel_rfl) ?_) | (refine WL.exit ?_) | (refine WL.ret ?_) | (refine kCond ?_; first | (refine WL.condF rfl ?_)))
      | (refine lthen_n ?_)
      | (refine lthen_e ?_)
      | (refine lblock_e ?_)
      | (refine lback_e ?_)
      | (refine LPost.r1 (r := .tmp 4) (.inl rfl) (Res1.tmp rfl) ?_)
    exact ⟨rfl, (blk_nil t n).symm⟩
  · have hne := map_ne (f := EE.sv) he
    rw [thw_sl n 0 hne]
    refine VCalls.wf fun hwf => ?_
    have hlen : (ys.map EE.sv).length < 9223372036854775808 := slm_len hwf
    refine LCalls.body0 Try.func83 rfl (by kernel_rfl) ?_
    repeat' first
      | (refine kOps ?_; first | (refine LOps.nil ?_) | (refine LOps.ev tT_ok rfl ?_))
      | (refine kWL ?_; first | (refine WL.seq ?_) | (refine WL.region (by kernel_rfl) ?_) | (refine WL.block ?_))
      | (refine lthen_n ?_)
    refine WL.loopMark t n (ys.map EE.sv) k 11 (fun kk i => [(0, .slm .un (n + cvL (ys.map EE.sv)) 0 (ys.map EE.sv).length), (1, .int .i64 kk), (5, .int .i64 (i : Int))]) hne (SortKeyS_mlen ys) hv hk0 hk ⟨rfl, rfl, rfl, trivial⟩ (fun i hi kk m A Z CA CZ hq hm hl h0 hb => ?_) ?_
    · have hlt : i < ys.length := by simpa using hi
      have hd : (ys.map EE.sv)[i] = EE.sv ys[i] := List.getElem_map ..
      rw [hd] at hl hb ⊢
      have hI := ih ys[i] (List.getElem_mem hlt)
      generalize ys[i] = y at hl hb hI ⊢
      rw [SortKeyS_cv] at hl
      rw [SortKeyS_nk] at hb ⊢
      have hn0 := nk_le (.sl 0 (y.1.kids.map EE.toV)) (kk + 1 + 1 + 1 + 1 + 1 + 1 + 1 + 1)
      have hn1 := nk_le (.sl 0 (y.1.sub.map EE.queryV)) (nk (.sl 0 (y.1.kids.map EE.toV)) (kk + 1 + 1 + 1 + 1 + 1 + 1 + 1 + 1))
      rw [SortKeyS_th, SortKeyS_tc, SortKeyS_th2, SortKeyS_tc2]
      repeat' first
        | (refine kStore ?_ ; first | (refine LOps.storeE tT_ok 0 hq rfl rfl rfl rfl rfl rfl rfl rfl ?_) | (refine LOps.storeE tT_ok 1 hq rfl rfl rfl rfl rfl rfl rfl rfl ?_) | (refine LOps.storeE tT_ok 2 hq rfl rfl rfl rfl rfl rfl rfl rfl ?_) | (refine LOps.storeE tT_ok 3 hq rfl rfl rfl rfl rfl rfl rfl rfl ?_) | (refine LOps.storeE tT_ok 4 hq rfl rfl rfl rfl rfl rfl rfl rfl ?_) | (refine LOps.storeE tT_ok 5 hq rfl rfl rfl rfl rfl rfl rfl rfl ?_) | (refine LOps.storeE tT_ok 6 hq rfl rfl rfl rfl rfl rfl rfl rfl ?_) | (refine LOps.storeE tT_ok 7 hq rfl rfl rfl rfl rfl rfl rfl rfl ?_) | (refine LOps.storeE tT_ok 10 hq rfl rfl rfl rfl rfl rfl rfl rfl ?_))
        | (refine kCallN 48 ?_ ; refine LOps.markP (m := m) (A := A) (Z := (thw (m + cv (.sl 0 (y.1.kids.map EE.toV))) (.sl 0 (y.1.sub.map EE.queryV))).2 ++ (Z)) rfl rfl ok48 (hI.1) rfl ?_ ?_ ?_ ?_ ?_ ?_ ; (focus (first | rfl | (simp only [List.append_assoc]))) ; (focus ((try simp only [List.length_append, thw_cv, mk_cv]) ; omega)) ; (focus omega) ; (focus omega) ; (focus omega))
        | (refine kCallN 67 ?_ ; refine LOps.markP (m := m + cv (.sl 0 (y.1.kids.map EE.toV))) (A := (A ++ (thw (m) (mkV (.sl 0 (y.1.kids.map EE.toV)) (kk + 1 + 1 + 1 + 1 + 1 + 1 + 1 + 1))).2)) (Z := Z) rfl rfl ok67 (hI.2) rfl ?_ ?_ ?_ ?_ ?_ ?_ ; (focus (first | rfl | (simp only [List.append_assoc]))) ; (focus ((try simp only [List.length_append, thw_cv, mk_cv]) ; omega)) ; (focus omega) ; (focus omega) ; (focus omega))
        | (refine kOps ?_; first | (refine LOps.nil ?_) | (refine LOps.ev tT_ok rfl ?_) | (refine kLoad ?_; first | (refine LOps.ans (AnsL.loadE tT_ok 8 hq rfl rfl rfl rfl) ?_) | (refine LOps.ans (AnsL.loadE tT_ok 9 hq rfl rfl rfl rfl) ?_)) | (refine kBin ?_; first | (refine LOps.ans (AnsL.add rfl rfl ?_) ?_; (focus (constructor <;> omega)))) | (refine kIdx ?_; first | (refine LOps.ans (AnsL.idxM tT_ok rfl rfl rfl rfl rfl ?_) ?_; (focus (omega)))) | (refine kCallN 47 ?_; first | (refine LOps.ans (AnsL.callP rfl rfl rfl (ok47) (markText_v _ ?_ _)) ?_; (focus (omega)))))
        | (refine kWL ?_; first | (refine WL.seq ?_) | (refine WL.region (by kernel_rfl) ?_) | (refine WL.block ?_) | (refine WL.skip ?_) | (refine kCond ?_; first | (refine WL.condT' rfl ?_ ?_; (focus (first | (simp only [decide_eq_true_eq, decide_eq_false_iff_not, Bool.not_eq_true', Bool.not_eq_false', Int.ofNat_lt, Int.ofNat_le, Int.ofNat_inj, not_true_eq_false, not_false_eq_true]; omega))))))
        | (refine lthen_n ?_)
        | (refine lblock_n ?_)
      exact ⟨rfl, ⟨rfl, rfl, rfl, trivial⟩, by simp only [List.append_assoc]⟩
    · skip
      repeat' first
        | (refine lfin_e ?_)
        | (refine kOps ?_; first | (refine LOps.nil ?_) | (refine LOps.ev tT_ok rfl ?_))
        | (refine kWL ?_; first | (refine WL.seq ?_) | (refine WL.region (by kernel_rfl) ?_) | (refine WL.exit ?_) | (refine WL.ret ?_) | (refine kCond ?_; first | (refine WL.condF' rfl ?_ ?_; (focus (first | (simp only [decide_eq_true_eq, decide_eq_false_iff_not, Bool.not_eq_true', Bool.not_eq_false', Int.ofNat_lt, Int.ofNat_le, Int.ofNat_inj, not_true_eq_false, not_false_eq_true]; omega))))))
        | (refine lthen_n ?_)
        | (refine lthen_e ?_)
        | (refine lblock_e ?_)
        | (refine LPost.r1 (r := .tmp 4) (.inl rfl) (Res1.tmp rfl) ?_)
      exact ⟨rfl, rfl⟩
theorem ItemS_mlen (l : List EItem) : ∀ x ∈ l.map EItem.v, x.cells.length = 13 := by
  intro v hv
  obtain ⟨x, _, rfl⟩ := List.mem_map.1 hv
  rfl
theorem ItemS_th (m : Nat) (y : EItem) : (thw m (EItem.v y)).2 = (thw (m) (.sl 0 (y.e.kids.map EE.toV))).2 ++ ((thw (m + cv (.sl 0 (y.e.kids.map EE.toV))) (.sl 0 (y.e.sub.map EE.queryV))).2) := by simp only [EItem.v, thw_agg, thwL_nil, thwL_int, thwL_str, thwL_bool, thwL_sl, thwL_mk, mk_agg, mkL_nil, mkL_int, mkL_str, mkL_bool, mkL_sl, V.cells, List.append_nil, List.nil_append, List.append_assoc]
theorem ItemS_tc (m : Nat) (y : EItem) : (thw m (EItem.v y)).1.cells = [.bool y.star, .str y.qual, .int .i64 y.e.kind, .int .i64 y.e.op, .bool y.e.nt, .int .i64 y.e.value.kind, .int .i64 y.e.value.num, .str y.e.value.text, .str y.e.qual, .str y.e.name, (thw (m) (.sl 0 (y.e.kids.map EE.toV))).1, (thw (m + cv (.sl 0 (y.e.kids.map EE.toV))) (.sl 0 (y.e.sub.map EE.queryV))).1, .str y.als] := by simp only [EItem.v, thw_agg, thwL_nil, thwL_int, thwL_str, thwL_bool, thwL_sl, thwL_mk, mk_agg, mkL_nil, mkL_int, mkL_str, mkL_bool, mkL_sl, V.cells, List.append_nil, List.nil_append]
theorem ItemS_th2 (m : Nat) (y : EItem) (kk : Int) : (thw m (mkV (EItem.v y) kk)).2 = (thw (m) (mkV (.sl 0 (y.e.kids.map EE.toV)) (kk + 1 + 1 + 1 + 1 + 1 + 1 + 1 + 1 + 1 + 1))).2 ++ ((thw (m + cv (.sl 0 (y.e.kids.map EE.toV))) (mkV (.sl 0 (y.e.sub.map EE.queryV)) (nk (.sl 0 (y.e.kids.map EE.toV)) (kk + 1 + 1 + 1 + 1 + 1 + 1 + 1 + 1 + 1 + 1)))).2) := by simp only [EItem.v, thw_agg, thwL_nil, thwL_int, thwL_str, thwL_bool, thwL_sl, thwL_mk, mk_agg, mkL_nil, mkL_int, mkL_str, mkL_bool, mkL_sl, V.cells, List.append_nil, List.nil_append, List.append_assoc]
theorem ItemS_tc2 (m : Nat) (y : EItem) (kk : Int) : (thw m (mkV (EItem.v y) kk)).1.cells = [.bool (decide ((kk).tmod 3 = 0)), .str (mt (kk + 1)), .int .i64 (kk + 1 + 1), .int .i64 (kk + 1 + 1 + 1), .bool (decide ((kk + 1 + 1 + 1 + 1).tmod 3 = 0)), .int .i64 (kk + 1 + 1 + 1 + 1 + 1), .int .i64 (kk + 1 + 1 + 1 + 1 + 1 + 1), .str (mt (kk + 1 + 1 + 1 + 1 + 1 + 1 + 1)), .str (mt (kk + 1 + 1 + 1 + 1 + 1 + 1 + 1 + 1)), .str (mt (kk + 1 + 1 + 1 + 1 + 1 + 1 + 1 + 1 + 1)), (thw (m) (.sl 0 (y.e.kids.map EE.toV))).1, (thw (m + cv (.sl 0 (y.e.kids.map EE.toV))) (.sl 0 (y.e.sub.map EE.queryV))).1, .str (mt (nk (.sl 0 (y.e.sub.map EE.queryV)) (nk (.sl 0 (y.e.kids.map EE.toV)) (kk + 1 + 1 + 1 + 1 + 1 + 1 + 1 + 1 + 1 + 1))))] := by simp only [EItem.v, thw_agg, thwL_nil, thwL_int, thwL_str, thwL_bool, thwL_sl, thwL_mk, mk_agg, mkL_nil, mkL_int, mkL_str, mkL_bool, mkL_sl, V.cells, List.append_nil, List.nil_append]
theorem ItemS_mk (y : EItem) (kk : Int) : mkV (EItem.v y) kk = .agg [.bool (decide ((kk).tmod 3 = 0)), .str (mt (kk + 1)), .int .i64 (kk + 1 + 1), .int .i64 (kk + 1 + 1 + 1), .bool (decide ((kk + 1 + 1 + 1 + 1).tmod 3 = 0)), .int .i64 (kk + 1 + 1 + 1 + 1 + 1), .int .i64 (kk + 1 + 1 + 1 + 1 + 1 + 1), .str (mt (kk + 1 + 1 + 1 + 1 + 1 + 1 + 1)), .str (mt (kk + 1 + 1 + 1 + 1 + 1 + 1 + 1 + 1)), .str (mt (kk + 1 + 1 + 1 + 1 + 1 + 1 + 1 + 1 + 1)), mkV (.sl 0 (y.e.kids.map EE.toV)) (kk + 1 + 1 + 1 + 1 + 1 + 1 + 1 + 1 + 1 + 1), mkV (.sl 0 (y.e.sub.map EE.queryV)) (nk (.sl 0 (y.e.kids.map EE.toV)) (kk + 1 + 1 + 1 + 1 + 1 + 1 + 1 + 1 + 1 + 1)), .str (mt (nk (.sl 0 (y.e.sub.map EE.queryV)) (nk (.sl 0 (y.e.kids.map EE.toV)) (kk + 1 + 1 + 1 + 1 + 1 + 1 + 1 + 1 + 1 + 1))))] := by simp only [EItem.v, mk_agg, mkL_nil, mkL_int, mkL_str, mkL_bool, mkL_sl, nk] <;> rfl
theorem ItemS_cv (y : EItem) : cv (EItem.v y) = cv (.sl 0 (y.e.kids.map EE.toV)) + cv (.sl 0 (y.e.sub.map EE.queryV)) := by simp only [EItem.v, cv, cvL]; omega
theorem ItemS_nk (y : EItem) (kk : Int) : nk (EItem.v y) kk = nk (.sl 0 (y.e.sub.map EE.queryV)) (nk (.sl 0 (y.e.kids.map EE.toV)) (kk + 1 + 1 + 1 + 1 + 1 + 1 + 1 + 1 + 1 + 1)) + 1 := by simp only [EItem.v, nk, nkL]
theorem markItemS_r (ys : List EItem) (ih : ∀ y ∈ ys, MarkC Try.prog 48 (.sl 0 (y.e.kids.map EE.toV)) ∧ MarkC Try.prog 67 (.sl 0 (y.e.sub.map EE.queryV))) : MarkC Try.prog 82 (.sl 0 (ys.map EItem.v)) := by
  intro t n k hv hk0 hk
  by_cases he : ys = []
  · subst he
    refine LCalls.body0 Try.func82 rfl (by kernel_rfl) ?_
    repeat' first
      | (refine kOps ?_; first | (refine LOps.nil ?_) | (refine LOps.ev tT_ok rfl ?_))
      | (refine kWL ?_; first | (refine WL.seq ?_) | (refine WL.region (by kernel_rfl) ?_) | (refine WL.block ?_))
      | (refine lthen_n ?_)
    refine WL.loop0 (fun _ : Unit => 0) (fun _ => [(0, .sl 0 []), (1, .int .i64 k), (5, .int .i64 0)]) (fun _ => t) (fun _ => True) () trivial ⟨rfl, rfl, rfl, trivial⟩ rfl (fun _ _ => ?_)
    repeat' first
      | (refine kOps ?_; first | (refine LOps.nil ?_) | (refine LOps.ev tT_ok rfl ?_) | (refine kLen ?_; first | (refine LOps.ans (AnsL.lenS tT_ok rfl rfl rfl rfl) ?_)))
      | (refine kWL ?_; first | (refine WL.seq ?_) | (refine WL.region (by kernel_rfl) ?_) | (refine WL.exit ?_) | (refine WL.ret ?_) | (refine kCond ?_; first | (refine WL.condF rfl ?_)))
      | (refine lthen_n ?_)
      | (refine lthen_e ?_)
      | (refine lblock_e ?_)
      | (refine lback_e ?_)
      | (refine LPost.r1 (r := .tmp 4) (.inl rfl) (Res1.tmp rfl) ?_)
    exact ⟨rfl, (blk_nil t n).symm⟩
  · have hne := map_ne (f := EItem.v) he
    rw [thw_sl n 0 hne]
    refine VCalls.wf fun hwf => ?_
    have hlen : (ys.map EItem.v).length < 9223372036854775808 := slm_len hwf
    refine LCalls.body0 Try.func82 rfl (by kernel_rfl) ?_
    repeat' first
      | (refine kOps ?_; first | (refine LOps.nil ?_) | (refine LOps.ev tT_ok rfl ?_))
      | (refine kWL ?_; first | (refine WL.seq ?_) | (refine WL.region (by kernel_rfl) ?_) | (refine WL.block ?_))
      | (refine lthen_n ?_)
    refine WL.loopMark t n (ys.map EItem.v) k 13 (fun kk i => [(0, .slm .un (n + cvL (ys.map EItem.v)) 0 (ys.map EItem.v).length), (1, .int .i64 kk), (5, .int .i64 (i : Int))]) hne (ItemS_mlen ys) hv hk0 hk ⟨rfl, rfl, rfl, trivial⟩ (fun i hi kk m A Z CA CZ hq hm hl h0 hb => ?_) ?_
    · have hlt : i < ys.length := by simpa using hi
      have hd : (ys.map EItem.v)[i] = EItem.v ys[i] := List.getElem_map ..
      rw [hd] at hl hb ⊢
      have hI := ih ys[i] (List.getElem_mem hlt)
      generalize ys[i] = y at hl hb hI ⊢
      rw [ItemS_cv] at hl
      rw [ItemS_nk] at hb ⊢
      have hn0 := nk_le (.sl 0 (y.e.kids.map EE.toV)) (kk + 1 + 1 + 1 + 1 + 1 + 1 + 1 + 1 + 1 + 1)
      have hn1 := nk_le (.sl 0 (y.e.sub.map EE.queryV)) (nk (.sl 0 (y.e.kids.map EE.toV)) (kk + 1 + 1 + 1 + 1 + 1 + 1 + 1 + 1 + 1 + 1))
      rw [ItemS_th, ItemS_tc, ItemS_th2, ItemS_tc2]
      repeat' first
        | (refine kStore ?_ ; first | (refine LOps.storeE tT_ok 0 hq rfl rfl rfl rfl rfl rfl rfl rfl ?_) | (refine LOps.storeE tT_ok 1 hq rfl rfl rfl rfl rfl rfl rfl rfl ?_) | (refine LOps.storeE tT_ok 2 hq rfl rfl rfl rfl rfl rfl rfl rfl ?_) | (refine LOps.storeE tT_ok 3 hq rfl rfl rfl rfl rfl rfl rfl rfl ?_) | (refine LOps.storeE tT_ok 4 hq rfl rfl rfl rfl rfl rfl rfl rfl ?_) | (refine LOps.storeE tT_ok 5 hq rfl rfl rfl rfl rfl rfl rfl rfl ?_) | (refine LOps.storeE tT_ok 6 hq rfl rfl rfl rfl rfl rfl rfl rfl ?_) | (refine LOps.storeE tT_ok 7 hq rfl rfl rfl rfl rfl rfl rfl rfl ?_) | (refine LOps.storeE tT_ok 8 hq rfl rfl rfl rfl rfl rfl rfl rfl ?_) | (refine LOps.storeE tT_ok 9 hq rfl rfl rfl rfl rfl rfl rfl rfl ?_) | (refine LOps.storeE tT_ok 12 hq rfl rfl rfl rfl rfl rfl rfl rfl ?_))
        | (refine kCallN 48 ?_ ; refine LOps.markP (m := m) (A := A) (Z := (thw (m + cv (.sl 0 (y.e.kids.map EE.toV))) (.sl 0 (y.e.sub.map EE.queryV))).2 ++ (Z)) rfl rfl ok48 (hI.1) rfl ?_ ?_ ?_ ?_ ?_ ?_ ; (focus (first | rfl | (simp only [List.append_assoc]))) ; (focus ((try simp only [List.length_append, thw_cv, mk_cv]) ; omega)) ; (focus omega) ; (focus omega) ; (focus omega))
        | (refine kCallN 67 ?_ ; refine LOps.markP (m := m + cv (.sl 0 (y.e.kids.map EE.toV))) (A := (A ++ (thw (m) (mkV (.sl 0 (y.e.kids.map EE.toV)) (kk + 1 + 1 + 1 + 1 + 1 + 1 + 1 + 1 + 1 + 1))).2)) (Z := Z) rfl rfl ok67 (hI.2) rfl ?_ ?_ ?_ ?_ ?_ ?_ ; (focus (first | rfl | (simp only [List.append_assoc]))) ; (focus ((try simp only [List.length_append, thw_cv, mk_cv]) ; omega)) ; (focus omega) ; (focus omega) ; (focus omega))
        | (refine kOps ?_; first | (refine LOps.nil ?_) | (refine LOps.ev tT_ok rfl ?_) | (refine kLoad ?_; first | (refine LOps.ans (AnsL.loadE tT_ok 10 hq rfl rfl rfl rfl) ?_) | (refine LOps.ans (AnsL.loadE tT_ok 11 hq rfl rfl rfl rfl) ?_)) | (refine kBin ?_; first | (refine LOps.ans (AnsL.add rfl rfl ?_) ?_; (focus (constructor <;> omega)))) | (refine kIdx ?_; first | (refine LOps.ans (AnsL.idxM tT_ok rfl rfl rfl rfl rfl ?_) ?_; (focus (omega)))) | (refine kCallN 47 ?_; first | (refine LOps.ans (AnsL.callP rfl rfl rfl (ok47) (markText_v _ ?_ _)) ?_; (focus (omega)))))
        | (refine kWL ?_; first | (refine WL.seq ?_) | (refine WL.region (by kernel_rfl) ?_) | (refine WL.block ?_) | (refine WL.skip ?_) | (refine kCond ?_; first | (refine WL.condT' rfl ?_ ?_; (focus (first | (simp only [decide_eq_true_eq, decide_eq_false_iff_not, Bool.not_eq_true', Bool.not_eq_false', Int.ofNat_lt, Int.ofNat_le, Int.ofNat_inj, not_true_eq_false, not_false_eq_true]; omega))))))
        | (refine lthen_n ?_)
        | (refine lblock_n ?_)
      exact ⟨rfl, ⟨rfl, rfl, rfl, trivial⟩, by simp only [List.append_assoc]⟩
    · skip
      repeat' first
        | (refine lfin_e ?_)
        | (refine kOps ?_; first | (refine LOps.nil ?_) | (refine LOps.ev tT_ok rfl ?_))
        | (refine kWL ?_; first | (refine WL.seq ?_) | (refine WL.region (by kernel_rfl) ?_) | (refine WL.exit ?_) | (refine WL.ret ?_) | (refine kCond ?_; first | (refine WL.condF' rfl ?_ ?_; (focus (first | (simp only [decide_eq_true_eq, decide_eq_false_iff_not, Bool.not_eq_true', Bool.not_eq_false', Int.ofNat_lt, Int.ofNat_le, Int.ofNat_inj, not_true_eq_false, not_false_eq_true]; omega))))))
        | (refine lthen_n ?_)
        | (refine lthen_e ?_)
        | (refine lblock_e ?_)
        | (refine LPost.r1 (r := .tmp 4) (.inl rfl) (Res1.tmp rfl) ?_)
      exact ⟨rfl, rfl⟩
theorem SourceS_mlen (l : List ESrc) : ∀ x ∈ l.map ESrc.v, x.cells.length = 3 := by
  intro v hv
  obtain ⟨x, _, rfl⟩ := List.mem_map.1 hv
  rfl
theorem SourceS_th (m : Nat) (y : ESrc) : (thw m (ESrc.v y)).2 = (thw (m) (.sl 0 (y.on.map EE.toV))).2 := by simp only [ESrc.v, thw_agg, thwL_nil, thwL_int, thwL_str, thwL_bool, thwL_sl, thwL_mk, mk_agg, mkL_nil, mkL_int, mkL_str, mkL_bool, mkL_sl, V.cells, List.append_nil, List.nil_append, List.append_assoc]
theorem SourceS_tc (m : Nat) (y : ESrc) : (thw m (ESrc.v y)).1.cells = [.str y.table, .str y.als, (thw (m) (.sl 0 (y.on.map EE.toV))).1] := by simp only [ESrc.v, thw_agg, thwL_nil, thwL_int, thwL_str, thwL_bool, thwL_sl, thwL_mk, mk_agg, mkL_nil, mkL_int, mkL_str, mkL_bool, mkL_sl, V.cells, List.append_nil, List.nil_append]
theorem SourceS_th2 (m : Nat) (y : ESrc) (kk : Int) : (thw m (mkV (ESrc.v y) kk)).2 = (thw (m) (mkV (.sl 0 (y.on.map EE.toV)) (kk + 1 + 1))).2 := by simp only [ESrc.v, thw_agg, thwL_nil, thwL_int, thwL_str, thwL_bool, thwL_sl, thwL_mk, mk_agg, mkL_nil, mkL_int, mkL_str, mkL_bool, mkL_sl, V.cells, List.append_nil, List.nil_append, List.append_assoc]
theorem SourceS_tc2 (m : Nat) (y : ESrc) (kk : Int) : (thw m (mkV (ESrc.v y) kk)).1.cells = [.str (mt (kk)), .str (mt (kk + 1)), (thw (m) (.sl 0 (y.on.map EE.toV))).1] := by simp only [ESrc.v, thw_agg, thwL_nil, thwL_int, thwL_str, thwL_bool, thwL_sl, thwL_mk, mk_agg, mkL_nil, mkL_int, mkL_str, mkL_bool, mkL_sl, V.cells, List.append_nil, List.nil_append]
theorem SourceS_mk (y : ESrc) (kk : Int) : mkV (ESrc.v y) kk = .agg [.str (mt (kk)), .str (mt (kk + 1)), mkV (.sl 0 (y.on.map EE.toV)) (kk + 1 + 1)] := by simp only [ESrc.v, mk_agg, mkL_nil, mkL_int, mkL_str, mkL_bool, mkL_sl, nk] <;> rfl
theorem SourceS_cv (y : ESrc) : cv (ESrc.v y) = cv (.sl 0 (y.on.map EE.toV)) := by simp only [ESrc.v, cv, cvL]; omega
theorem SourceS_nk (y : ESrc) (kk : Int) : nk (ESrc.v y) kk = nk (.sl 0 (y.on.map EE.toV)) (kk + 1 + 1) := by simp only [ESrc.v, nk, nkL]
theorem markSourceS_r (ys : List ESrc) (ih : ∀ y ∈ ys, MarkC Try.prog 48 (.sl 0 (y.on.map EE.toV))) : MarkC Try.prog 26 (.sl 0 (ys.map ESrc.v)) := by
  intro t n k hv hk0 hk
  by_cases he : ys = []
  · subst he
    refine LCalls.body0 Try.func26 rfl (by kernel_rfl) ?_
    repeat' first
      | (refine kOps ?_; first | (refine LOps.nil ?_) | (refine LOps.ev tT_ok rfl ?_))
      | (refine kWL ?_; first | (refine WL.seq ?_) | (refine WL.region (by kernel_rfl) ?_) | (refine WL.block ?_))
      | (refine lthen_n ?_)
    refine WL.loop0 (fun _ : Unit => 0) (fun _ => [(0, .sl 0 []), (1, .int .i64 k), (5, .int .i64 0)]) (fun _ => t) (fun _ => True) () trivial ⟨rfl, rfl, rfl, trivial⟩ rfl (fun _ _ => ?_)
    repeat' first
      | (refine kOps ?_; first | (refine LOps.nil ?_) | (refine LOps.ev tT_ok rfl ?_) | (refine kLen ?_; first | (refine LOps.ans (AnsL.lenS tT_ok rfl rfl rfl rfl) ?_)))
      | (refine kWL ?_; first | (refine WL.seq ?_) | (refine WL.region (by kernel_rfl) ?_) | (refine WL.exit ?_) | (refine WL.ret ?_) | (refine kCond ?_; first | (refine WL.condF rfl ?_)))
      | (refine lthen_n ?_)
      | (refine lthen_e ?_)
      | (refine lblock_e ?_)
      | (refine lback_e ?_)
      | (refine LPost.r1 (r := .tmp 4) (.inl rfl) (Res1.tmp rfl) ?_)
    exact ⟨rfl, (blk_nil t n).symm⟩
  · have hne := map_ne (f := ESrc.v) he
    rw [thw_sl n 0 hne]
    refine VCalls.wf fun hwf => ?_
    have hlen : (ys.map ESrc.v).length < 9223372036854775808 := slm_len hwf
    refine LCalls.body0 Try.func26 rfl (by kernel_rfl) ?_
    repeat' first
      | (refine kOps ?_; first | (refine LOps.nil ?_) | (refine LOps.ev tT_ok rfl ?_))
      | (refine kWL ?_; first | (refine WL.seq ?_) | (refine WL.region (by kernel_rfl) ?_) | (refine WL.block ?_))
      | (refine lthen_n ?_)
    refine WL.loopMark t n (ys.map ESrc.v) k 3 (fun kk i => [(0, .slm .un (n + cvL (ys.map ESrc.v)) 0 (ys.map ESrc.v).length), (1, .int .i64 kk), (5, .int .i64 (i : Int))]) hne (SourceS_mlen ys) hv hk0 hk ⟨rfl, rfl, rfl, trivial⟩ (fun i hi kk m A Z CA CZ hq hm hl h0 hb => ?_) ?_
    · have hlt : i < ys.length := by simpa using hi
      have hd : (ys.map ESrc.v)[i] = ESrc.v ys[i] := List.getElem_map ..
      rw [hd] at hl hb ⊢
      have hI := ih ys[i] (List.getElem_mem hlt)
      generalize ys[i] = y at hl hb hI ⊢
      rw [SourceS_cv] at hl
      rw [SourceS_nk] at hb ⊢
      have hn0 := nk_le (.sl 0 (y.on.map EE.toV)) (kk + 1 + 1)
      rw [SourceS_th, SourceS_tc, SourceS_th2, SourceS_tc2]
      repeat' first
        | (refine kStore ?_ ; first | (refine LOps.storeE tT_ok 0 hq rfl rfl rfl rfl rfl rfl rfl rfl ?_) | (refine LOps.storeE tT_ok 1 hq rfl rfl rfl rfl rfl rfl rfl rfl ?_))
        | (refine kCallN 48 ?_ ; refine LOps.markP (m := m) (A := A) (Z := Z) rfl rfl ok48 (hI) rfl ?_ ?_ ?_ ?_ ?_ ?_ ; (focus (first | rfl)) ; (focus ((try simp only [List.length_append, thw_cv, mk_cv]) ; omega)) ; (focus omega) ; (focus omega) ; (focus omega))
        | (refine kOps ?_; first | (refine LOps.nil ?_) | (refine LOps.ev tT_ok rfl ?_) | (refine kLoad ?_; first | (refine LOps.ans (AnsL.loadE tT_ok 2 hq rfl rfl rfl rfl) ?_)) | (refine kBin ?_; first | (refine LOps.ans (AnsL.add rfl rfl ?_) ?_; (focus (constructor <;> omega)))) | (refine kIdx ?_; first | (refine LOps.ans (AnsL.idxM tT_ok rfl rfl rfl rfl rfl ?_) ?_; (focus (omega)))) | (refine kCallN 47 ?_; first | (refine LOps.ans (AnsL.callP rfl rfl rfl (ok47) (markText_v _ ?_ _)) ?_; (focus (omega)))))
        | (refine kWL ?_; first | (refine WL.seq ?_) | (refine WL.region (by kernel_rfl) ?_) | (refine WL.block ?_) | (refine WL.skip ?_) | (refine kCond ?_; first | (refine WL.condT' rfl ?_ ?_; (focus (first | (simp only [decide_eq_true_eq, decide_eq_false_iff_not, Bool.not_eq_true', Bool.not_eq_false', Int.ofNat_lt, Int.ofNat_le, Int.ofNat_inj, not_true_eq_false, not_false_eq_true]; omega))))))
        | (refine lthen_n ?_)
        | (refine lblock_n ?_)
      exact ⟨rfl, ⟨rfl, rfl, rfl, trivial⟩, by simp only [List.append_assoc]⟩
    · skip
      repeat' first
        | (refine lfin_e ?_)
        | (refine kOps ?_; first | (refine LOps.nil ?_) | (refine LOps.ev tT_ok rfl ?_))
        | (refine kWL ?_; first | (refine WL.seq ?_) | (refine WL.region (by kernel_rfl) ?_) | (refine WL.exit ?_) | (refine WL.ret ?_) | (refine kCond ?_; first | (refine WL.condF' rfl ?_ ?_; (focus (first | (simp only [decide_eq_true_eq, decide_eq_false_iff_not, Bool.not_eq_true', Bool.not_eq_false', Int.ofNat_lt, Int.ofNat_le, Int.ofNat_inj, not_true_eq_false, not_false_eq_true]; omega))))))
        | (refine lthen_n ?_)
        | (refine lthen_e ?_)
        | (refine lblock_e ?_)
        | (refine LPost.r1 (r := .tmp 4) (.inl rfl) (Res1.tmp rfl) ?_)
      exact ⟨rfl, rfl⟩
theorem QueryS_mlen (l : List EQ) : ∀ x ∈ l.map EE.queryV, x.cells.length = 6 := by
  intro v hv
  obtain ⟨x, _, rfl⟩ := List.mem_map.1 hv
  rw [EE.queryV_eq]; rfl
theorem QueryS_th (m : Nat) (y : EQ) : (thw m (EQ.v y)).2 = (thw (m) (.sl 0 (y.items.map EItem.v))).2 ++ ((thw (m + cv (.sl 0 (y.items.map EItem.v))) (.sl 0 (y.src.map ESrc.v))).2 ++ ((thw (m + cv (.sl 0 (y.items.map EItem.v)) + cv (.sl 0 (y.src.map ESrc.v))) (.sl 0 (y.wher.map EE.toV))).2 ++ ((thw (m + cv (.sl 0 (y.items.map EItem.v)) + cv (.sl 0 (y.src.map ESrc.v)) + cv (.sl 0 (y.wher.map EE.toV))) (.sl 0 (y.order.map EE.sv))).2))) := by simp only [EQ.v, thw_agg, thwL_nil, thwL_int, thwL_str, thwL_bool, thwL_sl, thwL_mk, mk_agg, mkL_nil, mkL_int, mkL_str, mkL_bool, mkL_sl, V.cells, List.append_nil, List.nil_append, List.append_assoc]
theorem QueryS_tc (m : Nat) (y : EQ) : (thw m (EQ.v y)).1.cells = [.bool y.distinct, (thw (m) (.sl 0 (y.items.map EItem.v))).1, (thw (m + cv (.sl 0 (y.items.map EItem.v))) (.sl 0 (y.src.map ESrc.v))).1, (thw (m + cv (.sl 0 (y.items.map EItem.v)) + cv (.sl 0 (y.src.map ESrc.v))) (.sl 0 (y.wher.map EE.toV))).1, (thw (m + cv (.sl 0 (y.items.map EItem.v)) + cv (.sl 0 (y.src.map ESrc.v)) + cv (.sl 0 (y.wher.map EE.toV))) (.sl 0 (y.order.map EE.sv))).1, .int .i64 y.limit] := by simp only [EQ.v, thw_agg, thwL_nil, thwL_int, thwL_str, thwL_bool, thwL_sl, thwL_mk, mk_agg, mkL_nil, mkL_int, mkL_str, mkL_bool, mkL_sl, V.cells, List.append_nil, List.nil_append]
theorem QueryS_th2 (m : Nat) (y : EQ) (kk : Int) : (thw m (mkV (EQ.v y) kk)).2 = (thw (m) (mkV (.sl 0 (y.items.map EItem.v)) (kk + 1))).2 ++ ((thw (m + cv (.sl 0 (y.items.map EItem.v))) (mkV (.sl 0 (y.src.map ESrc.v)) (nk (.sl 0 (y.items.map EItem.v)) (kk + 1)))).2 ++ ((thw (m + cv (.sl 0 (y.items.map EItem.v)) + cv (.sl 0 (y.src.map ESrc.v))) (mkV (.sl 0 (y.wher.map EE.toV)) (nk (.sl 0 (y.src.map ESrc.v)) (nk (.sl 0 (y.items.map EItem.v)) (kk + 1))))).2 ++ ((thw (m + cv (.sl 0 (y.items.map EItem.v)) + cv (.sl 0 (y.src.map ESrc.v)) + cv (.sl 0 (y.wher.map EE.toV))) (mkV (.sl 0 (y.order.map EE.sv)) (nk (.sl 0 (y.wher.map EE.toV)) (nk (.sl 0 (y.src.map ESrc.v)) (nk (.sl 0 (y.items.map EItem.v)) (kk + 1)))))).2))) := by simp only [EQ.v, thw_agg, thwL_nil, thwL_int, thwL_str, thwL_bool, thwL_sl, thwL_mk, mk_agg, mkL_nil, mkL_int, mkL_str, mkL_bool, mkL_sl, V.cells, List.append_nil, List.nil_append, List.append_assoc]
theorem QueryS_tc2 (m : Nat) (y : EQ) (kk : Int) : (thw m (mkV (EQ.v y) kk)).1.cells = [.bool (decide ((kk).tmod 3 = 0)), (thw (m) (.sl 0 (y.items.map EItem.v))).1, (thw (m + cv (.sl 0 (y.items.map EItem.v))) (.sl 0 (y.src.map ESrc.v))).1, (thw (m + cv (.sl 0 (y.items.map EItem.v)) + cv (.sl 0 (y.src.map ESrc.v))) (.sl 0 (y.wher.map EE.toV))).1, (thw (m + cv (.sl 0 (y.items.map EItem.v)) + cv (.sl 0 (y.src.map ESrc.v)) + cv (.sl 0 (y.wher.map EE.toV))) (.sl 0 (y.order.map EE.sv))).1, .int .i64 (nk (.sl 0 (y.order.map EE.sv)) (nk (.sl 0 (y.wher.map EE.toV)) (nk (.sl 0 (y.src.map ESrc.v)) (nk (.sl 0 (y.items.map EItem.v)) (kk + 1)))))] := by simp only [EQ.v, thw_agg, thwL_nil, thwL_int, thwL_str, thwL_bool, thwL_sl, thwL_mk, mk_agg, mkL_nil, mkL_int, mkL_str, mkL_bool, mkL_sl, V.cells, List.append_nil, List.nil_append]
theorem QueryS_mk (y : EQ) (kk : Int) : mkV (EQ.v y) kk = .agg [.bool (decide ((kk).tmod 3 = 0)), mkV (.sl 0 (y.items.map EItem.v)) (kk + 1), mkV (.sl 0 (y.src.map ESrc.v)) (nk (.sl 0 (y.items.map EItem.v)) (kk + 1)), mkV (.sl 0 (y.wher.map EE.toV)) (nk (.sl 0 (y.src.map ESrc.v)) (nk (.sl 0 (y.items.map EItem.v)) (kk + 1))), mkV (.sl 0 (y.order.map EE.sv)) (nk (.sl 0 (y.wher.map EE.toV)) (nk (.sl 0 (y.src.map ESrc.v)) (nk (.sl 0 (y.items.map EItem.v)) (kk + 1)))), .int .i64 (nk (.sl 0 (y.order.map EE.sv)) (nk (.sl 0 (y.wher.map EE.toV)) (nk (.sl 0 (y.src.map ESrc.v)) (nk (.sl 0 (y.items.map EItem.v)) (kk + 1)))))] := by simp only [EQ.v, mk_agg, mkL_nil, mkL_int, mkL_str, mkL_bool, mkL_sl, nk] <;> rfl
theorem QueryS_cv (y : EQ) : cv (EQ.v y) = cv (.sl 0 (y.items.map EItem.v)) + cv (.sl 0 (y.src.map ESrc.v)) + cv (.sl 0 (y.wher.map EE.toV)) + cv (.sl 0 (y.order.map EE.sv)) := by simp only [EQ.v, cv, cvL]; omega
theorem QueryS_nk (y : EQ) (kk : Int) : nk (EQ.v y) kk = nk (.sl 0 (y.order.map EE.sv)) (nk (.sl 0 (y.wher.map EE.toV)) (nk (.sl 0 (y.src.map ESrc.v)) (nk (.sl 0 (y.items.map EItem.v)) (kk + 1)))) + 1 := by simp only [EQ.v, nk, nkL]
theorem markQueryS_r (ys : List EQ) (ih : ∀ y ∈ ys, MarkC Try.prog 82 (.sl 0 (y.items.map EItem.v)) ∧ MarkC Try.prog 26 (.sl 0 (y.src.map ESrc.v)) ∧ MarkC Try.prog 48 (.sl 0 (y.wher.map EE.toV)) ∧ MarkC Try.prog 83 (.sl 0 (y.order.map EE.sv))) : MarkC Try.prog 67 (.sl 0 (ys.map EE.queryV)) := by
  intro t n k hv hk0 hk
  by_cases he : ys = []
  · subst he
    refine LCalls.body0 Try.func67 rfl (by kernel_rfl) ?_
    repeat' first
      | (refine kOps ?_; first | (refine LOps.nil ?_) | (refine LOps.ev tT_ok rfl ?_))
      | (refine kWL ?_; first | (refine WL.seq ?_) | (refine WL.region (by kernel_rfl) ?_) | (refine WL.block ?_))
      | (refine lthen_n ?_)
    refine WL.loop0 (fun _ : Unit => 0) (fun _ => [(0, .sl 0 []), (1, .int .i64 k), (5, .int .i64 0)]) (fun _ => t) (fun _ => True) () trivial ⟨rfl, rfl, rfl, trivial⟩ rfl (fun _ _ => ?_)
    repeat' first
      | (refine kOps ?_; first | (refine LOps.nil ?_) | (refine LOps.ev tT_ok rfl ?_) | (refine kLen ?_; first | (refine LOps.ans (AnsL.lenS tT_ok rfl rfl rfl rfl) ?_)))
      | (refine kWL ?_; first | (refine WL.seq ?_) | (refine WL.region (by kernel_rfl) ?_) | (refine WL.exit ?_) | (refine WL.ret ?_) | (refine kCond ?_; first | (refine WL.condF rfl ?_)))
      | (refine lthen_n ?_)
      | (refine lthen_e ?_)
      | (refine lblock_e ?_)
      | (refine lback_e ?_)
      | (refine LPost.r1 (r := .tmp 4) (.inl rfl) (Res1.tmp rfl) ?_)
    exact ⟨rfl, (blk_nil t n).symm⟩
  · have hne := map_ne (f := EE.queryV) he
    rw [thw_sl n 0 hne]
    refine VCalls.wf fun hwf => ?_
    have hlen : (ys.map EE.queryV).length < 9223372036854775808 := slm_len hwf
    refine LCalls.body0 Try.func67 rfl (by kernel_rfl) ?_
    repeat' first
      | (refine kOps ?_; first | (refine LOps.nil ?_) | (refine LOps.ev tT_ok rfl ?_))
      | (refine kWL ?_; first | (refine WL.seq ?_) | (refine WL.region (by kernel_rfl) ?_) | (refine WL.block ?_))
      | (refine lthen_n ?_)
    refine WL.loopMark t n (ys.map EE.queryV) k 6 (fun kk i => [(0, .slm .un (n + cvL (ys.map EE.queryV)) 0 (ys.map EE.queryV).length), (1, .int .i64 kk), (5, .int .i64 (i : Int))]) hne (QueryS_mlen ys) hv hk0 hk ⟨rfl, rfl, rfl, trivial⟩ (fun i hi kk m A Z CA CZ hq hm hl h0 hb => ?_) ?_
    · have hlt : i < ys.length := by simpa using hi
      have hd : (ys.map EE.queryV)[i] = EQ.v ys[i] := by rw [List.getElem_map, EE.queryV_eq]
      rw [hd] at hl hb ⊢
      have hI := ih ys[i] (List.getElem_mem hlt)
      generalize ys[i] = y at hl hb hI ⊢
      rw [QueryS_cv] at hl
      rw [QueryS_nk] at hb ⊢
      have hn0 := nk_le (.sl 0 (y.items.map EItem.v)) (kk + 1)
      have hn1 := nk_le (.sl 0 (y.src.map ESrc.v)) (nk (.sl 0 (y.items.map EItem.v)) (kk + 1))
      have hn2 := nk_le (.sl 0 (y.wher.map EE.toV)) (nk (.sl 0 (y.src.map ESrc.v)) (nk (.sl 0 (y.items.map EItem.v)) (kk + 1)))
      have hn3 := nk_le (.sl 0 (y.order.map EE.sv)) (nk (.sl 0 (y.wher.map EE.toV)) (nk (.sl 0 (y.src.map ESrc.v)) (nk (.sl 0 (y.items.map EItem.v)) (kk + 1))))
      rw [QueryS_th, QueryS_tc, QueryS_th2, QueryS_tc2]
      repeat' first
        | (refine kStore ?_ ; first | (refine LOps.storeE tT_ok 0 hq rfl rfl rfl rfl rfl rfl rfl rfl ?_) | (refine LOps.storeE tT_ok 5 hq rfl rfl rfl rfl rfl rfl rfl rfl ?_))
        | (refine kCallN 82 ?_ ; refine LOps.markP (m := m) (A := A) (Z := (thw (m + cv (.sl 0 (y.items.map EItem.v))) (.sl 0 (y.src.map ESrc.v))).2 ++ ((thw (m + cv (.sl 0 (y.items.map EItem.v)) + cv (.sl 0 (y.src.map ESrc.v))) (.sl 0 (y.wher.map EE.toV))).2 ++ ((thw (m + cv (.sl 0 (y.items.map EItem.v)) + cv (.sl 0 (y.src.map ESrc.v)) + cv (.sl 0 (y.wher.map EE.toV))) (.sl 0 (y.order.map EE.sv))).2 ++ (Z)))) rfl rfl ok82 (hI.1) rfl ?_ ?_ ?_ ?_ ?_ ?_ ; (focus (first | rfl | (simp only [List.append_assoc]))) ; (focus ((try simp only [List.length_append, thw_cv, mk_cv]) ; omega)) ; (focus omega) ; (focus omega) ; (focus omega))
        | (refine kCallN 26 ?_ ; refine LOps.markP (m := m + cv (.sl 0 (y.items.map EItem.v))) (A := (A ++ (thw (m) (mkV (.sl 0 (y.items.map EItem.v)) (kk + 1))).2)) (Z := (thw (m + cv (.sl 0 (y.items.map EItem.v)) + cv (.sl 0 (y.src.map ESrc.v))) (.sl 0 (y.wher.map EE.toV))).2 ++ ((thw (m + cv (.sl 0 (y.items.map EItem.v)) + cv (.sl 0 (y.src.map ESrc.v)) + cv (.sl 0 (y.wher.map EE.toV))) (.sl 0 (y.order.map EE.sv))).2 ++ (Z))) rfl rfl ok26 (hI.2.1) rfl ?_ ?_ ?_ ?_ ?_ ?_ ; (focus (first | rfl | (simp only [List.append_assoc]))) ; (focus ((try simp only [List.length_append, thw_cv, mk_cv]) ; omega)) ; (focus omega) ; (focus omega) ; (focus omega))
        | (refine kCallN 48 ?_ ; refine LOps.markP (m := m + cv (.sl 0 (y.items.map EItem.v)) + cv (.sl 0 (y.src.map ESrc.v))) (A := ((A ++ (thw (m) (mkV (.sl 0 (y.items.map EItem.v)) (kk + 1))).2) ++ (thw (m + cv (.sl 0 (y.items.map EItem.v))) (mkV (.sl 0 (y.src.map ESrc.v)) (nk (.sl 0 (y.items.map EItem.v)) (kk + 1)))).2)) (Z := (thw (m + cv (.sl 0 (y.items.map EItem.v)) + cv (.sl 0 (y.src.map ESrc.v)) + cv (.sl 0 (y.wher.map EE.toV))) (.sl 0 (y.order.map EE.sv))).2 ++ (Z)) rfl rfl ok48 (hI.2.2.1) rfl ?_ ?_ ?_ ?_ ?_ ?_ ; (focus (first | rfl | (simp only [List.append_assoc]))) ; (focus ((try simp only [List.length_append, thw_cv, mk_cv]) ; omega)) ; (focus omega) ; (focus omega) ; (focus omega))
        | (refine kCallN 83 ?_ ; refine LOps.markP (m := m + cv (.sl 0 (y.items.map EItem.v)) + cv (.sl 0 (y.src.map ESrc.v)) + cv (.sl 0 (y.wher.map EE.toV))) (A := (((A ++ (thw (m) (mkV (.sl 0 (y.items.map EItem.v)) (kk + 1))).2) ++ (thw (m + cv (.sl 0 (y.items.map EItem.v))) (mkV (.sl 0 (y.src.map ESrc.v)) (nk (.sl 0 (y.items.map EItem.v)) (kk + 1)))).2) ++ (thw (m + cv (.sl 0 (y.items.map EItem.v)) + cv (.sl 0 (y.src.map ESrc.v))) (mkV (.sl 0 (y.wher.map EE.toV)) (nk (.sl 0 (y.src.map ESrc.v)) (nk (.sl 0 (y.items.map EItem.v)) (kk + 1))))).2)) (Z := Z) rfl rfl ok83 (hI.2.2.2) rfl ?_ ?_ ?_ ?_ ?_ ?_ ; (focus (first | rfl | (simp only [List.append_assoc]))) ; (focus ((try simp only [List.length_append, thw_cv, mk_cv]) ; omega)) ; (focus omega) ; (focus omega) ; (focus omega))
        | (refine kOps ?_; first | (refine LOps.nil ?_) | (refine LOps.ev tT_ok rfl ?_) | (refine kLoad ?_; first | (refine LOps.ans (AnsL.loadE tT_ok 1 hq rfl rfl rfl rfl) ?_) | (refine LOps.ans (AnsL.loadE tT_ok 2 hq rfl rfl rfl rfl) ?_) | (refine LOps.ans (AnsL.loadE tT_ok 3 hq rfl rfl rfl rfl) ?_) | (refine LOps.ans (AnsL.loadE tT_ok 4 hq rfl rfl rfl rfl) ?_)) | (refine kBin ?_; first | (refine LOps.ans (AnsL.add rfl rfl ?_) ?_; (focus (constructor <;> omega)))) | (refine kIdx ?_; first | (refine LOps.ans (AnsL.idxM tT_ok rfl rfl rfl rfl rfl ?_) ?_; (focus (omega)))))
        | (refine kWL ?_; first | (refine WL.seq ?_) | (refine WL.region (by kernel_rfl) ?_) | (refine WL.block ?_) | (refine WL.skip ?_) | (refine kCond ?_; first | (refine WL.condT' rfl ?_ ?_; (focus (first | (simp only [decide_eq_true_eq, decide_eq_false_iff_not, Bool.not_eq_true', Bool.not_eq_false', Int.ofNat_lt, Int.ofNat_le, Int.ofNat_inj, not_true_eq_false, not_false_eq_true]; omega))))))
        | (refine lthen_n ?_)
        | (refine lblock_n ?_)
      exact ⟨rfl, ⟨rfl, rfl, rfl, trivial⟩, by simp only [List.append_assoc]⟩
    · skip
      repeat' first
        | (refine lfin_e ?_)
        | (refine kOps ?_; first | (refine LOps.nil ?_) | (refine LOps.ev tT_ok rfl ?_))
        | (refine kWL ?_; first | (refine WL.seq ?_) | (refine WL.region (by kernel_rfl) ?_) | (refine WL.exit ?_) | (refine WL.ret ?_) | (refine kCond ?_; first | (refine WL.condF' rfl ?_ ?_; (focus (first | (simp only [decide_eq_true_eq, decide_eq_false_iff_not, Bool.not_eq_true', Bool.not_eq_false', Int.ofNat_lt, Int.ofNat_le, Int.ofNat_inj, not_true_eq_false, not_false_eq_true]; omega))))))
        | (refine lthen_n ?_)
        | (refine lthen_e ?_)
        | (refine lblock_e ?_)
        | (refine LPost.r1 (r := .tmp 4) (.inl rfl) (Res1.tmp rfl) ?_)
      exact ⟨rfl, rfl⟩
theorem markEE_c (e : EE) : MarkC Try.prog 48 (.sl 0 (e.kids.map EE.toV)) ∧ MarkC Try.prog 67 (.sl 0 (e.sub.map EE.queryV)) := by
  induction e using EE.ind with
  | h e ih1 ih2 =>
    refine ⟨markExprS_r e.kids fun k hk => ih1 k hk, markQueryS_r e.sub fun p hp => ?_⟩
    have h := ih2 p hp
    exact ⟨markItemS_r p.items fun x hx => h x.e (QueryOf.mem_items hx), markSourceS_r p.src fun x hx => markExprS_r x.on fun k hk => h k (QueryOf.mem_src hx hk), markExprS_r p.wher fun k hk => h k (QueryOf.mem_wher hk), markSortKeyS_r p.order fun x hx => h x.1 (QueryOf.mem_order hx)⟩
theorem markExprS_c (l : List EE) : MarkC Try.prog 48 (.sl 0 (l.map EE.toV)) := markExprS_r l fun k _ => markEE_c k
theorem markSourceS_c (l : List ESrc) : MarkC Try.prog 26 (.sl 0 (l.map ESrc.v)) := markSourceS_r l fun x _ => markExprS_c x.on

end Go.Proofs.Ytoagpmhdgllchaa
