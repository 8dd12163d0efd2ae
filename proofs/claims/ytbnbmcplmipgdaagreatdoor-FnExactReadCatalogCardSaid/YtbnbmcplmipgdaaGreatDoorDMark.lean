/-
  What marks data and what finds it marked. Own work; no condition.
-/
import Derived.Test.YtbnbmcplmipgdaaGreatDoorMg13
import Derived.Test.YtbnbmcplmipgdaaGreatDoorDScope
namespace Go.Proofs.YtbnbmcplmipgdaaGreatDoor
open Go
set_option linter.unusedSimpArgs false
set_option linter.unusedVariables false

@[simp] theorem nk_int' (i : IntKind) (n k : Int) : nk (.int i n) k = k + 1 := by simp only [nk]
@[simp] theorem nk_bool' (b : Bool) (k : Int) : nk (.bool b) k = k + 1 := by simp only [nk]
@[simp] theorem nk_str' (b : List UInt8) (k : Int) : nk (.str b) k = k + 1 := by simp only [nk]
section
variable {P : Program} {L : Kn} {s : S} {tt : BT}
theorem AnsL.toStr (ht : tt.ok P) {U T e : TypeId} {u t te : Ty} {x : Operand} {id : Nat} {us : List V} {bs : List UInt8} (hx : opd L x = some (.sl id us)) (hU : tt.get U = some u) (hku : u.kd = .slice e) (hT : tt.get T = some t) (hkt : t.kd = .string)
    (hte : tt.get e = some te) (hke : te.kd = .int .u8) (hsz : Nat.beq te.size 1 = true) (hb : vbytes us = some bs) : AnsL P (.convert U T x) L s (.str bs) :=
  .of fun σ hσ _ _ _ _ _ => by
    have h1 : te.size = 1 := Nat.eq_of_beq_eq_true hsz
    simp only [vop, opd_eq hσ hx, vconvert, vtoStr, ht.get hU, ht.get hT, hku, hkt, ht.get hte, hke, h1, if_true, elemsOf, hb, Option.bind_some, Option.map_some]
end

theorem mtA_pos (f : Nat) {k : Int} (out : List UInt8) (h : 0 < k) : mtA (f + 1) k out = mtA f (IntKind.i64.wrap (k.tdiv 10)) (UInt8.ofNat (IntKind.u8.wrap (IntKind.i64.wrap (48 + k.tmod 10))).toNat :: out) := by
  rw [mtA, if_pos h]

theorem markText_v (k : Int) (hk : k ≤ 4000000000000) (s : S) : VCalls Tryz.prog 52 [.int .i64 k] s (fun v s' => v = .str (mt k) ∧ s' = s) := by
  refine LCalls.pure Tryz.func52 rfl (by kernel_rfl) (by simp) ?_
  by_cases hk0 : k ≤ 0
  · skip
    repeat' first
      | (refine kOps ?_; first | (refine LOps.nil ?_) | (refine LOps.ev tT_ok rfl ?_))
      | (refine kWL ?_; first | (refine WL.seq ?_) | (refine WL.region (by kernel_rfl) ?_) | (refine WL.ret ?_) | (refine kCond ?_; first | (refine WL.condT' rfl ?_ ?_; (focus (first | (exact decide_eq_true (by assumption)))))))
      | (refine lthen_n ?_)
      | (refine lthen_r ?_)
      | (refine LPost.r1 (r := .tmp 2) (.inl rfl) (Res1.tmp rfl) ?_)
      | (refine PureR.mk ?_)
    simp [mt, hk0]
  repeat' first
    | (refine kOps ?_; first | (refine LOps.nil ?_) | (refine LOps.ev tT_ok rfl ?_))
    | (refine kWL ?_; first | (refine WL.seq ?_) | (refine WL.region (by kernel_rfl) ?_) | (refine WL.block ?_) | (refine WL.skip ?_) | (refine kCond ?_; first | (refine WL.condF' rfl ?_ ?_; (focus (first | (exact decide_eq_false (by assumption)))))))
    | (refine lthen_n ?_)
  refine WL.loopD (fun x : Nat × Int × List UInt8 => x.1) (fun x => [(0, .int .i64 x.2.1), (3, .str x.2.2)]) (fun _ => [])
    (fun x => mtA 20 k [] = mtA x.1 x.2.1 x.2.2 ∧ 0 ≤ x.2.1 ∧ x.2.1 < 10 ^ x.1 ∧ x.2.2.length + x.1 ≤ 20 ∧ x.2.1 ≤ 4000000000000) 0 (20, k, []) ⟨rfl, by show 0 ≤ k; omega, by show k < (10 : Int) ^ 20; rw [show (10 : Int) ^ 20 = 100000000000000000000 by decide]; omega, by simp, hk⟩ (fun _ => rfl) ⟨rfl, rfl, trivial⟩ rfl (fun x hx => ?_) (fun x hx => ?_)
  · simp [UnderK, UnderX, V.under]
  obtain ⟨f, k', out⟩ := x
  obtain ⟨h1, h2, h3, h4, h5⟩ := hx
  simp only at h1 h2 h3 h4 h5
  by_cases hp : 0 < k'
  · cases f with
    | zero => simp at h3; omega
    | succ f =>
      have hm : 0 ≤ k'.tmod 10 ∧ k'.tmod 10 < 10 := by rw [Int.tmod_eq_emod_of_nonneg h2]; omega
      have hw : IntKind.i64.wrap (k'.tdiv 10) = k' / 10 := by rw [Int.tdiv_eq_ediv_of_nonneg h2, wrap_in]; unfold In64; omega
      rw [mtA_pos f out hp] at h1
      have hgt : decide (k' > 0) = true := by simpa using hp
      have h6 : IntKind.i64.wrap (k'.tdiv 10) < 10 ^ f := by rw [Int.pow_succ] at h3; omega
      have h7 : 0 ≤ IntKind.i64.wrap (k'.tdiv 10) ∧ IntKind.i64.wrap (k'.tdiv 10) ≤ 4000000000000 := by omega
      clear hw
      repeat' first
        | (refine LOps.ans (AnsL.toStr tT_ok rfl rfl rfl rfl rfl rfl rfl rfl rfl) ?_)
        | (refine kOps ?_; first | (refine LOps.nil ?_) | (refine LOps.ev tT_ok rfl ?_) | (refine kBsl ?_; first | (refine LOps.bsl tT_ok rfl rfl rfl rfl rfl rfl rfl rfl rfl rfl rfl ?_)) | (refine kBin ?_; first | (refine LOps.ans (AnsL.cat rfl rfl ?_) ?_; (focus (exact le_maxLen (by simp <;> omega)))) | (refine LOps.ans (AnsL.arith rfl rfl rfl) ?_)))
        | (refine kWL ?_; first | (refine WL.seq ?_) | (refine WL.region (by kernel_rfl) ?_) | (refine WL.block ?_) | (refine WL.skip ?_) | (refine kCond ?_; first | (refine WL.condT' rfl ?_ ?_; (focus (first | (assumption))))))
        | (refine lthen_n ?_)
        | (refine lblock_n ?_)
      refine lbackD.of (f, IntKind.i64.wrap (k'.tdiv 10), UInt8.ofNat (IntKind.u8.wrap (IntKind.i64.wrap (48 + k'.tmod 10))).toNat :: out) ⟨h1, h7.1, h6, by simp only [List.length_cons]; omega, h7.2⟩ (by simp) ⟨rfl, rfl, trivial⟩ rfl
  · have hgt : decide (k' > 0) = false := by simpa using hp
    have h6 : mtA f k' out = out := by cases f <;> simp [mtA, hp]
    repeat' first
      | (refine kOps ?_; first | (refine LOps.nil ?_) | (refine LOps.ev tT_ok rfl ?_) | (refine kBin ?_; first | (refine LOps.ans (AnsL.cat rfl rfl ?_) ?_; (focus (exact le_maxLen (by simp <;> omega))))))
      | (refine kWL ?_; first | (refine WL.seq ?_) | (refine WL.region (by kernel_rfl) ?_) | (refine WL.exit ?_) | (refine WL.ret ?_) | (refine kCond ?_; first | (refine WL.condF' rfl ?_ ?_; (focus (first | (assumption))))))
      | (refine lthen_n ?_)
      | (refine lthen_e ?_)
      | (refine lblock_e ?_)
      | (refine lbackD_e ?_)
      | (refine LPost.r1 (r := .tmp 2) (.inl rfl) (Res1.tmp rfl) ?_)
      | (refine PureR.mk ?_)
    simp [mt, hk0, h1, h6]

theorem slm_len {x : Cp} {l o n : Nat} {k : V} (h : [V.slm x l o n, k].all V.wf = true) : n < 9223372036854775808 := by
  rw [List.all_cons, Bool.and_eq_true] at h
  have h1 : n ≤ maxLen := of_decide_eq_true h.1
  unfold maxLen at h1
  omega
theorem map_ne {α : Type} {f : α → V} {l : List α} (h : ¬ l = []) : (l.map f).isEmpty = false := by cases l <;> simp_all
theorem sl_len {id : Nat} {xs : List V} {k : V} (h : [V.sl id xs, k].all V.wf = true) : xs.length < 9223372036854775808 := by
  rw [List.all_cons, Bool.and_eq_true] at h
  have h2 := h.1
  simp only [V.wf, Bool.and_eq_true] at h2
  have h1 : xs.length ≤ maxLen := of_decide_eq_true h2.1
  unfold maxLen at h1
  omega
theorem thw_sl_cells (n i : Nat) (xs : List V) : (thw n (.sl i xs)).1.cells = [(thw n (.sl i xs)).1] := by
  unfold thw
  cases xs.isEmpty <;> rfl

theorem plainL_cons {v : V} {vs : List V} (h1 : v.plain = true) (h2 : V.plainL vs = true) : V.plainL (v :: vs) = true := by simp only [V.plainL, h1, h2, Bool.and_self]
theorem plain_IntS (l : List Int) : V.plain (.sl 0 (l.map iV)) = true := plain_map (f := iV) 1 (fun _ => rfl) (fun _ => rfl) l
theorem plain_StringS (l : List (List UInt8)) : V.plain (.sl 0 (l.map sV)) = true := plain_map (f := sV) 1 (fun _ => rfl) (fun _ => rfl) l
theorem plain_ValueS (l : List Val) : V.plain (.sl 0 (l.map Val.toV)) = true := plain_map (f := Val.toV) 3 (fun x => (plainL_cons rfl (plainL_cons rfl (plainL_cons rfl rfl)))) (fun _ => rfl) l
theorem plain_ColS (l : List Col) : V.plain (.sl 0 (l.map Col.toV)) = true := plain_map (f := Col.toV) 2 (fun x => (plainL_cons rfl (plainL_cons rfl rfl))) (fun _ => rfl) l
theorem plain_NamedS (l : List Named) : V.plain (.sl 0 (l.map Named.toV)) = true := plain_map (f := Named.toV) 3 (fun x => (plainL_cons rfl (plainL_cons rfl (plainL_cons rfl rfl)))) (fun _ => rfl) l
theorem plain_BindS (l : List Bind) : V.plain (.sl 0 (l.map Bind.toV)) = true := plain_map (f := Bind.toV) 3 (fun x => (plainL_cons rfl (plainL_cons rfl (plainL_cons rfl rfl)))) (fun _ => rfl) l
theorem plain_TokenS (l : List Token) : V.plain (.sl 0 (l.map Token.toV)) = true := plain_map (f := Token.toV) 3 (fun x => (plainL_cons rfl (plainL_cons rfl (plainL_cons rfl rfl)))) (fun _ => rfl) l
theorem plain_IntSS (l : List (List Int)) : V.plain (.sl 0 (l.map ints)) = true := plain_map (f := ints) 1 (fun x => plain_IntS x) (fun _ => rfl) l
theorem plain_ValueSS (l : List (List Val)) : V.plain (.sl 0 (l.map Val.toVS)) = true := plain_map (f := Val.toVS) 1 (fun x => plain_ValueS x) (fun _ => rfl) l
theorem plain_TableS (l : List Tab) : V.plain (.sl 0 (l.map Tab.toV)) = true := plain_map (f := Tab.toV) 2 (fun x => (plainL_cons rfl (plainL_cons (plain_ColS x.cols) rfl))) (fun _ => rfl) l
theorem plain_DataS (l : List Data) : V.plain (.sl 0 (l.map Data.toV)) = true := plain_map (f := Data.toV) 1 (fun x => (plainL_cons (plain_ValueSS x.rows) rfl)) (fun _ => rfl) l
theorem plain_ScopeS (l : List Scope) : V.plain (.sl 0 (l.map Scope.toV)) = true := plain_map (f := Scope.toV) 1 (fun x => (plainL_cons (plain_NamedS x.names) rfl)) (fun _ => rfl) l
theorem markColS_c (ys : List Col) : MarkC Tryz.prog 53 (.sl 0 (ys.map Col.toV)) := by
  intro t n k hv hk0 hk
  by_cases he : ys = []
  · subst he
    refine LCalls.body0 Tryz.func53 rfl (by kernel_rfl) ?_
    repeat' first
      | (refine kOps ?_; first | (refine LOps.nil ?_) | (refine LOps.ev tT_ok rfl ?_))
      | (refine kWL ?_; first | (refine WL.seq ?_) | (refine WL.region (by kernel_rfl) ?_) | (refine WL.block ?_))
      | (refine lthen_n ?_)
    refine WL.loop0 (fun _ : Unit => 0) (fun _ => [(0, .sl 0 []), (1, .int .i64 k), (5, .int .i64 0)]) (fun _ => t) (fun _ => True) () trivial ⟨rfl, rfl, rfl, trivial⟩ rfl (fun _ _ => ?_)
    repeat' first
      | (refine kOps ?_; first | (refine LOps.nil ?_) | (refine LOps.ev tT_ok rfl ?_) | (refine kLen ?_; first | (refine LOps.ans (AnsL.lenS tT_ok rfl rfl rfl rfl) ?_)))
      | (refine kWL ?_; first | (refine WL.seq ?_) | (refine WL.region (by kernel_rfl) ?_) | (refine WL.exit ?_) | (refine WL.ret ?_) | (refine kCond ?_; first | (refine WL.condF rfl ?_)))
      | (refine lthen_n ?_)
      | (refine lthen_e ?_)
      | (refine lblock_e ?_)
      | (refine lback_e ?_)
      | (refine LPost.r1 (r := .tmp 4) (.inl rfl) (Res1.tmp rfl) ?_)
    exact ⟨rfl, (blk_nil t n).symm⟩
  · have hne := map_ne (f := Col.toV) he
    rw [thw_sl n 0 hne]
    refine VCalls.wf fun hwf => ?_
    have hlen : (ys.map Col.toV).length < 9223372036854775808 := slm_len hwf
    refine LCalls.body0 Tryz.func53 rfl (by kernel_rfl) ?_
    repeat' first
      | (refine kOps ?_; first | (refine LOps.nil ?_) | (refine LOps.ev tT_ok rfl ?_))
      | (refine kWL ?_; first | (refine WL.seq ?_) | (refine WL.region (by kernel_rfl) ?_) | (refine WL.block ?_))
      | (refine lthen_n ?_)
    refine WL.loopMark t n (ys.map Col.toV) k 2 (fun kk i => [(0, .slm .un (n + cvL (ys.map Col.toV)) 0 (ys.map Col.toV).length), (1, .int .i64 kk), (5, .int .i64 (i : Int))]) hne (cells_map (f := Col.toV) (n := 2) (fun _ => rfl) ys) hv hk0 hk ⟨rfl, rfl, rfl, trivial⟩ (fun i hi kk m A Z CA CZ hq hm hl h0 hb => ?_) ?_
    · simp only [List.getElem_map] at hl hb ⊢
      have hb' : kk + 1 + 1 ≤ 4000000000000 := hb
      generalize ys[i]'(by simpa using hi) = y at hl hb hb' ⊢
      repeat' first
        | (refine kStore ?_ ; first | (refine LOps.storeE tT_ok 0 hq rfl rfl rfl rfl rfl rfl rfl rfl ?_) | (refine LOps.storeE tT_ok 1 hq rfl rfl rfl rfl rfl rfl rfl rfl ?_))
        | (refine kOps ?_; first | (refine LOps.nil ?_) | (refine LOps.ev tT_ok rfl ?_) | (refine kBin ?_; first | (refine LOps.ans (AnsL.add rfl rfl ?_) ?_; (focus (constructor <;> omega)))) | (refine kIdx ?_; first | (refine LOps.ans (AnsL.idxM tT_ok rfl rfl rfl rfl rfl ?_) ?_; (focus (omega)))) | (refine kCallN 52 ?_; first | (refine LOps.ans (AnsL.callP rfl rfl rfl (ok52) (markText_v _ ?_ _)) ?_; (focus (omega)))))
        | (refine kWL ?_; first | (refine WL.seq ?_) | (refine WL.region (by kernel_rfl) ?_) | (refine WL.block ?_) | (refine WL.skip ?_) | (refine kCond ?_; first | (refine WL.condT' rfl ?_ ?_; (focus (first | (simp only [decide_eq_true_eq, decide_eq_false_iff_not, Bool.not_eq_true', Bool.not_eq_false', Int.ofNat_lt, Int.ofNat_le, Int.ofNat_inj, not_true_eq_false, not_false_eq_true]; omega))))))
        | (refine lthen_n ?_)
        | (refine lblock_n ?_)
      exact ⟨rfl, ⟨rfl, rfl, rfl, trivial⟩, rfl⟩
    · skip
      repeat' first
        | (refine lfin_e ?_)
        | (refine kOps ?_; first | (refine LOps.nil ?_) | (refine LOps.ev tT_ok rfl ?_))
        | (refine kWL ?_; first | (refine WL.seq ?_) | (refine WL.region (by kernel_rfl) ?_) | (refine WL.exit ?_) | (refine WL.ret ?_) | (refine kCond ?_; first | (refine WL.condF' rfl ?_ ?_; (focus (first | (simp only [decide_eq_true_eq, decide_eq_false_iff_not, Bool.not_eq_true', Bool.not_eq_false', Int.ofNat_lt, Int.ofNat_le, Int.ofNat_inj, not_true_eq_false, not_false_eq_true]; omega))))))
        | (refine lthen_n ?_)
        | (refine lthen_e ?_)
        | (refine lblock_e ?_)
        | (refine LPost.r1 (r := .tmp 4) (.inl rfl) (Res1.tmp rfl) ?_)
      exact ⟨rfl, rfl⟩
theorem heldColS_c (ys : List Col) (k : Int) (hk0 : 0 ≤ k) (hk : nk (.sl 0 (ys.map Col.toV)) k ≤ 4000000000000) (s : S) : VCalls Tryz.prog 54 [mkV (.sl 0 (ys.map Col.toV)) k, .int .i64 k] s (fun v s' => v = .int .i64 (nk (.sl 0 (ys.map Col.toV)) k) ∧ s' = s) := by
  refine VCalls.wf fun hwf => ?_
  have hlen : (mkL (ys.map Col.toV) k).length < 9223372036854775808 := sl_len hwf
  have hl2 : (mkL (ys.map Col.toV) k).length = (ys.map Col.toV).length := mkL_length _ _
  refine LCalls.pure Tryz.func54 rfl (by kernel_rfl) (by simp) ?_
  repeat' first
    | (refine kOps ?_; first | (refine LOps.nil ?_) | (refine LOps.ev tT_ok rfl ?_))
    | (refine kWL ?_; first | (refine WL.seq ?_) | (refine WL.region (by kernel_rfl) ?_) | (refine WL.block ?_))
    | (refine lthen_n ?_)
  refine WL.loopHeld (ys.map Col.toV) k (fun kk i => [(0, .sl 0 (mkL (ys.map Col.toV) k)), (1, .int .i64 kk), (5, .int .i64 (i : Int))]) hk0 hk ⟨rfl, rfl, rfl, trivial⟩ (fun i hi kk hg h0 hb => ?_) ?_
  · simp only [List.getElem_map] at hg hb ⊢
    have hb' : kk + 1 + 1 ≤ 4000000000000 := hb
    have hi2 : i < (mkL (ys.map Col.toV) k).length := by omega
    generalize ys[i]'(by simpa using hi) = y at hg hb hb' ⊢
    repeat' first
      | (refine kOps ?_; first | (refine LOps.nil ?_) | (refine LOps.ev tT_ok rfl ?_) | (refine kLen ?_; first | (refine LOps.ans (AnsL.lenG tT_ok rfl rfl rfl) ?_)) | (refine kBin ?_; first | (refine LOps.ans (AnsL.add rfl rfl ?_) ?_; (focus (constructor <;> omega)))) | (refine kIdx ?_; first | (refine LOps.ans (AnsL.idx tT_ok rfl rfl rfl rfl rfl hg rfl rfl) ?_)))
      | (refine kWL ?_; first | (refine WL.seq ?_) | (refine WL.region (by kernel_rfl) ?_) | (refine WL.drawn (id := 4) [0, 1, 2, 3, 4, 5, 6, 7] [] [[], [], [0, 1], [0, 1, 2], [0, 1, 2, 3], [], [5], [0, 1, 2, 3, 4, 5, 6]] (by kernel_rfl) (by kernel_rfl) ?_) | (refine WL.block ?_) | (refine WL.skip ?_) | (refine kCond ?_; first | (refine WL.condT' rfl ?_ ?_; (focus (first | (simp only [decide_eq_true_eq, decide_eq_false_iff_not, Bool.not_eq_true', Bool.not_eq_false', Int.ofNat_lt, Int.ofNat_le, Int.ofNat_inj, not_true_eq_false, not_false_eq_true]; omega)))) | (refine WL.condF' rfl ?_ ?_; (focus (first | (simp <;> fail))))))
      | (refine kDr ?_; first | (refine LDr.nil ?_) | (refine LDr.fl rfl rfl (.ev tT_ok rfl) ?_) | (refine kDIdx rfl ?_; first | (refine LDr.fl rfl rfl (AnsL.idx tT_ok rfl rfl rfl rfl rfl hg rfl rfl) ?_)) | (refine kDCallN 52 rfl ?_; first | (refine LDr.fl rfl rfl (AnsL.callP rfl rfl rfl (ok52) (markText_v _ ?_ _)) ?_; (focus (omega)))))
      | (refine lthen_n ?_)
      | (refine lblock_n ?_)
    exact ⟨rfl, ⟨rfl, rfl, rfl, trivial⟩, rfl⟩
  · skip
    repeat' first
      | (refine lfin_e ?_)
      | (refine kOps ?_; first | (refine LOps.nil ?_) | (refine LOps.ev tT_ok rfl ?_) | (refine kLen ?_; first | (refine LOps.ans (AnsL.lenG tT_ok rfl rfl rfl) ?_)))
      | (refine kWL ?_; first | (refine WL.seq ?_) | (refine WL.region (by kernel_rfl) ?_) | (refine WL.exit ?_) | (refine WL.ret ?_) | (refine kCond ?_; first | (refine WL.condF' rfl ?_ ?_; (focus (first | (simp only [decide_eq_true_eq, decide_eq_false_iff_not, Bool.not_eq_true', Bool.not_eq_false', Int.ofNat_lt, Int.ofNat_le, Int.ofNat_inj, not_true_eq_false, not_false_eq_true]; omega))))))
      | (refine lthen_n ?_)
      | (refine lthen_e ?_)
      | (refine lblock_e ?_)
      | (refine LPost.r1 (r := .tmp 4) (.inl rfl) (Res1.tmp rfl) ?_)
      | (refine PureR.mk ?_)
    rfl
theorem markTableS_c (ys : List Tab) : MarkC Tryz.prog 25 (.sl 0 (ys.map Tab.toV)) := by
  intro t n k hv hk0 hk
  by_cases he : ys = []
  · subst he
    refine LCalls.body0 Tryz.func25 rfl (by kernel_rfl) ?_
    repeat' first
      | (refine kOps ?_; first | (refine LOps.nil ?_) | (refine LOps.ev tT_ok rfl ?_))
      | (refine kWL ?_; first | (refine WL.seq ?_) | (refine WL.region (by kernel_rfl) ?_) | (refine WL.block ?_))
      | (refine lthen_n ?_)
    refine WL.loop0 (fun _ : Unit => 0) (fun _ => [(0, .sl 0 []), (1, .int .i64 k), (5, .int .i64 0)]) (fun _ => t) (fun _ => True) () trivial ⟨rfl, rfl, rfl, trivial⟩ rfl (fun _ _ => ?_)
    repeat' first
      | (refine kOps ?_; first | (refine LOps.nil ?_) | (refine LOps.ev tT_ok rfl ?_) | (refine kLen ?_; first | (refine LOps.ans (AnsL.lenS tT_ok rfl rfl rfl rfl) ?_)))
      | (refine kWL ?_; first | (refine WL.seq ?_) | (refine WL.region (by kernel_rfl) ?_) | (refine WL.exit ?_) | (refine WL.ret ?_) | (refine kCond ?_; first | (refine WL.condF rfl ?_)))
      | (refine lthen_n ?_)
      | (refine lthen_e ?_)
      | (refine lblock_e ?_)
      | (refine lback_e ?_)
      | (refine LPost.r1 (r := .tmp 4) (.inl rfl) (Res1.tmp rfl) ?_)
    exact ⟨rfl, (blk_nil t n).symm⟩
  · have hne := map_ne (f := Tab.toV) he
    rw [thw_sl n 0 hne]
    refine VCalls.wf fun hwf => ?_
    have hlen : (ys.map Tab.toV).length < 9223372036854775808 := slm_len hwf
    refine LCalls.body0 Tryz.func25 rfl (by kernel_rfl) ?_
    repeat' first
      | (refine kOps ?_; first | (refine LOps.nil ?_) | (refine LOps.ev tT_ok rfl ?_))
      | (refine kWL ?_; first | (refine WL.seq ?_) | (refine WL.region (by kernel_rfl) ?_) | (refine WL.block ?_))
      | (refine lthen_n ?_)
    refine WL.loopMark t n (ys.map Tab.toV) k 2 (fun kk i => [(0, .slm .un (n + cvL (ys.map Tab.toV)) 0 (ys.map Tab.toV).length), (1, .int .i64 kk), (5, .int .i64 (i : Int))]) hne (cells_map (f := Tab.toV) (n := 2) (fun _ => rfl) ys) hv hk0 hk ⟨rfl, rfl, rfl, trivial⟩ (fun i hi kk m A Z CA CZ hq hm hl h0 hb => ?_) ?_
    · simp only [List.getElem_map] at hl hb ⊢
      have hb' : nk (.sl 0 ((ys[i]'(by simpa using hi)).cols.map Col.toV)) (kk + 1) ≤ 4000000000000 := hb
      generalize ys[i]'(by simpa using hi) = y at hl hb hb' ⊢
      have hbs : nk (.sl 0 (y.cols.map Col.toV)) (kk + 1) ≤ 4000000000000 := by exact hb'
      have hnk := nk_le (.sl 0 (y.cols.map Col.toV)) (kk + 1)
      have hE : (thw m (Tab.toV y)).2 = (thw m (.sl 0 (y.cols.map Col.toV))).2 := by simp only [Tab.toV, thw_agg, thwL_nil, thwL_int, thwL_str, thwL_bool, thwL_sl, thwL_mk, mk_agg, mkL_nil, mkL_int, mkL_str, mkL_bool, mkL_sl, V.cells, List.append_nil, List.nil_append]
      have hC : (thw m (Tab.toV y)).1.cells = [.str y.name, (thw m (.sl 0 (y.cols.map Col.toV))).1] := by simp only [Tab.toV, thw_agg, thwL_nil, thwL_int, thwL_str, thwL_bool, thwL_sl, thwL_mk, mk_agg, mkL_nil, mkL_int, mkL_str, mkL_bool, mkL_sl, V.cells, List.append_nil, List.nil_append]
      have hE2 : (thw m (mkV (Tab.toV y) kk)).2 = (thw m (mkV (.sl 0 (y.cols.map Col.toV)) (kk + 1))).2 := by simp only [Tab.toV, thw_agg, thwL_nil, thwL_int, thwL_str, thwL_bool, thwL_sl, thwL_mk, mk_agg, mkL_nil, mkL_int, mkL_str, mkL_bool, mkL_sl, V.cells, List.append_nil, List.nil_append]
      have hC2 : (thw m (mkV (Tab.toV y) kk)).1.cells = [.str (mt (kk)), (thw m (.sl 0 (y.cols.map Col.toV))).1] := by simp only [Tab.toV, thw_agg, thwL_nil, thwL_int, thwL_str, thwL_bool, thwL_sl, thwL_mk, mk_agg, mkL_nil, mkL_int, mkL_str, mkL_bool, mkL_sl, V.cells, List.append_nil, List.nil_append]
      have hcv : cv (Tab.toV y) = cv (.sl 0 (y.cols.map Col.toV)) := by simp only [Tab.toV, cv, cvL, Nat.zero_add, Nat.add_zero]
      rw [hE, hC, hE2, hC2]
      rw [hcv] at hl
      repeat' first
        | (refine kStore ?_ ; first | (refine LOps.storeE tT_ok 0 hq rfl rfl rfl rfl rfl rfl rfl rfl ?_))
        | (refine kCallN 53 ?_ ; refine LOps.markE rfl rfl ok53 (markColS_c y.cols) rfl hm hl ?_ hbs ?_ ; (focus (omega)))
        | (refine kOps ?_; first | (refine LOps.nil ?_) | (refine LOps.ev tT_ok rfl ?_) | (refine kLoad ?_; first | (refine LOps.ans (AnsL.loadE tT_ok 1 hq rfl rfl rfl rfl) ?_)) | (refine kBin ?_; first | (refine LOps.ans (AnsL.add rfl rfl ?_) ?_; (focus (constructor <;> omega)))) | (refine kIdx ?_; first | (refine LOps.ans (AnsL.idxM tT_ok rfl rfl rfl rfl rfl ?_) ?_; (focus (omega)))) | (refine kCallN 52 ?_; first | (refine LOps.ans (AnsL.callP rfl rfl rfl (ok52) (markText_v _ ?_ _)) ?_; (focus (omega)))))
        | (refine kWL ?_; first | (refine WL.seq ?_) | (refine WL.region (by kernel_rfl) ?_) | (refine WL.block ?_) | (refine WL.skip ?_) | (refine kCond ?_; first | (refine WL.condT' rfl ?_ ?_; (focus (first | (simp only [decide_eq_true_eq, decide_eq_false_iff_not, Bool.not_eq_true', Bool.not_eq_false', Int.ofNat_lt, Int.ofNat_le, Int.ofNat_inj, not_true_eq_false, not_false_eq_true]; omega))))))
        | (refine lthen_n ?_)
        | (refine lblock_n ?_)
      exact ⟨rfl, ⟨rfl, rfl, rfl, trivial⟩, rfl⟩
    · skip
      repeat' first
        | (refine lfin_e ?_)
        | (refine kOps ?_; first | (refine LOps.nil ?_) | (refine LOps.ev tT_ok rfl ?_))
        | (refine kWL ?_; first | (refine WL.seq ?_) | (refine WL.region (by kernel_rfl) ?_) | (refine WL.exit ?_) | (refine WL.ret ?_) | (refine kCond ?_; first | (refine WL.condF' rfl ?_ ?_; (focus (first | (simp only [decide_eq_true_eq, decide_eq_false_iff_not, Bool.not_eq_true', Bool.not_eq_false', Int.ofNat_lt, Int.ofNat_le, Int.ofNat_inj, not_true_eq_false, not_false_eq_true]; omega))))))
        | (refine lthen_n ?_)
        | (refine lthen_e ?_)
        | (refine lblock_e ?_)
        | (refine LPost.r1 (r := .tmp 4) (.inl rfl) (Res1.tmp rfl) ?_)
      exact ⟨rfl, rfl⟩
theorem heldTableS_c (ys : List Tab) (k : Int) (hk0 : 0 ≤ k) (hk : nk (.sl 0 (ys.map Tab.toV)) k ≤ 4000000000000) (s : S) : VCalls Tryz.prog 26 [mkV (.sl 0 (ys.map Tab.toV)) k, .int .i64 k] s (fun v s' => v = .int .i64 (nk (.sl 0 (ys.map Tab.toV)) k) ∧ s' = s) := by
  refine VCalls.wf fun hwf => ?_
  have hlen : (mkL (ys.map Tab.toV) k).length < 9223372036854775808 := sl_len hwf
  have hl2 : (mkL (ys.map Tab.toV) k).length = (ys.map Tab.toV).length := mkL_length _ _
  refine LCalls.pure Tryz.func26 rfl (by kernel_rfl) (by simp) ?_
  repeat' first
    | (refine kOps ?_; first | (refine LOps.nil ?_) | (refine LOps.ev tT_ok rfl ?_))
    | (refine kWL ?_; first | (refine WL.seq ?_) | (refine WL.region (by kernel_rfl) ?_) | (refine WL.block ?_))
    | (refine lthen_n ?_)
  refine WL.loopHeld (ys.map Tab.toV) k (fun kk i => [(0, .sl 0 (mkL (ys.map Tab.toV) k)), (1, .int .i64 kk), (5, .int .i64 (i : Int))]) hk0 hk ⟨rfl, rfl, rfl, trivial⟩ (fun i hi kk hg h0 hb => ?_) ?_
  · simp only [List.getElem_map] at hg hb ⊢
    have hb' : nk (.sl 0 ((ys[i]'(by simpa using hi)).cols.map Col.toV)) (kk + 1) ≤ 4000000000000 := hb
    have hi2 : i < (mkL (ys.map Tab.toV) k).length := by omega
    generalize ys[i]'(by simpa using hi) = y at hg hb hb' ⊢
    have hbs : nk (.sl 0 (y.cols.map Col.toV)) (kk + 1) ≤ 4000000000000 := by exact hb'
    have hnk := nk_le (.sl 0 (y.cols.map Col.toV)) (kk + 1)
    repeat' first
      | (refine kOps ?_; first | (refine LOps.nil ?_) | (refine LOps.ev tT_ok rfl ?_) | (refine kLen ?_; first | (refine LOps.ans (AnsL.lenG tT_ok rfl rfl rfl) ?_)) | (refine kBin ?_; first | (refine LOps.ans (AnsL.add rfl rfl ?_) ?_; (focus (constructor <;> omega)))) | (refine kIdx ?_; first | (refine LOps.ans (AnsL.idx tT_ok rfl rfl rfl rfl rfl hg rfl rfl) ?_)) | (refine kCallN 54 ?_; first | (refine LOps.ans (AnsL.callP rfl rfl rfl (ok54) (heldColS_c y.cols _ ?_ hbs _)) ?_; (focus (omega)))))
      | (refine kWL ?_; first | (refine WL.seq ?_) | (refine WL.region (by kernel_rfl) ?_) | (refine WL.drawn (id := 4) [0, 1, 2, 3, 4, 5, 6, 7] [] [[], [], [0, 1], [0, 1, 2], [0, 1, 2, 3], [], [5], [0, 1, 2, 3, 4, 5, 6]] (by kernel_rfl) (by kernel_rfl) ?_) | (refine WL.block ?_) | (refine WL.skip ?_) | (refine kCond ?_; first | (refine WL.condT' rfl ?_ ?_; (focus (first | (simp only [decide_eq_true_eq, decide_eq_false_iff_not, Bool.not_eq_true', Bool.not_eq_false', Int.ofNat_lt, Int.ofNat_le, Int.ofNat_inj, not_true_eq_false, not_false_eq_true]; omega)))) | (refine WL.condF' rfl ?_ ?_; (focus (first | (simp only [decide_eq_true_eq, decide_eq_false_iff_not, Bool.not_eq_true', Bool.not_eq_false', Int.ofNat_lt, Int.ofNat_le, Int.ofNat_inj, not_true_eq_false, not_false_eq_true]; omega) | (simp <;> fail))))))
      | (refine kDr ?_; first | (refine LDr.nil ?_) | (refine LDr.fl rfl rfl (.ev tT_ok rfl) ?_) | (refine kDIdx rfl ?_; first | (refine LDr.fl rfl rfl (AnsL.idx tT_ok rfl rfl rfl rfl rfl hg rfl rfl) ?_)) | (refine kDCallN 52 rfl ?_; first | (refine LDr.fl rfl rfl (AnsL.callP rfl rfl rfl (ok52) (markText_v _ ?_ _)) ?_; (focus (omega)))))
      | (refine lthen_n ?_)
      | (refine lblock_n ?_)
    exact ⟨rfl, ⟨rfl, rfl, rfl, trivial⟩, rfl⟩
  · skip
    repeat' first
      | (refine lfin_e ?_)
      | (refine kOps ?_; first | (refine LOps.nil ?_) | (refine LOps.ev tT_ok rfl ?_) | (refine kLen ?_; first | (refine LOps.ans (AnsL.lenG tT_ok rfl rfl rfl) ?_)))
      | (refine kWL ?_; first | (refine WL.seq ?_) | (refine WL.region (by kernel_rfl) ?_) | (refine WL.exit ?_) | (refine WL.ret ?_) | (refine kCond ?_; first | (refine WL.condF' rfl ?_ ?_; (focus (first | (simp only [decide_eq_true_eq, decide_eq_false_iff_not, Bool.not_eq_true', Bool.not_eq_false', Int.ofNat_lt, Int.ofNat_le, Int.ofNat_inj, not_true_eq_false, not_false_eq_true]; omega))))))
      | (refine lthen_n ?_)
      | (refine lthen_e ?_)
      | (refine lblock_e ?_)
      | (refine LPost.r1 (r := .tmp 4) (.inl rfl) (Res1.tmp rfl) ?_)
      | (refine PureR.mk ?_)
    rfl
theorem markCatalog_c (y : Cat) (t : S) (n : Nat) (k : Int) (hv : HasV t n (thw n y.toV).2) (hn : n + cv y.toV ≤ t.next) (h0 : 0 ≤ k) (hb : nk (.sl 0 (y.tables.map Tab.toV)) k ≤ 4000000000000) :
    VCalls Tryz.prog 7 [(thw n y.toV).1, .int .i64 k] t (fun v t' => v = .int .i64 (nk (.sl 0 (y.tables.map Tab.toV)) k) ∧ t' = t.blk n (thw n (mkV (.sl 0 (y.tables.map Tab.toV)) k)).2) := by
  have hE : (thw n y.toV).2 = (thw n (.sl 0 (y.tables.map Tab.toV))).2 := by simp only [Cat.toV, thw_agg, thwL_nil, thwL_int, thwL_str, thwL_bool, thwL_sl, thwL_mk, mk_agg, mkL_nil, mkL_int, mkL_str, mkL_bool, mkL_sl, V.cells, List.append_nil, List.nil_append]
  have hC : (thw n y.toV).1 = .agg [(thw n (.sl 0 (y.tables.map Tab.toV))).1] := by simp only [Cat.toV, thw_agg, thwL_nil, thwL_int, thwL_str, thwL_bool, thwL_sl, thwL_mk, mk_agg, mkL_nil, mkL_int, mkL_str, mkL_bool, mkL_sl, V.cells, List.append_nil, List.nil_append]
  have hcv : cv y.toV = cv (.sl 0 (y.tables.map Tab.toV)) := by simp only [Cat.toV, cv, cvL, Nat.zero_add, Nat.add_zero]
  rw [hE] at hv
  rw [hcv] at hn
  rw [hC]
  refine VCalls.dropB rfl (mk_plain _ _ (plain_TableS _)) (by rw [mk_cv]; exact hn) ?_
  refine LCalls.body Tryz.func7 rfl (by kernel_rfl) ?_
  repeat' first
    | (refine kCallN 25 ?_ ; refine LOps.markX rfl rfl ok25 (markTableS_c y.tables) rfl hv hn h0 hb ?_)
    | (refine kOps ?_; first | (refine LOps.nil ?_) | (refine LOps.ev tT_ok rfl ?_) | (refine kBox ?_; refine LOps.box rfl rfl rfl rfl ?_) | (refine kLoad ?_; first | (refine LOps.ans (AnsL.loadP tT_ok rfl rfl rfl rfl) ?_)))
    | (refine kWL ?_; first | (refine WL.seq ?_) | (refine WL.region (by kernel_rfl) ?_) | (refine WL.ret ?_))
    | (refine lthen_n ?_)
    | (refine LPost.r1 (r := .tmp 4) (.inl rfl) (Res1.tmp rfl) ?_)
  exact ⟨rfl, _, rfl⟩
theorem heldCatalog_c (y : Cat) (k : Int) (h0 : 0 ≤ k) (hb : nk (.sl 0 (y.tables.map Tab.toV)) k ≤ 4000000000000) (s : S) :
    VCalls Tryz.prog 8 [.agg [mkV (.sl 0 (y.tables.map Tab.toV)) k], .int .i64 k] s (fun v s' => v = .int .i64 (nk (.sl 0 (y.tables.map Tab.toV)) k) ∧ s' = s) := by
  have hnk := nk_le (.sl 0 (y.tables.map Tab.toV)) k
  refine LCalls.pure Tryz.func8 rfl (by kernel_rfl) (by simp) ?_
  repeat' first
    | (refine kOps ?_; first | (refine LOps.nil ?_) | (refine LOps.ev tT_ok rfl ?_) | (refine kBox ?_; refine LOps.box rfl rfl rfl rfl ?_) | (refine kLoad ?_; first | (refine LOps.ans (AnsL.loadP tT_ok rfl rfl rfl rfl) ?_)) | (refine kCallN 26 ?_; first | (refine LOps.ans (AnsL.callP rfl rfl rfl (ok26) (heldTableS_c y.tables _ ?_ hb _)) ?_; (focus (omega)))))
    | (refine kWL ?_; first | (refine WL.seq ?_) | (refine WL.region (by kernel_rfl) ?_) | (refine WL.skip ?_) | (refine WL.ret ?_) | (refine kCond ?_; first | (refine WL.condF' rfl ?_ ?_; (focus (first | (simp only [decide_eq_true_eq, decide_eq_false_iff_not, Bool.not_eq_true', Bool.not_eq_false', Int.ofNat_lt, Int.ofNat_le, Int.ofNat_inj, not_true_eq_false, not_false_eq_true]; omega))))))
    | (refine lthen_n ?_)
    | (refine LPost.r1 (r := .tmp 4) (.inl rfl) (Res1.tmp rfl) ?_)
    | (refine PureR.mk ?_)
  rfl
theorem markColS_t (ys : List Col) : MarkT Tryz.prog 53 (.sl 0 (ys.map Col.toV)) := (markColS_c ys).toT
theorem heldColS_t (ys : List Col) : HeldT Tryz.prog 54 (.sl 0 (ys.map Col.toV)) := fun k s h0 hb => heldColS_c ys k h0 hb s
theorem markTableS_t (ys : List Tab) : MarkT Tryz.prog 25 (.sl 0 (ys.map Tab.toV)) := (markTableS_c ys).toT
theorem heldTableS_t (ys : List Tab) : HeldT Tryz.prog 26 (.sl 0 (ys.map Tab.toV)) := fun k s h0 hb => heldTableS_c ys k h0 hb s
theorem markCatalog_t (y : Cat) : MarkT Tryz.prog 7 y.toV := by
  intro t n k hv hn h0 hb
  have e1 : nkT y.toV k = nk (.sl 0 (y.tables.map Tab.toV)) k := by simp only [Cat.toV, nkT, nkTL, nk]
  have e2 : (thw n (mkT y.toV k)).2 = (thw n (mkV (.sl 0 (y.tables.map Tab.toV)) k)).2 := by
    simp only [Cat.toV, mkT, mkTL, nkT, mkV, thw_agg, thwL_nil, thwL_int, thwL_str, thwL_bool, thwL_sl, List.append_nil, List.nil_append]
  rw [e1] at hb
  rw [e1, e2]
  exact markCatalog_c y t n k hv hn h0 hb
theorem heldCatalog_t (y : Cat) : HeldT Tryz.prog 8 y.toV := by
  intro k s h0 hb
  have e1 : nkT y.toV k = nk (.sl 0 (y.tables.map Tab.toV)) k := by simp only [Cat.toV, nkT, nkTL, nk]
  rw [e1] at hb
  rw [e1]
  exact heldCatalog_c y k h0 hb s

end Go.Proofs.YtbnbmcplmipgdaaGreatDoor
