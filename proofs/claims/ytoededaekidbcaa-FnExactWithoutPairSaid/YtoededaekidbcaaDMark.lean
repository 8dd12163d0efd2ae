/-
  What marks data and what finds it marked. Own work; no condition.
-/
import Derived.Test.YtoededaekidbcaaVFill
import Derived.Test.YtoededaekidbcaaDScope
namespace Go.Proofs.Ytoededaekidbcaa
open Go
set_option linter.unusedSimpArgs false
set_option linter.unusedVariables false

@[simp] theorem nk_int' (i : IntKind) (n k : Int) : nk (.int i n) k = k + 1 := by simp only [nk]
@[simp] theorem nk_bool' (b : Bool) (k : Int) : nk (.bool b) k = k + 1 := by simp only [nk]
@[simp] theorem nk_str' (b : List UInt8) (k : Int) : nk (.str b) k = k + 1 := by simp only [nk]
section
variable {P : Program} {L : Kn} {s : S} {tt : BT}
theorem AnsL.toStr (ht : tt.ok P) {U T e : TypeId} {u t te : Ty} {x : Operand} {id : Nat} {us : List V} {bs : List UInt8} (hx : opd L x = some (.sl id us)) (hU : tt.get U = some u) (hku : u.kd = .slice e) (hT : tt.get T = some t) (hkt : t.kd = .string)
    (hte : tt.get e = some te) (hke : te.kd = .int .u8) (hsz : Nat.beq te.size 1 = true) (hb : vbytes us = some bs) : AnsL P (.convert U T x) L s (.str bs) :=
  .of fun σ hσ _ _ _ _ _ => by
    have h1 : te.size = 1 := Nat.eq_of_beq_eq_true hsz
    simp only [vop, opd_eq hσ hx, vconvert, vtoStr, ht.get hU, ht.get hT, hku, hkt, ht.get hte, hke, h1, if_true, elemsOf, hb, Option.bind_some, Option.map_some]
end

theorem mtA_pos (f : Nat) {k : Int} (out : List UInt8) (h : 0 < k) : mtA (f + 1) k out = mtA f (IntKind.i64.wrap (k.tdiv 10)) (UInt8.ofNat (IntKind.u8.wrap (IntKind.i64.wrap (48 + k.tmod 10))).toNat :: out) := by
  rw [mtA, if_pos h]

theorem markText_v (k : Int) (hk : k ≤ 4000000000000) (s : S) : VCalls Try.prog 32 [.int .i64 k] s (fun v s' => v = .str (mt k) ∧ s' = s) := by
  refine LCalls.pure Try.func32 rfl (by kernel_rfl) (by simp) ?_
  by_cases hk0 : k ≤ 0
  · skip
    repeat' first
      | (refine kOps ?_; first | (refine LOps.nil ?_) | (refine LOps.ev tT_ok rfl ?_))
      | (refine kWL ?_; first | (refine WL.seq ?_) | (refine WL.region (by kernel_rfl) ?_) | (refine WL.ret ?_) | (refine kCond ?_; first | (refine WL.condT' rfl ?_ ?_; (focus (first | (exact decide_eq_true (by assumption)))))))
      | (refine lthen_n ?_)
      | (refine lthen_r ?_)
      | (refine LPost.r1 (r := .tmp 2) (.inl rfl) (Res1.tmp rfl) ?_)
      | (refine PureR.mk ?_)
    simp [mt, hk0]
  repeat' first
    | (refine kOps ?_; first | (refine LOps.nil ?_) | (refine LOps.ev tT_ok rfl ?_))
    | (refine kWL ?_; first | (refine WL.seq ?_) | (refine WL.region (by kernel_rfl) ?_) | (refine WL.block ?_) | (refine WL.skip ?_) | (refine kCond ?_; first | (refine WL.condF' rfl ?_ ?_; (focus (first | (exact decide_eq_false (by assumption)))))))
    | (refine lthen_n ?_)
  refine WL.loopD (fun x : Nat × Int × List UInt8 => x.1) (fun x => [(0, .int .i64 x.2.1), (3, .str x.2.2)]) (fun _ => [])
    (fun x => mtA 20 k [] = mtA x.1 x.2.1 x.2.2 ∧ 0 ≤ x.2.1 ∧ x.2.1 < 10 ^ x.1 ∧ x.2.2.length + x.1 ≤ 20 ∧ x.2.1 ≤ 4000000000000) 0 (20, k, []) ⟨rfl, by show 0 ≤ k; omega, by show k < (10 : Int) ^ 20; rw [show (10 : Int) ^ 20 = 100000000000000000000 by decide]; omega, by simp, hk⟩ (fun _ => rfl) ⟨rfl, rfl, trivial⟩ rfl (fun x hx => ?_) (fun x hx => ?_)
  · simp [UnderK, UnderX, V.under]
  obtain ⟨f, k', out⟩ := x
  obtain ⟨h1, h2, h3, h4, h5⟩ := hx
  simp only at h1 h2 h3 h4 h5
  by_cases hp : 0 < k'
  · cases f with
    | zero => simp at h3; omega
    | succ f =>
      have hm : 0 ≤ k'.tmod 10 ∧ k'.tmod 10 < 10 := by rw [Int.tmod_eq_emod_of_nonneg h2]; omega
      have hw : IntKind.i64.wrap (k'.tdiv 10) = k' / 10 := by rw [Int.tdiv_eq_ediv_of_nonneg h2, wrap_in]; unfold In64; omega
      rw [mtA_pos f out hp] at h1
      have hgt : decide (k' > 0) = true := by simpa using hp
      have h6 : IntKind.i64.wrap (k'.tdiv 10) < 10 ^ f := by rw [Int.pow_succ] at h3; omega
      have h7 : 0 ≤ IntKind.i64.wrap (k'.tdiv 10) ∧ IntKind.i64.wrap (k'.tdiv 10) ≤ 4000000000000 := by omega
      clear hw
      repeat' first
        | (refine LOps.ans (AnsL.toStr tT_ok rfl rfl rfl rfl rfl rfl rfl rfl rfl) ?_)
        | (refine kOps ?_; first | (refine LOps.nil ?_) | (refine LOps.ev tT_ok rfl ?_) | (refine kBsl ?_; first | (refine LOps.bsl tT_ok rfl rfl rfl rfl rfl rfl rfl rfl rfl rfl rfl ?_)) | (refine kBin ?_; first | (refine LOps.ans (AnsL.cat rfl rfl ?_) ?_; (focus (exact le_maxLen (by simp <;> omega)))) | (refine LOps.ans (AnsL.arith rfl rfl rfl) ?_)))
        | (refine kWL ?_; first | (refine WL.seq ?_) | (refine WL.region (by kernel_rfl) ?_) | (refine WL.block ?_) | (refine WL.skip ?_) | (refine kCond ?_; first | (refine WL.condT' rfl ?_ ?_; (focus (first | (assumption))))))
        | (refine lthen_n ?_)
        | (refine lblock_n ?_)
      refine lbackD.of (f, IntKind.i64.wrap (k'.tdiv 10), UInt8.ofNat (IntKind.u8.wrap (IntKind.i64.wrap (48 + k'.tmod 10))).toNat :: out) ⟨h1, h7.1, h6, by simp only [List.length_cons]; omega, h7.2⟩ (by simp) ⟨rfl, rfl, trivial⟩ rfl
  · have hgt : decide (k' > 0) = false := by simpa using hp
    have h6 : mtA f k' out = out := by cases f <;> simp [mtA, hp]
    repeat' first
      | (refine kOps ?_; first | (refine LOps.nil ?_) | (refine LOps.ev tT_ok rfl ?_) | (refine kBin ?_; first | (refine LOps.ans (AnsL.cat rfl rfl ?_) ?_; (focus (exact le_maxLen (by simp <;> omega))))))
      | (refine kWL ?_; first | (refine WL.seq ?_) | (refine WL.region (by kernel_rfl) ?_) | (refine WL.exit ?_) | (refine WL.ret ?_) | (refine kCond ?_; first | (refine WL.condF' rfl ?_ ?_; (focus (first | (assumption))))))
      | (refine lthen_n ?_)
      | (refine lthen_e ?_)
      | (refine lblock_e ?_)
      | (refine lbackD_e ?_)
      | (refine LPost.r1 (r := .tmp 2) (.inl rfl) (Res1.tmp rfl) ?_)
      | (refine PureR.mk ?_)
    simp [mt, hk0, h1, h6]

theorem slm_len {x : Cp} {l o n : Nat} {k : V} (h : [V.slm x l o n, k].all V.wf = true) : n < 9223372036854775808 := by
  rw [List.all_cons, Bool.and_eq_true] at h
  have h1 : n ≤ maxLen := of_decide_eq_true h.1
  unfold maxLen at h1
  omega
theorem map_ne {α : Type} {f : α → V} {l : List α} (h : ¬ l = []) : (l.map f).isEmpty = false := by cases l <;> simp_all
theorem sl_len {id : Nat} {xs : List V} {k : V} (h : [V.sl id xs, k].all V.wf = true) : xs.length < 9223372036854775808 := by
  rw [List.all_cons, Bool.and_eq_true] at h
  have h2 := h.1
  simp only [V.wf, Bool.and_eq_true] at h2
  have h1 : xs.length ≤ maxLen := of_decide_eq_true h2.1
  unfold maxLen at h1
  omega
theorem thw_sl_cells (n i : Nat) (xs : List V) : (thw n (.sl i xs)).1.cells = [(thw n (.sl i xs)).1] := by
  unfold thw
  cases xs.isEmpty <;> rfl

theorem plainL_cons {v : V} {vs : List V} (h1 : v.plain = true) (h2 : V.plainL vs = true) : V.plainL (v :: vs) = true := by simp only [V.plainL, h1, h2, Bool.and_self]
theorem plain_IntS (l : List Int) : V.plain (.sl 0 (l.map iV)) = true := plain_map (f := iV) 1 (fun _ => rfl) (fun _ => rfl) l
theorem plain_StringS (l : List (List UInt8)) : V.plain (.sl 0 (l.map sV)) = true := plain_map (f := sV) 1 (fun _ => rfl) (fun _ => rfl) l
theorem plain_ValueS (l : List Val) : V.plain (.sl 0 (l.map Val.toV)) = true := plain_map (f := Val.toV) 3 (fun x => (plainL_cons rfl (plainL_cons rfl (plainL_cons rfl rfl)))) (fun _ => rfl) l
theorem plain_ColS (l : List Col) : V.plain (.sl 0 (l.map Col.toV)) = true := plain_map (f := Col.toV) 2 (fun x => (plainL_cons rfl (plainL_cons rfl rfl))) (fun _ => rfl) l
theorem plain_NamedS (l : List Named) : V.plain (.sl 0 (l.map Named.toV)) = true := plain_map (f := Named.toV) 3 (fun x => (plainL_cons rfl (plainL_cons rfl (plainL_cons rfl rfl)))) (fun _ => rfl) l
theorem plain_BindS (l : List Bind) : V.plain (.sl 0 (l.map Bind.toV)) = true := plain_map (f := Bind.toV) 3 (fun x => (plainL_cons rfl (plainL_cons rfl (plainL_cons rfl rfl)))) (fun _ => rfl) l
theorem plain_TokenS (l : List Token) : V.plain (.sl 0 (l.map Token.toV)) = true := plain_map (f := Token.toV) 3 (fun x => (plainL_cons rfl (plainL_cons rfl (plainL_cons rfl rfl)))) (fun _ => rfl) l
theorem plain_IntSS (l : List (List Int)) : V.plain (.sl 0 (l.map ints)) = true := plain_map (f := ints) 1 (fun x => plain_IntS x) (fun _ => rfl) l
theorem plain_ValueSS (l : List (List Val)) : V.plain (.sl 0 (l.map Val.toVS)) = true := plain_map (f := Val.toVS) 1 (fun x => plain_ValueS x) (fun _ => rfl) l
theorem plain_TableS (l : List Tab) : V.plain (.sl 0 (l.map Tab.toV)) = true := plain_map (f := Tab.toV) 2 (fun x => (plainL_cons rfl (plainL_cons (plain_ColS x.cols) rfl))) (fun _ => rfl) l
theorem plain_DataS (l : List Data) : V.plain (.sl 0 (l.map Data.toV)) = true := plain_map (f := Data.toV) 1 (fun x => (plainL_cons (plain_ValueSS x.rows) rfl)) (fun _ => rfl) l
theorem plain_ScopeS (l : List Scope) : V.plain (.sl 0 (l.map Scope.toV)) = true := plain_map (f := Scope.toV) 1 (fun x => (plainL_cons (plain_NamedS x.names) rfl)) (fun _ => rfl) l
theorem markIntS_c (ys : List Int) : MarkC Try.prog 33 (.sl 0 (ys.map iV)) := by
  intro t n k hv hk0 hk
  by_cases he : ys = []
  · subst he
    refine LCalls.body0 Try.func33 rfl (by kernel_rfl) ?_
    repeat' first
      | (refine kOps ?_; first | (refine LOps.nil ?_) | (refine LOps.ev tT_ok rfl ?_))
      | (refine kWL ?_; first | (refine WL.seq ?_) | (refine WL.region (by kernel_rfl) ?_) | (refine WL.block ?_))
      | (refine lthen_n ?_)
    refine WL.loop0 (fun _ : Unit => 0) (fun _ => [(0, .sl 0 []), (1, .int .i64 k), (5, .int .i64 0)]) (fun _ => t) (fun _ => True) () trivial ⟨rfl, rfl, rfl, trivial⟩ rfl (fun _ _ => ?_)
    repeat' first
      | (refine kOps ?_; first | (refine LOps.nil ?_) | (refine LOps.ev tT_ok rfl ?_) | (refine kLen ?_; first | (refine LOps.ans (AnsL.lenS tT_ok rfl rfl rfl rfl) ?_)))
      | (refine kWL ?_; first | (refine WL.seq ?_) | (refine WL.region (by kernel_rfl) ?_) | (refine WL.exit ?_) | (refine WL.ret ?_) | (refine kCond ?_; first | (refine WL.condF rfl ?_)))
      | (refine lthen_n ?_)
      | (refine lthen_e ?_)
      | (refine lblock_e ?_)
      | (refine lback_e ?_)
      | (refine LPost.r1 (r := .tmp 4) (.inl rfl) (Res1.tmp rfl) ?_)
    exact ⟨rfl, (blk_nil t n).symm⟩
  · have hne := map_ne (f := iV) he
    rw [thw_sl n 0 hne]
    refine VCalls.wf fun hwf => ?_
    have hlen : (ys.map iV).length < 9223372036854775808 := slm_len hwf
    refine LCalls.body0 Try.func33 rfl (by kernel_rfl) ?_
    repeat' first
      | (refine kOps ?_; first | (refine LOps.nil ?_) | (refine LOps.ev tT_ok rfl ?_))
      | (refine kWL ?_; first | (refine WL.seq ?_) | (refine WL.region (by kernel_rfl) ?_) | (refine WL.block ?_))
      | (refine lthen_n ?_)
    refine WL.loopMark t n (ys.map iV) k 1 (fun kk i => [(0, .slm .un (n + cvL (ys.map iV)) 0 (ys.map iV).length), (1, .int .i64 kk), (5, .int .i64 (i : Int))]) hne (cells_map (f := iV) (n := 1) (fun _ => rfl) ys) hv hk0 hk ⟨rfl, rfl, rfl, trivial⟩ (fun i hi kk m A Z CA CZ hq hm hl h0 hb => ?_) ?_
    · simp only [List.getElem_map] at hl hb ⊢
      have hb' : kk + 1 ≤ 4000000000000 := hb
      generalize ys[i]'(by simpa using hi) = y at hl hb hb' ⊢
      repeat' first
        | (refine kStore ?_ ; first | (refine LOps.storeE tT_ok 0 hq rfl rfl rfl rfl rfl rfl rfl rfl ?_))
        | (refine kOps ?_; first | (refine LOps.nil ?_) | (refine LOps.ev tT_ok rfl ?_) | (refine kBin ?_; first | (refine LOps.ans (AnsL.add rfl rfl ?_) ?_; (focus (constructor <;> omega)))) | (refine kIdx ?_; first | (refine LOps.ans (AnsL.idxM tT_ok rfl rfl rfl rfl rfl ?_) ?_; (focus (omega)))))
        | (refine kWL ?_; first | (refine WL.seq ?_) | (refine WL.region (by kernel_rfl) ?_) | (refine WL.block ?_) | (refine WL.skip ?_) | (refine kCond ?_; first | (refine WL.condT' rfl ?_ ?_; (focus (first | (simp only [decide_eq_true_eq, decide_eq_false_iff_not, Bool.not_eq_true', Bool.not_eq_false', Int.ofNat_lt, Int.ofNat_le, Int.ofNat_inj, not_true_eq_false, not_false_eq_true]; omega))))))
        | (refine lthen_n ?_)
        | (refine lblock_n ?_)
      exact ⟨rfl, ⟨rfl, rfl, rfl, trivial⟩, rfl⟩
    · skip
      repeat' first
        | (refine lfin_e ?_)
        | (refine kOps ?_; first | (refine LOps.nil ?_) | (refine LOps.ev tT_ok rfl ?_))
        | (refine kWL ?_; first | (refine WL.seq ?_) | (refine WL.region (by kernel_rfl) ?_) | (refine WL.exit ?_) | (refine WL.ret ?_) | (refine kCond ?_; first | (refine WL.condF' rfl ?_ ?_; (focus (first | (simp only [decide_eq_true_eq, decide_eq_false_iff_not, Bool.not_eq_true', Bool.not_eq_false', Int.ofNat_lt, Int.ofNat_le, Int.ofNat_inj, not_true_eq_false, not_false_eq_true]; omega))))))
        | (refine lthen_n ?_)
        | (refine lthen_e ?_)
        | (refine lblock_e ?_)
        | (refine LPost.r1 (r := .tmp 4) (.inl rfl) (Res1.tmp rfl) ?_)
      exact ⟨rfl, rfl⟩
theorem heldIntS_c (ys : List Int) (k : Int) (hk0 : 0 ≤ k) (hk : nk (.sl 0 (ys.map iV)) k ≤ 4000000000000) (s : S) : VCalls Try.prog 34 [mkV (.sl 0 (ys.map iV)) k, .int .i64 k] s (fun v s' => v = .int .i64 (nk (.sl 0 (ys.map iV)) k) ∧ s' = s) := by
  refine VCalls.wf fun hwf => ?_
  have hlen : (mkL (ys.map iV) k).length < 9223372036854775808 := sl_len hwf
  have hl2 : (mkL (ys.map iV) k).length = (ys.map iV).length := mkL_length _ _
  refine LCalls.pure Try.func34 rfl (by kernel_rfl) (by simp) ?_
  repeat' first
    | (refine kOps ?_; first | (refine LOps.nil ?_) | (refine LOps.ev tT_ok rfl ?_))
    | (refine kWL ?_; first | (refine WL.seq ?_) | (refine WL.region (by kernel_rfl) ?_) | (refine WL.block ?_))
    | (refine lthen_n ?_)
  refine WL.loopHeld (ys.map iV) k (fun kk i => [(0, .sl 0 (mkL (ys.map iV) k)), (1, .int .i64 kk), (5, .int .i64 (i : Int))]) hk0 hk ⟨rfl, rfl, rfl, trivial⟩ (fun i hi kk hg h0 hb => ?_) ?_
  · simp only [List.getElem_map] at hg hb ⊢
    have hb' : kk + 1 ≤ 4000000000000 := hb
    have hi2 : i < (mkL (ys.map iV) k).length := by omega
    generalize ys[i]'(by simpa using hi) = y at hg hb hb' ⊢
    repeat' first
      | (refine kOps ?_; first | (refine LOps.nil ?_) | (refine LOps.ev tT_ok rfl ?_) | (refine kLen ?_; first | (refine LOps.ans (AnsL.lenG tT_ok rfl rfl rfl) ?_)) | (refine kBin ?_; first | (refine LOps.ans (AnsL.add rfl rfl ?_) ?_; (focus (constructor <;> omega)))) | (refine kIdx ?_; first | (refine LOps.ans (AnsL.idx tT_ok rfl rfl rfl rfl rfl hg rfl rfl) ?_)))
      | (refine kWL ?_; first | (refine WL.seq ?_) | (refine WL.region (by kernel_rfl) ?_) | (refine WL.block ?_) | (refine WL.skip ?_) | (refine kCond ?_; first | (refine WL.condT' rfl ?_ ?_; (focus (first | (simp only [decide_eq_true_eq, decide_eq_false_iff_not, Bool.not_eq_true', Bool.not_eq_false', Int.ofNat_lt, Int.ofNat_le, Int.ofNat_inj, not_true_eq_false, not_false_eq_true]; omega)))) | (refine WL.condF' rfl ?_ ?_; (focus (first | (simp <;> fail))))))
      | (refine lthen_n ?_)
      | (refine lblock_n ?_)
    exact ⟨rfl, ⟨rfl, rfl, rfl, trivial⟩, rfl⟩
  · skip
    repeat' first
      | (refine lfin_e ?_)
      | (refine kOps ?_; first | (refine LOps.nil ?_) | (refine LOps.ev tT_ok rfl ?_) | (refine kLen ?_; first | (refine LOps.ans (AnsL.lenG tT_ok rfl rfl rfl) ?_)))
      | (refine kWL ?_; first | (refine WL.seq ?_) | (refine WL.region (by kernel_rfl) ?_) | (refine WL.exit ?_) | (refine WL.ret ?_) | (refine kCond ?_; first | (refine WL.condF' rfl ?_ ?_; (focus (first | (simp only [decide_eq_true_eq, decide_eq_false_iff_not, Bool.not_eq_true', Bool.not_eq_false', Int.ofNat_lt, Int.ofNat_le, Int.ofNat_inj, not_true_eq_false, not_false_eq_true]; omega))))))
      | (refine lthen_n ?_)
      | (refine lthen_e ?_)
      | (refine lblock_e ?_)
      | (refine LPost.r1 (r := .tmp 4) (.inl rfl) (Res1.tmp rfl) ?_)
      | (refine PureR.mk ?_)
    rfl
theorem markTokenS_c (ys : List Token) : MarkC Try.prog 12 (.sl 0 (ys.map Token.toV)) := by
  intro t n k hv hk0 hk
  by_cases he : ys = []
  · subst he
    refine LCalls.body0 Try.func12 rfl (by kernel_rfl) ?_
    repeat' first
      | (refine kOps ?_; first | (refine LOps.nil ?_) | (refine LOps.ev tT_ok rfl ?_))
      | (refine kWL ?_; first | (refine WL.seq ?_) | (refine WL.region (by kernel_rfl) ?_) | (refine WL.block ?_))
      | (refine lthen_n ?_)
    refine WL.loop0 (fun _ : Unit => 0) (fun _ => [(0, .sl 0 []), (1, .int .i64 k), (5, .int .i64 0)]) (fun _ => t) (fun _ => True) () trivial ⟨rfl, rfl, rfl, trivial⟩ rfl (fun _ _ => ?_)
    repeat' first
      | (refine kOps ?_; first | (refine LOps.nil ?_) | (refine LOps.ev tT_ok rfl ?_) | (refine kLen ?_; first | (refine LOps.ans (AnsL.lenS tT_ok rfl rfl rfl rfl) ?_)))
      | (refine kWL ?_; first | (refine WL.seq ?_) | (refine WL.region (by kernel_rfl) ?_) | (refine WL.exit ?_) | (refine WL.ret ?_) | (refine kCond ?_; first | (refine WL.condF rfl ?_)))
      | (refine lthen_n ?_)
      | (refine lthen_e ?_)
      | (refine lblock_e ?_)
      | (refine lback_e ?_)
      | (refine LPost.r1 (r := .tmp 4) (.inl rfl) (Res1.tmp rfl) ?_)
    exact ⟨rfl, (blk_nil t n).symm⟩
  · have hne := map_ne (f := Token.toV) he
    rw [thw_sl n 0 hne]
    refine VCalls.wf fun hwf => ?_
    have hlen : (ys.map Token.toV).length < 9223372036854775808 := slm_len hwf
    refine LCalls.body0 Try.func12 rfl (by kernel_rfl) ?_
    repeat' first
      | (refine kOps ?_; first | (refine LOps.nil ?_) | (refine LOps.ev tT_ok rfl ?_))
      | (refine kWL ?_; first | (refine WL.seq ?_) | (refine WL.region (by kernel_rfl) ?_) | (refine WL.block ?_))
      | (refine lthen_n ?_)
    refine WL.loopMark t n (ys.map Token.toV) k 3 (fun kk i => [(0, .slm .un (n + cvL (ys.map Token.toV)) 0 (ys.map Token.toV).length), (1, .int .i64 kk), (5, .int .i64 (i : Int))]) hne (cells_map (f := Token.toV) (n := 3) (fun _ => rfl) ys) hv hk0 hk ⟨rfl, rfl, rfl, trivial⟩ (fun i hi kk m A Z CA CZ hq hm hl h0 hb => ?_) ?_
    · simp only [List.getElem_map] at hl hb ⊢
      have hb' : kk + 1 + 1 + 1 ≤ 4000000000000 := hb
      generalize ys[i]'(by simpa using hi) = y at hl hb hb' ⊢
      repeat' first
        | (refine kStore ?_ ; first | (refine LOps.storeE tT_ok 0 hq rfl rfl rfl rfl rfl rfl rfl rfl ?_) | (refine LOps.storeE tT_ok 1 hq rfl rfl rfl rfl rfl rfl rfl rfl ?_) | (refine LOps.storeE tT_ok 2 hq rfl rfl rfl rfl rfl rfl rfl rfl ?_))
        | (refine kOps ?_; first | (refine LOps.nil ?_) | (refine LOps.ev tT_ok rfl ?_) | (refine kBin ?_; first | (refine LOps.ans (AnsL.add rfl rfl ?_) ?_; (focus (constructor <;> omega)))) | (refine kIdx ?_; first | (refine LOps.ans (AnsL.idxM tT_ok rfl rfl rfl rfl rfl ?_) ?_; (focus (omega)))) | (refine kCallN 32 ?_; first | (refine LOps.ans (AnsL.callP rfl rfl rfl (ok32) (markText_v _ ?_ _)) ?_; (focus (omega)))))
        | (refine kWL ?_; first | (refine WL.seq ?_) | (refine WL.region (by kernel_rfl) ?_) | (refine WL.block ?_) | (refine WL.skip ?_) | (refine kCond ?_; first | (refine WL.condT' rfl ?_ ?_; (focus (first | (simp only [decide_eq_true_eq, decide_eq_false_iff_not, Bool.not_eq_true', Bool.not_eq_false', Int.ofNat_lt, Int.ofNat_le, Int.ofNat_inj, not_true_eq_false, not_false_eq_true]; omega))))))
        | (refine lthen_n ?_)
        | (refine lblock_n ?_)
      exact ⟨rfl, ⟨rfl, rfl, rfl, trivial⟩, rfl⟩
    · skip
      repeat' first
        | (refine lfin_e ?_)
        | (refine kOps ?_; first | (refine LOps.nil ?_) | (refine LOps.ev tT_ok rfl ?_))
        | (refine kWL ?_; first | (refine WL.seq ?_) | (refine WL.region (by kernel_rfl) ?_) | (refine WL.exit ?_) | (refine WL.ret ?_) | (refine kCond ?_; first | (refine WL.condF' rfl ?_ ?_; (focus (first | (simp only [decide_eq_true_eq, decide_eq_false_iff_not, Bool.not_eq_true', Bool.not_eq_false', Int.ofNat_lt, Int.ofNat_le, Int.ofNat_inj, not_true_eq_false, not_false_eq_true]; omega))))))
        | (refine lthen_n ?_)
        | (refine lthen_e ?_)
        | (refine lblock_e ?_)
        | (refine LPost.r1 (r := .tmp 4) (.inl rfl) (Res1.tmp rfl) ?_)
      exact ⟨rfl, rfl⟩
theorem heldTokenS_c (ys : List Token) (k : Int) (hk0 : 0 ≤ k) (hk : nk (.sl 0 (ys.map Token.toV)) k ≤ 4000000000000) (s : S) : VCalls Try.prog 17 [mkV (.sl 0 (ys.map Token.toV)) k, .int .i64 k] s (fun v s' => v = .int .i64 (nk (.sl 0 (ys.map Token.toV)) k) ∧ s' = s) := by
  refine VCalls.wf fun hwf => ?_
  have hlen : (mkL (ys.map Token.toV) k).length < 9223372036854775808 := sl_len hwf
  have hl2 : (mkL (ys.map Token.toV) k).length = (ys.map Token.toV).length := mkL_length _ _
  refine LCalls.pure Try.func17 rfl (by kernel_rfl) (by simp) ?_
  repeat' first
    | (refine kOps ?_; first | (refine LOps.nil ?_) | (refine LOps.ev tT_ok rfl ?_))
    | (refine kWL ?_; first | (refine WL.seq ?_) | (refine WL.region (by kernel_rfl) ?_) | (refine WL.block ?_))
    | (refine lthen_n ?_)
  refine WL.loopHeld (ys.map Token.toV) k (fun kk i => [(0, .sl 0 (mkL (ys.map Token.toV) k)), (1, .int .i64 kk), (5, .int .i64 (i : Int))]) hk0 hk ⟨rfl, rfl, rfl, trivial⟩ (fun i hi kk hg h0 hb => ?_) ?_
  · simp only [List.getElem_map] at hg hb ⊢
    have hb' : kk + 1 + 1 + 1 ≤ 4000000000000 := hb
    have hi2 : i < (mkL (ys.map Token.toV) k).length := by omega
    generalize ys[i]'(by simpa using hi) = y at hg hb hb' ⊢
    repeat' first
      | (refine kOps ?_; first | (refine LOps.nil ?_) | (refine LOps.ev tT_ok rfl ?_) | (refine kLen ?_; first | (refine LOps.ans (AnsL.lenG tT_ok rfl rfl rfl) ?_)) | (refine kBin ?_; first | (refine LOps.ans (AnsL.add rfl rfl ?_) ?_; (focus (constructor <;> omega)))) | (refine kIdx ?_; first | (refine LOps.ans (AnsL.idx tT_ok rfl rfl rfl rfl rfl hg rfl rfl) ?_)))
      | (refine kWL ?_; first | (refine WL.seq ?_) | (refine WL.region (by kernel_rfl) ?_) | (refine WL.drawn (id := 7) [0, 1, 2, 3, 4, 5, 6, 7] [] [[], [], [0, 1], [0, 1, 2], [0, 1, 2, 3], [], [5], [0, 1, 2, 3, 4, 5, 6]] (by kernel_rfl) (by kernel_rfl) ?_) | (refine WL.block ?_) | (refine WL.skip ?_) | (refine kCond ?_; first | (refine WL.condT' rfl ?_ ?_; (focus (first | (simp only [decide_eq_true_eq, decide_eq_false_iff_not, Bool.not_eq_true', Bool.not_eq_false', Int.ofNat_lt, Int.ofNat_le, Int.ofNat_inj, not_true_eq_false, not_false_eq_true]; omega)))) | (refine WL.condF' rfl ?_ ?_; (focus (first | (simp <;> fail))))))
      | (refine kDr ?_; first | (refine LDr.nil ?_) | (refine LDr.fl rfl rfl (.ev tT_ok rfl) ?_) | (refine kDIdx rfl ?_; first | (refine LDr.fl rfl rfl (AnsL.idx tT_ok rfl rfl rfl rfl rfl hg rfl rfl) ?_)) | (refine kDCallN 32 rfl ?_; first | (refine LDr.fl rfl rfl (AnsL.callP rfl rfl rfl (ok32) (markText_v _ ?_ _)) ?_; (focus (omega)))))
      | (refine lthen_n ?_)
      | (refine lblock_n ?_)
    exact ⟨rfl, ⟨rfl, rfl, rfl, trivial⟩, rfl⟩
  · skip
    repeat' first
      | (refine lfin_e ?_)
      | (refine kOps ?_; first | (refine LOps.nil ?_) | (refine LOps.ev tT_ok rfl ?_) | (refine kLen ?_; first | (refine LOps.ans (AnsL.lenG tT_ok rfl rfl rfl) ?_)))
      | (refine kWL ?_; first | (refine WL.seq ?_) | (refine WL.region (by kernel_rfl) ?_) | (refine WL.exit ?_) | (refine WL.ret ?_) | (refine kCond ?_; first | (refine WL.condF' rfl ?_ ?_; (focus (first | (simp only [decide_eq_true_eq, decide_eq_false_iff_not, Bool.not_eq_true', Bool.not_eq_false', Int.ofNat_lt, Int.ofNat_le, Int.ofNat_inj, not_true_eq_false, not_false_eq_true]; omega))))))
      | (refine lthen_n ?_)
      | (refine lthen_e ?_)
      | (refine lblock_e ?_)
      | (refine LPost.r1 (r := .tmp 4) (.inl rfl) (Res1.tmp rfl) ?_)
      | (refine PureR.mk ?_)
    rfl
theorem markIntSS_c (ys : List (List Int)) : MarkC Try.prog 13 (.sl 0 (ys.map ints)) := by
  intro t n k hv hk0 hk
  by_cases he : ys = []
  · subst he
    refine LCalls.body0 Try.func13 rfl (by kernel_rfl) ?_
    repeat' first
      | (refine kOps ?_; first | (refine LOps.nil ?_) | (refine LOps.ev tT_ok rfl ?_))
      | (refine kWL ?_; first | (refine WL.seq ?_) | (refine WL.region (by kernel_rfl) ?_) | (refine WL.block ?_))
      | (refine lthen_n ?_)
    refine WL.loop0 (fun _ : Unit => 0) (fun _ => [(0, .sl 0 []), (1, .int .i64 k), (5, .int .i64 0)]) (fun _ => t) (fun _ => True) () trivial ⟨rfl, rfl, rfl, trivial⟩ rfl (fun _ _ => ?_)
    repeat' first
      | (refine kOps ?_; first | (refine LOps.nil ?_) | (refine LOps.ev tT_ok rfl ?_) | (refine kLen ?_; first | (refine LOps.ans (AnsL.lenS tT_ok rfl rfl rfl rfl) ?_)))
      | (refine kWL ?_; first | (refine WL.seq ?_) | (refine WL.region (by kernel_rfl) ?_) | (refine WL.exit ?_) | (refine WL.ret ?_) | (refine kCond ?_; first | (refine WL.condF rfl ?_)))
      | (refine lthen_n ?_)
      | (refine lthen_e ?_)
      | (refine lblock_e ?_)
      | (refine lback_e ?_)
      | (refine LPost.r1 (r := .tmp 4) (.inl rfl) (Res1.tmp rfl) ?_)
    exact ⟨rfl, (blk_nil t n).symm⟩
  · have hne := map_ne (f := ints) he
    rw [thw_sl n 0 hne]
    refine VCalls.wf fun hwf => ?_
    have hlen : (ys.map ints).length < 9223372036854775808 := slm_len hwf
    refine LCalls.body0 Try.func13 rfl (by kernel_rfl) ?_
    repeat' first
      | (refine kOps ?_; first | (refine LOps.nil ?_) | (refine LOps.ev tT_ok rfl ?_))
      | (refine kWL ?_; first | (refine WL.seq ?_) | (refine WL.region (by kernel_rfl) ?_) | (refine WL.block ?_))
      | (refine lthen_n ?_)
    refine WL.loopMark t n (ys.map ints) k 1 (fun kk i => [(0, .slm .un (n + cvL (ys.map ints)) 0 (ys.map ints).length), (1, .int .i64 kk), (5, .int .i64 (i : Int))]) hne (cells_map (f := ints) (n := 1) (fun _ => rfl) ys) hv hk0 hk ⟨rfl, rfl, rfl, trivial⟩ (fun i hi kk m A Z CA CZ hq hm hl h0 hb => ?_) ?_
    · simp only [List.getElem_map] at hl hb ⊢
      have hb' : nk (.sl 0 ((ys[i]'(by simpa using hi)).map iV)) (kk) ≤ 4000000000000 := hb
      generalize ys[i]'(by simpa using hi) = y at hl hb hb' ⊢
      have hbs : nk (.sl 0 (y.map iV)) (kk) ≤ 4000000000000 := by exact hb'
      have hnk := nk_le (.sl 0 (y.map iV)) (kk)
      have hE : (thw m (ints y)).2 = (thw m (.sl 0 (y.map iV))).2 := rfl
      have hC : (thw m (ints y)).1.cells = [(thw m (.sl 0 (y.map iV))).1] := thw_sl_cells m 0 _
      have hE2 : (thw m (mkV (ints y) kk)).2 = (thw m (mkV (.sl 0 (y.map iV)) kk)).2 := rfl
      have hC2 : (thw m (mkV (ints y) kk)).1.cells = [(thw m (.sl 0 (y.map iV))).1] := by rw [← thw_mk_sl m 0 _ kk]; exact thw_sl_cells m 0 _
      have hcv : cv (ints y) = cv (.sl 0 (y.map iV)) := rfl
      rw [hE, hC, hE2, hC2]
      rw [hcv] at hl
      repeat' first
        | (refine kCallN 33 ?_ ; refine LOps.markE rfl rfl ok33 (markIntS_c y) rfl hm hl ?_ hbs ?_ ; (focus (omega)))
        | (refine kOps ?_; first | (refine LOps.nil ?_) | (refine LOps.ev tT_ok rfl ?_) | (refine kLoad ?_; first | (refine LOps.ans (AnsL.loadE tT_ok 0 hq rfl rfl rfl rfl) ?_)) | (refine kBin ?_; first | (refine LOps.ans (AnsL.add rfl rfl ?_) ?_; (focus (constructor <;> omega)))) | (refine kIdx ?_; first | (refine LOps.ans (AnsL.idxM tT_ok rfl rfl rfl rfl rfl ?_) ?_; (focus (omega)))))
        | (refine kWL ?_; first | (refine WL.seq ?_) | (refine WL.region (by kernel_rfl) ?_) | (refine WL.block ?_) | (refine WL.skip ?_) | (refine kCond ?_; first | (refine WL.condT' rfl ?_ ?_; (focus (first | (simp only [decide_eq_true_eq, decide_eq_false_iff_not, Bool.not_eq_true', Bool.not_eq_false', Int.ofNat_lt, Int.ofNat_le, Int.ofNat_inj, not_true_eq_false, not_false_eq_true]; omega))))))
        | (refine lthen_n ?_)
        | (refine lblock_n ?_)
      exact ⟨rfl, ⟨rfl, rfl, rfl, trivial⟩, rfl⟩
    · skip
      repeat' first
        | (refine lfin_e ?_)
        | (refine kOps ?_; first | (refine LOps.nil ?_) | (refine LOps.ev tT_ok rfl ?_))
        | (refine kWL ?_; first | (refine WL.seq ?_) | (refine WL.region (by kernel_rfl) ?_) | (refine WL.exit ?_) | (refine WL.ret ?_) | (refine kCond ?_; first | (refine WL.condF' rfl ?_ ?_; (focus (first | (simp only [decide_eq_true_eq, decide_eq_false_iff_not, Bool.not_eq_true', Bool.not_eq_false', Int.ofNat_lt, Int.ofNat_le, Int.ofNat_inj, not_true_eq_false, not_false_eq_true]; omega))))))
        | (refine lthen_n ?_)
        | (refine lthen_e ?_)
        | (refine lblock_e ?_)
        | (refine LPost.r1 (r := .tmp 4) (.inl rfl) (Res1.tmp rfl) ?_)
      exact ⟨rfl, rfl⟩
theorem heldIntSS_c (ys : List (List Int)) (k : Int) (hk0 : 0 ≤ k) (hk : nk (.sl 0 (ys.map ints)) k ≤ 4000000000000) (s : S) : VCalls Try.prog 14 [mkV (.sl 0 (ys.map ints)) k, .int .i64 k] s (fun v s' => v = .int .i64 (nk (.sl 0 (ys.map ints)) k) ∧ s' = s) := by
  refine VCalls.wf fun hwf => ?_
  have hlen : (mkL (ys.map ints) k).length < 9223372036854775808 := sl_len hwf
  have hl2 : (mkL (ys.map ints) k).length = (ys.map ints).length := mkL_length _ _
  refine LCalls.pure Try.func14 rfl (by kernel_rfl) (by simp) ?_
  repeat' first
    | (refine kOps ?_; first | (refine LOps.nil ?_) | (refine LOps.ev tT_ok rfl ?_))
    | (refine kWL ?_; first | (refine WL.seq ?_) | (refine WL.region (by kernel_rfl) ?_) | (refine WL.block ?_))
    | (refine lthen_n ?_)
  refine WL.loopHeld (ys.map ints) k (fun kk i => [(0, .sl 0 (mkL (ys.map ints) k)), (1, .int .i64 kk), (5, .int .i64 (i : Int))]) hk0 hk ⟨rfl, rfl, rfl, trivial⟩ (fun i hi kk hg h0 hb => ?_) ?_
  · simp only [List.getElem_map] at hg hb ⊢
    have hb' : nk (.sl 0 ((ys[i]'(by simpa using hi)).map iV)) (kk) ≤ 4000000000000 := hb
    have hi2 : i < (mkL (ys.map ints) k).length := by omega
    generalize ys[i]'(by simpa using hi) = y at hg hb hb' ⊢
    have hbs : nk (.sl 0 (y.map iV)) (kk) ≤ 4000000000000 := by exact hb'
    have hnk := nk_le (.sl 0 (y.map iV)) (kk)
    repeat' first
      | (refine kOps ?_; first | (refine LOps.nil ?_) | (refine LOps.ev tT_ok rfl ?_) | (refine kLen ?_; first | (refine LOps.ans (AnsL.lenG tT_ok rfl rfl rfl) ?_)) | (refine kBin ?_; first | (refine LOps.ans (AnsL.add rfl rfl ?_) ?_; (focus (constructor <;> omega)))) | (refine kIdx ?_; first | (refine LOps.ans (AnsL.idx tT_ok rfl rfl rfl rfl rfl hg rfl rfl) ?_)) | (refine kCallN 34 ?_; first | (refine LOps.ans (AnsL.callP rfl rfl rfl (ok34) (heldIntS_c y _ ?_ hbs _)) ?_; (focus (omega)))))
      | (refine kWL ?_; first | (refine WL.seq ?_) | (refine WL.region (by kernel_rfl) ?_) | (refine WL.block ?_) | (refine WL.skip ?_) | (refine kCond ?_; first | (refine WL.condT' rfl ?_ ?_; (focus (first | (simp only [decide_eq_true_eq, decide_eq_false_iff_not, Bool.not_eq_true', Bool.not_eq_false', Int.ofNat_lt, Int.ofNat_le, Int.ofNat_inj, not_true_eq_false, not_false_eq_true]; omega)))) | (refine WL.condF' rfl ?_ ?_; (focus (first | (simp only [decide_eq_true_eq, decide_eq_false_iff_not, Bool.not_eq_true', Bool.not_eq_false', Int.ofNat_lt, Int.ofNat_le, Int.ofNat_inj, not_true_eq_false, not_false_eq_true]; omega))))))
      | (refine lthen_n ?_)
      | (refine lblock_n ?_)
    exact ⟨rfl, ⟨rfl, rfl, rfl, trivial⟩, rfl⟩
  · skip
    repeat' first
      | (refine lfin_e ?_)
      | (refine kOps ?_; first | (refine LOps.nil ?_) | (refine LOps.ev tT_ok rfl ?_) | (refine kLen ?_; first | (refine LOps.ans (AnsL.lenG tT_ok rfl rfl rfl) ?_)))
      | (refine kWL ?_; first | (refine WL.seq ?_) | (refine WL.region (by kernel_rfl) ?_) | (refine WL.exit ?_) | (refine WL.ret ?_) | (refine kCond ?_; first | (refine WL.condF' rfl ?_ ?_; (focus (first | (simp only [decide_eq_true_eq, decide_eq_false_iff_not, Bool.not_eq_true', Bool.not_eq_false', Int.ofNat_lt, Int.ofNat_le, Int.ofNat_inj, not_true_eq_false, not_false_eq_true]; omega))))))
      | (refine lthen_n ?_)
      | (refine lthen_e ?_)
      | (refine lblock_e ?_)
      | (refine LPost.r1 (r := .tmp 4) (.inl rfl) (Res1.tmp rfl) ?_)
      | (refine PureR.mk ?_)
    rfl
theorem markIntS_t (ys : List Int) : MarkT Try.prog 33 (ints ys) := (markIntS_c ys).toT
theorem heldIntS_t (ys : List Int) : HeldT Try.prog 34 (ints ys) := fun k s h0 hb => heldIntS_c ys k h0 hb s
theorem markTokenS_t (ys : List Token) : MarkT Try.prog 12 (.sl 0 (ys.map Token.toV)) := (markTokenS_c ys).toT
theorem heldTokenS_t (ys : List Token) : HeldT Try.prog 17 (.sl 0 (ys.map Token.toV)) := fun k s h0 hb => heldTokenS_c ys k h0 hb s
theorem markIntSS_t (ys : List (List Int)) : MarkT Try.prog 13 (.sl 0 (ys.map ints)) := (markIntSS_c ys).toT
theorem heldIntSS_t (ys : List (List Int)) : HeldT Try.prog 14 (.sl 0 (ys.map ints)) := fun k s h0 hb => heldIntSS_c ys k h0 hb s

end Go.Proofs.Ytoededaekidbcaa
