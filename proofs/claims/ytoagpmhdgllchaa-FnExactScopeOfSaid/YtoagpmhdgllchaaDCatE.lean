/-
  Catalogs drawn from a string of bytes, some of them not right. Own work; no condition.
-/
import Derived.Test.YtoagpmhdgllchaaDCatD
import Derived.Test.YtoagpmhdgllchaaVCap3
namespace Go.Proofs.Ytoagpmhdgllchaa
open Go
set_option linter.unusedSimpArgs false
set_option linter.unusedVariables false

/-- One digit. -/
theorem specDigits_1 {n : Int} (h : 1 ≤ n ∧ n ≤ 4) : ∃ d : List UInt8, d.length ≤ 1 ∧ ∀ s, VCalls Try.prog 54 [.int .i64 n] s (fun v s' => v = .str d ∧ s' = s) := by
  refine ⟨[UInt8.ofNat (48 + n.toNat)], Nat.le_refl _, fun s => ?_⟩
  obtain ⟨m, rfl⟩ : ∃ m : Nat, n = m := ⟨n.toNat, by omega⟩
  have : m = 1 ∨ m = 2 ∨ m = 3 ∨ m = 4 := by omega
  rcases this with rfl | rfl | rfl | rfl
  · skip
    refine LCalls.pure Try.func54 rfl (by kernel_rfl) (by simp) ?_
    repeat' first
      | (refine kOps ?_; first | (refine LOps.nil ?_) | (refine LOps.ev tT_ok rfl ?_))
      | (refine kWL ?_; first | (refine WL.seq ?_) | (refine WL.region (by kernel_rfl) ?_) | (refine WL.block ?_) | (refine WL.skip ?_) | (refine kCond ?_; first | (refine WL.condF rfl ?_)))
      | (refine lthen_n ?_)
    refine WL.loopD (fun i : Nat => 1 - i) (fun i => [(0, .int .i64 (if i = 0 then 1 else 0)), (3, .bool false), (4, .str (if i = 0 then [] else [UInt8.ofNat (48 + 1)]))]) (fun i => [])
      (fun i => i ≤ 1) 0 0 (by simp) (fun _ => rfl) ⟨rfl, rfl, rfl, trivial⟩ rfl (fun i hi => ?_) (fun i hi => ?_)
    · simp [UnderK, UnderX, V.under, V.underL]
    have hz : i = 0 ∨ i = 1 := by omega
    rcases hz with rfl | rfl
    · skip
      repeat' first
        | (refine LOps.ans (AnsL.toStr tT_ok rfl rfl rfl rfl rfl rfl rfl rfl rfl) ?_)
        | (refine kOps ?_; first | (refine LOps.nil ?_) | (refine LOps.ev tT_ok rfl ?_) | (refine kBsl ?_; first | (refine LOps.bsl tT_ok rfl rfl rfl rfl rfl rfl rfl rfl rfl rfl rfl ?_)) | (refine kBin ?_; first | (refine LOps.ans (AnsL.cat rfl rfl ?_) ?_; (focus (exact le_maxLen (by simp <;> omega)))) | (refine LOps.ans (AnsL.arith rfl rfl rfl) ?_)))
        | (refine kWL ?_; first | (refine WL.seq ?_) | (refine WL.region (by kernel_rfl) ?_) | (refine WL.block ?_) | (refine WL.skip ?_) | (refine kCond ?_; first | (refine WL.condT rfl ?_) | (refine WL.condF rfl ?_)))
        | (refine lthen_n ?_)
        | (refine lblock_n ?_)
      all_goals
        refine lbackD.of (1) ?_ ?_ ?_ ?_
        · first | omega | (refine ⟨?_, ?_⟩; (focus (first | omega | (simp; omega))); (first | omega | (simp_all [] <;> fail) | (simp_all []; omega))) | (simp_all [] <;> fail) | (simp_all []; omega)
        · first | omega | (simp; omega) | simp_all
        · repeat' first
            | exact SubL.nil
            | (refine SubL.mk rfl ?_ ?_)
            | rfl
            | (simp [] <;> fail)
            | (simp []; omega)
        · first | rfl | (simp [] <;> fail) | (simp []; omega)
    · skip
      repeat' first
        | (refine kOps ?_; first | (refine LOps.nil ?_) | (refine LOps.ev tT_ok rfl ?_))
        | (refine kWL ?_; first | (refine WL.seq ?_) | (refine WL.region (by kernel_rfl) ?_) | (refine WL.exit ?_) | (refine WL.skip ?_) | (refine WL.ret ?_) | (refine kCond ?_; first | (refine WL.condF rfl ?_)))
        | (refine lthen_n ?_)
        | (refine lthen_e ?_)
        | (refine lblock_e ?_)
        | (refine lbackD_e ?_)
        | (refine LPost.r1 (r := .tmp 2) (.inl rfl) (Res1.tmp rfl) ?_)
        | (refine PureR.mk ?_)
      rfl
  · skip
    refine LCalls.pure Try.func54 rfl (by kernel_rfl) (by simp) ?_
    repeat' first
      | (refine kOps ?_; first | (refine LOps.nil ?_) | (refine LOps.ev tT_ok rfl ?_))
      | (refine kWL ?_; first | (refine WL.seq ?_) | (refine WL.region (by kernel_rfl) ?_) | (refine WL.block ?_) | (refine WL.skip ?_) | (refine kCond ?_; first | (refine WL.condF rfl ?_)))
      | (refine lthen_n ?_)
    refine WL.loopD (fun i : Nat => 1 - i) (fun i => [(0, .int .i64 (if i = 0 then 2 else 0)), (3, .bool false), (4, .str (if i = 0 then [] else [UInt8.ofNat (48 + 2)]))]) (fun i => [])
      (fun i => i ≤ 1) 0 0 (by simp) (fun _ => rfl) ⟨rfl, rfl, rfl, trivial⟩ rfl (fun i hi => ?_) (fun i hi => ?_)
    · simp [UnderK, UnderX, V.under, V.underL]
    have hz : i = 0 ∨ i = 1 := by omega
    rcases hz with rfl | rfl
    · skip
      repeat' first
        | (refine LOps.ans (AnsL.toStr tT_ok rfl rfl rfl rfl rfl rfl rfl rfl rfl) ?_)
        | (refine kOps ?_; first | (refine LOps.nil ?_) | (refine LOps.ev tT_ok rfl ?_) | (refine kBsl ?_; first | (refine LOps.bsl tT_ok rfl rfl rfl rfl rfl rfl rfl rfl rfl rfl rfl ?_)) | (refine kBin ?_; first | (refine LOps.ans (AnsL.cat rfl rfl ?_) ?_; (focus (exact le_maxLen (by simp <;> omega)))) | (refine LOps.ans (AnsL.arith rfl rfl rfl) ?_)))
        | (refine kWL ?_; first | (refine WL.seq ?_) | (refine WL.region (by kernel_rfl) ?_) | (refine WL.block ?_) | (refine WL.skip ?_) | (refine kCond ?_; first | (refine WL.condT rfl ?_) | (refine WL.condF rfl ?_)))
        | (refine lthen_n ?_)
        | (refine lblock_n ?_)
      all_goals
        refine lbackD.of (1) ?_ ?_ ?_ ?_
        · first | omega | (refine ⟨?_, ?_⟩; (focus (first | omega | (simp; omega))); (first | omega | (simp_all [] <;> fail) | (simp_all []; omega))) | (simp_all [] <;> fail) | (simp_all []; omega)
        · first | omega | (simp; omega) | simp_all
        · repeat' first
            | exact SubL.nil
            | (refine SubL.mk rfl ?_ ?_)
            | rfl
            | (simp [] <;> fail)
            | (simp []; omega)
        · first | rfl | (simp [] <;> fail) | (simp []; omega)
    · skip
      repeat' first
        | (refine kOps ?_; first | (refine LOps.nil ?_) | (refine LOps.ev tT_ok rfl ?_))
        | (refine kWL ?_; first | (refine WL.seq ?_) | (refine WL.region (by kernel_rfl) ?_) | (refine WL.exit ?_) | (refine WL.skip ?_) | (refine WL.ret ?_) | (refine kCond ?_; first | (refine WL.condF rfl ?_)))
        | (refine lthen_n ?_)
        | (refine lthen_e ?_)
        | (refine lblock_e ?_)
        | (refine lbackD_e ?_)
        | (refine LPost.r1 (r := .tmp 2) (.inl rfl) (Res1.tmp rfl) ?_)
        | (refine PureR.mk ?_)
      rfl
  · skip
    refine LCalls.pure Try.func54 rfl (by kernel_rfl) (by simp) ?_
    repeat' first
      | (refine kOps ?_; first | (refine LOps.nil ?_) | (refine LOps.ev tT_ok rfl ?_))
      | (refine kWL ?_; first | (refine WL.seq ?_) | (refine WL.region (by kernel_rfl) ?_) | (refine WL.block ?_) | (refine WL.skip ?_) | (refine kCond ?_; first | (refine WL.condF rfl ?_)))
      | (refine lthen_n ?_)
    refine WL.loopD (fun i : Nat => 1 - i) (fun i => [(0, .int .i64 (if i = 0 then 3 else 0)), (3, .bool false), (4, .str (if i = 0 then [] else [UInt8.ofNat (48 + 3)]))]) (fun i => [])
      (fun i => i ≤ 1) 0 0 (by simp) (fun _ => rfl) ⟨rfl, rfl, rfl, trivial⟩ rfl (fun i hi => ?_) (fun i hi => ?_)
    · simp [UnderK, UnderX, V.under, V.underL]
    have hz : i = 0 ∨ i = 1 := by omega
    rcases hz with rfl | rfl
    · skip
      repeat' first
        | (refine LOps.ans (AnsL.toStr tT_ok rfl rfl rfl rfl rfl rfl rfl rfl rfl) ?_)
        | (refine kOps ?_; first | (refine LOps.nil ?_) | (refine LOps.ev tT_ok rfl ?_) | (refine kBsl ?_; first | (refine LOps.bsl tT_ok rfl rfl rfl rfl rfl rfl rfl rfl rfl rfl rfl ?_)) | (refine kBin ?_; first | (refine LOps.ans (AnsL.cat rfl rfl ?_) ?_; (focus (exact le_maxLen (by simp <;> omega)))) | (refine LOps.ans (AnsL.arith rfl rfl rfl) ?_)))
        | (refine kWL ?_; first | (refine WL.seq ?_) | (refine WL.region (by kernel_rfl) ?_) | (refine WL.block ?_) | (refine WL.skip ?_) | (refine kCond ?_; first | (refine WL.condT rfl ?_) | (refine WL.condF rfl ?_)))
        | (refine lthen_n ?_)
        | (refine lblock_n ?_)
      all_goals
        refine lbackD.of (1) ?_ ?_ ?_ ?_
        · first | omega | (refine ⟨?_, ?_⟩; (focus (first | omega | (simp; omega))); (first | omega | (simp_all [] <;> fail) | (simp_all []; omega))) | (simp_all [] <;> fail) | (simp_all []; omega)
        · first | omega | (simp; omega) | simp_all
        · repeat' first
            | exact SubL.nil
            | (refine SubL.mk rfl ?_ ?_)
            | rfl
            | (simp [] <;> fail)
            | (simp []; omega)
        · first | rfl | (simp [] <;> fail) | (simp []; omega)
    · skip
      repeat' first
        | (refine kOps ?_; first | (refine LOps.nil ?_) | (refine LOps.ev tT_ok rfl ?_))
        | (refine kWL ?_; first | (refine WL.seq ?_) | (refine WL.region (by kernel_rfl) ?_) | (refine WL.exit ?_) | (refine WL.skip ?_) | (refine WL.ret ?_) | (refine kCond ?_; first | (refine WL.condF rfl ?_)))
        | (refine lthen_n ?_)
        | (refine lthen_e ?_)
        | (refine lblock_e ?_)
        | (refine lbackD_e ?_)
        | (refine LPost.r1 (r := .tmp 2) (.inl rfl) (Res1.tmp rfl) ?_)
        | (refine PureR.mk ?_)
      rfl
  · skip
    refine LCalls.pure Try.func54 rfl (by kernel_rfl) (by simp) ?_
    repeat' first
      | (refine kOps ?_; first | (refine LOps.nil ?_) | (refine LOps.ev tT_ok rfl ?_))
      | (refine kWL ?_; first | (refine WL.seq ?_) | (refine WL.region (by kernel_rfl) ?_) | (refine WL.block ?_) | (refine WL.skip ?_) | (refine kCond ?_; first | (refine WL.condF rfl ?_)))
      | (refine lthen_n ?_)
    refine WL.loopD (fun i : Nat => 1 - i) (fun i => [(0, .int .i64 (if i = 0 then 4 else 0)), (3, .bool false), (4, .str (if i = 0 then [] else [UInt8.ofNat (48 + 4)]))]) (fun i => [])
      (fun i => i ≤ 1) 0 0 (by simp) (fun _ => rfl) ⟨rfl, rfl, rfl, trivial⟩ rfl (fun i hi => ?_) (fun i hi => ?_)
    · simp [UnderK, UnderX, V.under, V.underL]
    have hz : i = 0 ∨ i = 1 := by omega
    rcases hz with rfl | rfl
    · skip
      repeat' first
        | (refine LOps.ans (AnsL.toStr tT_ok rfl rfl rfl rfl rfl rfl rfl rfl rfl) ?_)
        | (refine kOps ?_; first | (refine LOps.nil ?_) | (refine LOps.ev tT_ok rfl ?_) | (refine kBsl ?_; first | (refine LOps.bsl tT_ok rfl rfl rfl rfl rfl rfl rfl rfl rfl rfl rfl ?_)) | (refine kBin ?_; first | (refine LOps.ans (AnsL.cat rfl rfl ?_) ?_; (focus (exact le_maxLen (by simp <;> omega)))) | (refine LOps.ans (AnsL.arith rfl rfl rfl) ?_)))
        | (refine kWL ?_; first | (refine WL.seq ?_) | (refine WL.region (by kernel_rfl) ?_) | (refine WL.block ?_) | (refine WL.skip ?_) | (refine kCond ?_; first | (refine WL.condT rfl ?_) | (refine WL.condF rfl ?_)))
        | (refine lthen_n ?_)
        | (refine lblock_n ?_)
      all_goals
        refine lbackD.of (1) ?_ ?_ ?_ ?_
        · first | omega | (refine ⟨?_, ?_⟩; (focus (first | omega | (simp; omega))); (first | omega | (simp_all [] <;> fail) | (simp_all []; omega))) | (simp_all [] <;> fail) | (simp_all []; omega)
        · first | omega | (simp; omega) | simp_all
        · repeat' first
            | exact SubL.nil
            | (refine SubL.mk rfl ?_ ?_)
            | rfl
            | (simp [] <;> fail)
            | (simp []; omega)
        · first | rfl | (simp [] <;> fail) | (simp []; omega)
    · skip
      repeat' first
        | (refine kOps ?_; first | (refine LOps.nil ?_) | (refine LOps.ev tT_ok rfl ?_))
        | (refine kWL ?_; first | (refine WL.seq ?_) | (refine WL.region (by kernel_rfl) ?_) | (refine WL.exit ?_) | (refine WL.skip ?_) | (refine WL.ret ?_) | (refine kCond ?_; first | (refine WL.condF rfl ?_)))
        | (refine lthen_n ?_)
        | (refine lthen_e ?_)
        | (refine lblock_e ?_)
        | (refine lbackD_e ?_)
        | (refine LPost.r1 (r := .tmp 2) (.inl rfl) (Res1.tmp rfl) ?_)
        | (refine PureR.mk ?_)
      rfl

def Tab.mid (t : Tab) : Prop := t.name.length ≤ 21 ∧ t.cols.length ≤ 4 ∧ ∀ c ∈ t.cols, c.name.length ≤ 21
theorem Tab.small.mid {t : Tab} (h : t.small) : t.mid := ⟨Nat.le_trans h.1 (by omega), Nat.le_trans h.2.1 (by omega), fun c hc => Nat.le_trans (h.2.2 c hc) (by omega)⟩
/-- A table in memory of one's own, part by part. -/
theorem Tab.unown {s : S} {b : Nat} {H : List BE} {u : V} {x : Tab} (h : Hold s b (.own u x.toV :: H)) : ∃ c l : Nat, u = .agg [.str x.name, .slm (.is c) l 0 x.cols.length] ∧ Hold s b (.own (.slm (.is c) l 0 x.cols.length) (.sl 0 (x.cols.map Col.toV)) :: H) := by
  obtain ⟨vs, rfl, hl⟩ := h.aggOk
  match vs, hl with
  | [v0, v1], _ =>
    obtain ⟨e0, g0⟩ := h.unscal rfl
    subst e0
    have h8 := g0.unagg
    have h9 : Hold s b (.own v1 (.sl 0 (x.cols.map Col.toV)) :: H) := h8.sel (.cons 0 rfl rfl (.drop (Sel.refl H)))
    obtain ⟨c8, l8, e8, _⟩ := h9.slc
    rw [List.length_map] at e8
    subst e8
    exact ⟨c8, l8, rfl, h9⟩
abbrev xcols : List Col := [⟨[97], 1⟩, ⟨[98], 1⟩, ⟨[99], 2⟩, ⟨[100], 3⟩]
theorem xtab_mid {d : List UInt8} (h : d.length ≤ 1) : (Tab.mk ([120] ++ d) xcols).mid := by
  refine ⟨by simp; omega, (by decide : xcols.length ≤ 4), fun c hc => ?_⟩
  simp only [xcols, List.mem_cons, List.not_mem_nil, or_false] at hc
  rcases hc with rfl | rfl | rfl | rfl <;> decide
set_option maxHeartbeats 4000000 in
theorem specl16Draw_f {b : V} (hb : Bytes b) : Drw Try.prog 30 b [] (fun ts : List Tab => (⟨ts⟩ : Cat).toV) (fun ts => ts.length ≤ 5 ∧ ∀ t ∈ ts, t.mid) := by
  intro s H l i h hi hh
  have hmain : VCalls Try.prog 30 [.ptr l 0] (s.ext []) (fun v t => ∃ (x : List Tab × Int × Int) (s' : S), ((x.1.length ≤ 5 ∧ ∀ t ∈ x.1, t.mid) ∧ 0 ≤ x.2.1) ∧ t = s'.ext [] ∧ FinS s' v (⟨x.1⟩ : Cat).toV (.cell l (curC b x.2.1 x.2.2) :: H)) := by
    refine LCalls.body0 Try.func30 rfl (by kernel_rfl) ?_
    repeat' first
      | (refine kAlloc ?_ ; refine LOps.allocH tT_ok hh rfl rfl ?_ ; intro s n hh)
      | (refine kStore ?_ ; first | (refine LOps.storeH tT_ok 0 hh rfl rfl rfl rfl rfl rfl rfl rfl rfl ?_ ; intro s hh) | (refine LOps.storeH tT_ok 1 hh rfl rfl rfl rfl rfl rfl rfl rfl rfl ?_ ; intro s hh) | (refine LOps.storeH tT_ok 3 hh rfl rfl rfl rfl rfl rfl rfl rfl rfl ?_ ; intro s hh))
      | (refine kCallN 51 ?_ ; first | (refine LOps.drawB 1 rfl rfl ok51 hh (specl16Right_d hb) .nil rfl rfl ?_ ?_ ; (focus (first | assumption | omega)) ; intro s y i h hq hi hh ; try dsimp only [List.cons_append, List.nil_append] at hh))
      | (refine kCallN 52 ?_ ; first | (refine LOps.drawH 2 rfl rfl ok52 hh rfl rfl ?_ (specl1Below_d hb (by omega)) ?_ ; (focus (first | assumption | omega)) ; intro s x i h hq hi hh ; try dsimp only))
      | (refine kOps ?_; first | (refine LOps.nil ?_) | (refine LOps.ev tT_ok rfl ?_) | (refine kLoad ?_; first | (refine LOps.ans (AnsL.loadH tT_ok 1 hh rfl rfl rfl rfl) ?_)))
      | (refine kWL ?_; first | (refine WL.seq ?_) | (refine WL.region (by kernel_rfl) ?_) | (refine WL.block ?_) | (refine WL.skip ?_) | (refine WL.ret ?_) | (refine kCond ?_; first | (refine WL.cond rfl (fun h => ?_) (fun h => ?_))))
      | (refine lthen_n ?_)
      | (refine lblock_n ?_)
      | (refine' LPost.r1 (r := .cell 2 26) (.inl rfl) ?_ ?_; rotate_left 1; (focus (first | (exact Res1.cellH 3 tT_ok hh rfl rfl rfl rfl))))
    · skip
      have hw := (by assumption : (0 < y.1.length ∧ y.1.length ≤ 3) ∧ ∀ t ∈ y.1, t.small)
      obtain ⟨ts, c0, l0⟩ := y
      dsimp only at hw hh
      obtain ⟨t, tz, rfl⟩ : ∃ t tz, ts = t :: tz := by
        cases ts with
        | nil => simp at hw
        | cons t tz => exact ⟨t, tz, rfl⟩
      have hkl : 0 < (t :: tz).length := hw.1.1
      obtain ⟨ht1, ht2, ht3⟩ := hw.2 t (by simp)
      have hcl : ∀ x ∈ ([] : List V) ++ t.toV :: tz.map Tab.toV, x.cells.length = 2 := by
        intro x hx
        obtain ⟨y, _, rfl⟩ := List.mem_map.1 (show x ∈ (t :: tz).map Tab.toV from hx)
        rfl
      obtain ⟨A, Z, u, rest, hA, hr, hnc, hn, hh⟩ := Hold.openO (dA := []) (d := t.toV) (dZ := tz.map Tab.toV) 2 (hh.sel (.cons 2 rfl rfl (Sel.refl _))) hcl
      have hA : (V.flat A).length = 0 * 2 := hA
      obtain ⟨c1, l1, rfl, hh⟩ := Tab.unown (hh.sel (.cons 1 rfl rfl (Sel.refl _)))
      have hZl : Z.length = tz.length := by
        obtain ⟨Z2, hZ2, hZl⟩ := (hh.sel (.cons 3 rfl rfl (Sel.refl _))).aggOk
        cases hZ2
        rw [hZl, List.length_map]
      have hZs : ∀ v ∈ Z, v.cells.length = 2 := by
        obtain ⟨a, hZ2, _⟩ := (hh.sel (.cons 3 rfl rfl (Sel.refl _))).ownOk (List.mem_cons_self ..)
        cases hZ2 with
        | scal h => cases h
        | agg k => exact k.sizes fun x hx => hcl x (by simp only [List.nil_append]; exact List.mem_cons_of_mem _ hx)
      have hA0 : A = [] := by
        obtain ⟨A2, hA2, hAl⟩ := (hh.sel (.cons 2 rfl rfl (Sel.refl _))).aggOk
        cases hA2
        exact List.length_eq_zero_iff.1 hAl
      have hcell : V.flat A ++ ((V.agg [V.str t.name, V.slm (.is c1) l1 0 t.cols.length]).cells ++ (V.flat Z ++ rest)) = V.flat (V.agg [V.str t.name, V.slm (.is c1) l1 0 t.cols.length] :: Z) ++ rest := by
        rw [hA0, flat_cons]
        simp [V.flat]
      have hun : (V.agg [V.str t.name, V.slm (.is c1) l1 0 t.cols.length] :: Z).length = (t :: tz).length := by simp [hZl]
      have hus : ∀ v ∈ V.agg [V.str t.name, V.slm (.is c1) l1 0 t.cols.length] :: Z, v.cells.length = 2 := fun v hv => by
        rcases List.mem_cons.1 hv with rfl | hv
        · rfl
        · exact hZs v hv
      have hbb : (t :: tz).length + [V.agg [V.str t.name, V.slm (.is c1) l1 0 t.cols.length]].length ≤ 1099511627776 := by
        have := hw.1.2
        simp only [List.length_cons, List.length_nil] at this ⊢
        omega
      repeat' first
        | (refine kStore ?_ ; first | (refine LOps.storeH tT_ok 5 hh rfl rfl rfl rfl rfl rfl rfl rfl rfl ?_ ; intro s hh) | (refine LOps.storeH tT_ok 6 hh rfl rfl rfl rfl rfl rfl rfl rfl rfl ?_ ; intro s hh))
        | (refine kApp ?_ ; refine LOps.appD (us := _ :: Z) tT_ok 1 rfl ?_ rfl rfl rfl rfl rfl rfl rfl rfl hh hun hus (by simp) hr hnc (Elems.of rfl) (AppB.of hbb rfl) ?_ ; (focus (exact congrArg (fun c => some (BE.cell l0 c)) hcell)) ; intro s c l2 rest2 hh)
        | (refine kOps ?_; first | (refine LOps.nil ?_) | (refine kLoad ?_; first | (refine LOps.ans (AnsL.loadH tT_ok 5 hh rfl rfl rfl rfl) ?_)))
        | (refine kWL ?_; first | (refine WL.seq ?_) | (refine WL.region (by kernel_rfl) ?_) | (refine WL.drawn (id := 4) [0, 1, 2, 3, 4, 5, 6, 7, 8, 9] [7, 9] [[], [0], [], [2], [2, 3], [2, 3, 4], [2, 3, 4, 5], [0, 1, 2, 3, 4, 5, 6], [0, 1, 2, 3, 4, 5, 6, 7], [0, 1, 2, 3, 4, 5, 6, 7, 8]] (by kernel_rfl) (by kernel_rfl) ?_) | (refine WL.ret ?_))
        | (refine kDr ?_; first | (refine LDr.nil ?_) | (refine LDr.fl rfl rfl (.ev tT_ok rfl) ?_) | (refine LDr.fl rfl rfl (AnsL.bslF tT_ok rfl rfl rfl rfl rfl rfl rfl rfl rfl) ?_) | (refine kDLoad rfl ?_; first | (refine LDr.fl rfl rfl (AnsL.loadH tT_ok 5 hh rfl rfl rfl rfl) ?_) | (refine LDr.fl rfl rfl (AnsL.loadHE (q := 0 * 2) tT_ok 1 0 hh rfl rfl hA rfl rfl rfl rfl) ?_)) | (refine kDIdx rfl ?_; first | (refine LDr.fl rfl rfl (AnsL.idxE (j := 0) tT_ok rfl rfl rfl rfl rfl hkl rfl) ?_)) | (refine LDr.eff rfl rfl rfl ?_))
        | (refine lthen_n ?_)
        | (refine lblock_n ?_)
        | (refine' LPost.r1 (r := .cell 2 26) (.inl rfl) ?_ ?_; rotate_left 1; (focus (first | (exact Res1.cellH 6 tT_ok hh rfl rfl rfl rfl))))
        | (refine And.intro ?_ ?_)
        | (exact StsL.nil)
      have hp := hh.pack (v := .agg [.str t.name, .slm (.is c1) l1 0 t.cols.length]) (d := t.toV) (.agg (.cons (.scal rfl) (.cons (.own 1 rfl rfl) .nil)))
      have key := FinS.dup (c := c) (sz := 2) (n := (t :: tz).length + [V.agg [V.str t.name, V.slm (.is c1) l1 0 t.cols.length]].length) (dZ := tz.map Tab.toV) (hp.sel (.cons 1 rfl rfl (.cons 0 rfl rfl (.cons 1 rfl rfl (.cons 1 rfl rfl (.drop (.drop (.drop (Sel.refl _)))))))) ) (by simp) (fun x hx => hcl x hx)
      have e3 : t.toV :: tz.map Tab.toV ++ [t.toV] = ((t :: tz) ++ [t]).map Tab.toV := by simp
      rw [e3] at key
      refine ⟨((t :: tz) ++ [t], i, _), s, ⟨⟨?_, fun y hy => ?_⟩, hi⟩, rfl, key⟩
      · have := hw.1.2
        simp only [List.length_append, List.length_cons, List.length_nil] at this ⊢
        omega
      · rcases List.mem_append.1 hy with hy | hy
        · exact (hw.2 y hy).mid
        · rw [List.mem_singleton] at hy; subst hy; exact (hw.2 y (by simp)).mid
    · skip
      have hw := (by assumption : (0 < y.1.length ∧ y.1.length ≤ 3) ∧ ∀ t ∈ y.1, t.small)
      obtain ⟨ts, c0, l0⟩ := y
      dsimp only at hw hh
      obtain ⟨t, tz, rfl⟩ : ∃ t tz, ts = t :: tz := by
        cases ts with
        | nil => simp at hw
        | cons t tz => exact ⟨t, tz, rfl⟩
      have hkl : 0 < (t :: tz).length := hw.1.1
      obtain ⟨ht1, ht2, ht3⟩ := hw.2 t (by simp)
      have hcl : ∀ x ∈ ([] : List V) ++ t.toV :: tz.map Tab.toV, x.cells.length = 2 := by
        intro x hx
        obtain ⟨y, _, rfl⟩ := List.mem_map.1 (show x ∈ (t :: tz).map Tab.toV from hx)
        rfl
      obtain ⟨A, Z, u, rest, hA, hr, hnc, hn, hh⟩ := Hold.openO (dA := []) (d := t.toV) (dZ := tz.map Tab.toV) 2 (hh.sel (.cons 2 rfl rfl (Sel.refl _))) hcl
      have hA : (V.flat A).length = 0 * 2 := hA
      obtain ⟨c1, l1, rfl, hh⟩ := Tab.unown (hh.sel (.cons 1 rfl rfl (Sel.refl _)))
      repeat' first
        | (refine kStore ?_ ; first | (refine LOps.storeH tT_ok 6 hh rfl rfl rfl rfl rfl rfl rfl rfl rfl ?_ ; intro s hh))
        | (refine kApp ?_ ; first | (refine' LOps.appW tT_ok 1 rfl rfl rfl rfl rfl rfl rfl rfl rfl rfl hh ?_ ?_ ?_ (AppB.of ?_ rfl) ?_ ; rotate_left 2 ; (focus (first | (intro x hx; obtain ⟨y, _, rfl⟩ := List.mem_map.1 hx; first | rfl | exact PE.cells_len _ | exact PE.planV_len _))) ; (focus ((repeat' first | (exact ConsOL.nil) | (exact ConsO.scal rfl) | (refine' ConsOL.cons ?_ ?_) | (refine' ConsO.agg ?_)); done)) ; (focus ((repeat' first | (exact Elems.of rfl)); done)) ; (focus (first | omega | (simp ; omega))) ; intro s c n hh))
        | (refine kCallN 52 ?_ ; first | (refine LOps.drawH 0 rfl rfl ok52 hh rfl rfl ?_ (specl1Below_d hb (by omega)) ?_ ; (focus (first | assumption | omega)) ; intro s x i h hq hi hh ; try dsimp only))
        | (refine kCallN 53 ?_ ; first | (refine LOps.drawH 4 rfl rfl ok53 hh rfl rfl ?_ (specl2Any_d hb) ?_ ; (focus (first | assumption | omega)) ; intro s x i h hq hi hh ; try dsimp only))
        | (refine kStore ?_ ; first | (refine LOps.storeHE (q := 0 * 2) tT_ok 2 1 hh rfl rfl hA rfl rfl rfl rfl rfl rfl rfl rfl rfl ?_ ; intro s hh))
        | (refine kOps ?_; first | (refine LOps.nil ?_) | (refine kLoad ?_; first | (refine LOps.ans (AnsL.loadH tT_ok 5 hh rfl rfl rfl rfl) ?_)))
        | (refine kWL ?_; first | (refine WL.seq ?_) | (refine WL.region (by kernel_rfl) ?_) | (refine WL.drawn (id := 6) [0, 1, 2, 3, 4, 5, 6, 7, 9, 8, 10, 11, 12, 13, 14, 15, 16] [8, 10, 13, 16] [[], [0], [], [2], [2, 3], [2, 3, 4], [2, 3, 4, 5], [], [7], [], [7, 8, 9], [7, 8, 9, 10], [7, 8, 9, 10, 11], [2, 3, 4, 5, 6, 7, 8, 9, 10, 11, 12], [0, 1, 2, 3, 4, 5, 6, 7, 8, 9, 10, 11, 12, 13], [0, 1, 2, 3, 4, 5, 6, 7, 8, 9, 10, 11, 12, 13, 14], [0, 1, 2, 3, 4, 5, 6, 7, 8, 9, 10, 11, 12, 13, 14, 15]] (by kernel_rfl) (by kernel_rfl) ?_) | (refine WL.ret ?_))
        | (refine kDr ?_; first | (refine LDr.nil ?_) | (refine' LDr.fl (v := .agg _) rfl rfl (AnsL.buildZ tT_ok rfl rfl rfl rfl ?_) ?_; rotate_left 1; (focus ((repeat' first | (exact Fills.nil) | (refine' Fills.cons rfl rfl rfl rfl ?_)); done))) | (refine LDr.fl rfl rfl (.ev tT_ok rfl) ?_) | (refine LDr.fl rfl rfl (AnsL.bslF tT_ok rfl rfl rfl rfl rfl rfl rfl rfl rfl) ?_) | (refine kDLoad rfl ?_; first | (refine LDr.fl rfl rfl (AnsL.loadH tT_ok 5 hh rfl rfl rfl rfl) ?_) | (refine LDr.fl rfl rfl (AnsL.loadHE (q := 0 * 2) tT_ok 1 1 hh rfl rfl hA rfl rfl rfl rfl) ?_)) | (refine kDIdx rfl ?_; first | (refine LDr.fl rfl rfl (AnsL.idxE (j := 0) tT_ok rfl rfl rfl rfl rfl hkl rfl) ?_)) | (refine LDr.eff rfl rfl rfl ?_))
        | (refine lthen_n ?_)
        | (refine lblock_n ?_)
        | (refine' LPost.r1 (r := .cell 2 26) (.inl rfl) ?_ ?_; rotate_left 1; (focus (first | (exact Res1.cellH 6 tT_ok hh rfl rfl rfl rfl))))
        | (refine And.intro ?_ ?_)
        | (exact StsL.nil)
        | (refine StsL.cons ?_ ?_)
        | (refine StL.fl rfl rfl (.ev tT_ok rfl))
        | (refine StL.fl rfl rfl (AnsL.loadH tT_ok 5 hh rfl rfl rfl rfl))
        | (refine StL.fl rfl rfl (AnsL.idxE (j := 0) tT_ok rfl rfl rfl rfl rfl hkl rfl))
        | (refine StL.fl rfl rfl (AnsL.loadHE (q := 0 * 2) tT_ok 2 1 hh rfl rfl hA rfl rfl rfl rfl))
      rename List UInt8 => nm
      have hnm : nm.length ≤ 21 := by assumption
      have e2 : t.cols.map Col.toV ++ [V.agg [V.str nm, V.int .i64 x]] = (t.cols ++ [Col.mk nm x]).map Col.toV := by rw [List.map_append]; rfl
      rw [e2] at hh
      refine ⟨(⟨t.name, t.cols ++ [Col.mk nm x]⟩ :: tz, i, h), s, ⟨⟨Nat.le_trans hw.1.2 (by omega), fun y hy => ?_⟩, hi⟩, rfl, ?_⟩
      · rcases List.mem_cons.1 hy with rfl | hy
        · refine ⟨Nat.le_trans ht1 (by omega), by simp; omega, fun q hq => ?_⟩
          rcases List.mem_append.1 hq with hq | hq
          · exact Nat.le_trans (ht3 q hq) (by omega)
          · rw [List.mem_singleton] at hq; subst hq; exact hnm
        · exact (hw.2 y (List.mem_cons_of_mem _ hy)).mid
      · refine FinS.opn (sz := 2) (u := .agg [.str t.name, .slm (.is c) n 0 ((t.cols.map Col.toV).length + [V.agg [V.str nm, V.int .i64 x]].length)]) (d := (⟨t.name, t.cols ++ [Col.mk nm x]⟩ : Tab).toV) (dZ := tz.map Tab.toV) [.own (.slm (.is c) n 0 ((t.cols.map Col.toV).length + [V.agg [V.str nm, V.int .i64 x]].length)) (.sl 0 ((t.cols ++ [Col.mk nm x]).map Col.toV))] (hh.sel (.cons 2 rfl rfl (.cons 2 rfl rfl (.cons 2 rfl rfl (.cons 0 rfl rfl (.cons 0 rfl rfl (.drop (.drop (Sel.refl _))))))))) rfl rfl rfl (fun s' ls h => ?_) (by simp) (fun x hx => hcl x (by simp only [List.nil_append]; exact List.mem_cons_of_mem _ hx))
        cases h with
        | cons h1 t => exact .agg (.cons (.scal rfl) (.cons (Ow.rd h1) .nil))
    · skip
      have hw := (by assumption : (0 < y.1.length ∧ y.1.length ≤ 3) ∧ ∀ t ∈ y.1, t.small)
      obtain ⟨ts, c0, l0⟩ := y
      dsimp only at hw hh
      obtain ⟨t, tz, rfl⟩ : ∃ t tz, ts = t :: tz := by
        cases ts with
        | nil => simp at hw
        | cons t tz => exact ⟨t, tz, rfl⟩
      have hkl : 0 < (t :: tz).length := hw.1.1
      obtain ⟨ht1, ht2, ht3⟩ := hw.2 t (by simp)
      have hcl : ∀ x ∈ ([] : List V) ++ t.toV :: tz.map Tab.toV, x.cells.length = 2 := by
        intro x hx
        obtain ⟨y, _, rfl⟩ := List.mem_map.1 (show x ∈ (t :: tz).map Tab.toV from hx)
        rfl
      obtain ⟨A, Z, u, rest, hA, hr, hnc, hn, hh⟩ := Hold.openO (dA := []) (d := t.toV) (dZ := tz.map Tab.toV) 2 (hh.sel (.cons 2 rfl rfl (Sel.refl _))) hcl
      have hA : (V.flat A).length = 0 * 2 := hA
      obtain ⟨c1, l1, rfl, hh⟩ := Tab.unown (hh.sel (.cons 1 rfl rfl (Sel.refl _)))
      repeat' first
        | (refine kStore ?_ ; first | (refine LOps.storeH tT_ok 6 hh rfl rfl rfl rfl rfl rfl rfl rfl rfl ?_ ; intro s hh))
        | (refine kCallN 53 ?_ ; first | (refine LOps.drawH 4 rfl rfl ok53 hh rfl rfl ?_ (specl2Any_d hb) ?_ ; (focus (first | assumption | omega)) ; intro s x i h hq hi hh ; try dsimp only))
        | (refine kStore ?_ ; first | (refine LOps.storeHE (q := 0 * 2) tT_ok 2 0 hh rfl rfl hA rfl rfl rfl rfl rfl rfl rfl rfl rfl ?_ ; intro s hh))
        | (refine kOps ?_; first | (refine LOps.nil ?_) | (refine kLoad ?_; first | (refine LOps.ans (AnsL.loadH tT_ok 5 hh rfl rfl rfl rfl) ?_)))
        | (refine kWL ?_; first | (refine WL.seq ?_) | (refine WL.region (by kernel_rfl) ?_) | (refine WL.drawn (id := 8) [0, 1, 2, 3, 4, 5, 6] [3, 6] [[], [0], [], [2], [0, 1, 2, 3], [0, 1, 2, 3, 4], [0, 1, 2, 3, 4, 5]] (by kernel_rfl) (by kernel_rfl) ?_) | (refine WL.ret ?_))
        | (refine kDr ?_; first | (refine LDr.nil ?_) | (refine LDr.fl rfl rfl (.ev tT_ok rfl) ?_) | (refine kDLoad rfl ?_; first | (refine LDr.fl rfl rfl (AnsL.loadH tT_ok 5 hh rfl rfl rfl rfl) ?_)) | (refine kDIdx rfl ?_; first | (refine LDr.fl rfl rfl (AnsL.idxE (j := 0) tT_ok rfl rfl rfl rfl rfl hkl rfl) ?_)) | (refine LDr.eff rfl rfl rfl ?_))
        | (refine lthen_n ?_)
        | (refine lblock_n ?_)
        | (refine' LPost.r1 (r := .cell 2 26) (.inl rfl) ?_ ?_; rotate_left 1; (focus (first | (exact Res1.cellH 6 tT_ok hh rfl rfl rfl rfl))))
        | (refine And.intro ?_ ?_)
        | (exact StsL.nil)
        | (refine StsL.cons ?_ ?_)
        | (refine StL.fl rfl rfl (.ev tT_ok rfl))
        | (refine StL.fl rfl rfl (AnsL.loadH tT_ok 5 hh rfl rfl rfl rfl))
      have hnm : x.length ≤ 21 := hq
      refine ⟨(⟨x, t.cols⟩ :: tz, i, h), s, ⟨⟨Nat.le_trans hw.1.2 (by omega), fun y hy => ?_⟩, hi⟩, rfl, ?_⟩
      · rcases List.mem_cons.1 hy with rfl | hy
        · exact ⟨hnm, Nat.le_trans ht2 (by omega), fun q hq => Nat.le_trans (ht3 q hq) (by omega)⟩
        · exact (hw.2 y (List.mem_cons_of_mem _ hy)).mid
      · refine FinS.opn (sz := 2) (u := .agg [.str x, .slm (.is c1) l1 0 t.cols.length]) (d := (⟨x, t.cols⟩ : Tab).toV) (dZ := tz.map Tab.toV) [.own (.slm (.is c1) l1 0 t.cols.length) (.sl 0 (t.cols.map Col.toV))] (hh.sel (.cons 2 rfl rfl (.cons 2 rfl rfl (.cons 2 rfl rfl (.cons 1 rfl rfl (.cons 0 rfl rfl (.drop (.drop (Sel.refl _))))))))) rfl rfl rfl (fun s' ls h => ?_) (by simp) (fun x hx => hcl x (by simp only [List.nil_append]; exact List.mem_cons_of_mem _ hx))
        cases h with
        | cons h1 t => exact .agg (.cons (.scal rfl) (.cons (Ow.rd h1) .nil))
    · skip
      have hw := (by assumption : (0 < y.1.length ∧ y.1.length ≤ 3) ∧ ∀ t ∈ y.1, t.small)
      obtain ⟨ts, c0, l0⟩ := y
      dsimp only at hw hh
      obtain ⟨t, tz, rfl⟩ : ∃ t tz, ts = t :: tz := by
        cases ts with
        | nil => simp at hw
        | cons t tz => exact ⟨t, tz, rfl⟩
      have hkl : 0 < (t :: tz).length := hw.1.1
      obtain ⟨ht1, ht2, ht3⟩ := hw.2 t (by simp)
      have hcl : ∀ x ∈ ([] : List V) ++ t.toV :: tz.map Tab.toV, x.cells.length = 2 := by
        intro x hx
        obtain ⟨y, _, rfl⟩ := List.mem_map.1 (show x ∈ (t :: tz).map Tab.toV from hx)
        rfl
      obtain ⟨A, Z, u, rest, hA, hr, hnc, hn, hh⟩ := Hold.openO (dA := []) (d := t.toV) (dZ := tz.map Tab.toV) 2 (hh.sel (.cons 2 rfl rfl (Sel.refl _))) hcl
      have hA : (V.flat A).length = 0 * 2 := hA
      obtain ⟨c1, l1, rfl, hh⟩ := Tab.unown (hh.sel (.cons 1 rfl rfl (Sel.refl _)))
      repeat' first
        | (refine kStore ?_ ; first | (refine LOps.storeH tT_ok 6 hh rfl rfl rfl rfl rfl rfl rfl rfl rfl ?_ ; intro s hh))
        | (refine kStore ?_ ; first | (refine LOps.storeHE (q := 0 * 2) tT_ok 1 1 hh rfl rfl hA rfl rfl rfl rfl rfl rfl rfl rfl rfl ?_ ; intro s hh))
        | (refine kOps ?_; first | (refine LOps.nil ?_) | (refine LOps.ev tT_ok rfl ?_) | (refine kLoad ?_; first | (refine LOps.ans (AnsL.loadH tT_ok 5 hh rfl rfl rfl rfl) ?_)) | (refine kIdx ?_; first | (refine LOps.ans (AnsL.idxE (j := 0) tT_ok rfl rfl rfl rfl rfl hkl rfl) ?_)))
        | (refine kWL ?_; first | (refine WL.seq ?_) | (refine WL.region (by kernel_rfl) ?_) | (refine WL.ret ?_))
        | (refine lthen_n ?_)
        | (refine lblock_n ?_)
        | (refine' LPost.r1 (r := .cell 2 26) (.inl rfl) ?_ ?_; rotate_left 1; (focus (first | (exact Res1.cellH 6 tT_ok hh rfl rfl rfl rfl))))
      have key := FinS.opn (sz := 2) (u := .agg [.str t.name, .nilsl]) (d := (⟨t.name, []⟩ : Tab).toV) (dZ := tz.map Tab.toV) (n := (t :: tz).length) (c := c0) [] (hh.sel (.cons 1 rfl rfl (.cons 1 rfl rfl (.cons 1 rfl rfl (.drop (.cons 0 rfl rfl (.drop (.drop (Sel.refl _))))))))) rfl rfl rfl (fun s' ls h => .agg (.cons (.scal rfl) (.cons .nilsl .nil))) (by simp) (fun x hx => hcl x (by simp only [List.nil_append]; exact List.mem_cons_of_mem _ hx))
      refine ⟨(⟨t.name, []⟩ :: tz, i, _), s, ⟨⟨Nat.le_trans hw.1.2 (by omega), fun y hy => ?_⟩, hi⟩, rfl, key⟩
      rcases List.mem_cons.1 hy with rfl | hy
      · exact ⟨Nat.le_trans ht1 (by omega), by simp, fun q hq => by cases hq⟩
      · exact (hw.2 y (List.mem_cons_of_mem _ hy)).mid
    · skip
      have key : FinS s (.agg [.nilsl]) (⟨[]⟩ : Cat).toV _ := ⟨[], hh.sel (.cons 0 rfl rfl (.drop (.drop (.drop (Sel.refl _))))), rfl, fun s' ls h => .agg (.cons .nilsl .nil)⟩
      exact ⟨([], i, _), s, ⟨⟨by simp, fun y hy => by cases hy⟩, hi⟩, rfl, key⟩
    · skip
      have hw := (by assumption : (0 < y.1.length ∧ y.1.length ≤ 3) ∧ ∀ t ∈ y.1, t.small)
      rename_i r2 _ _ _ _ _ _ _ _ _ _ _ hcur _ _ _ _ _
      refine WL.loopH (fun y : (List Tab × Nat × Nat) × Int × Int => 5 - y.1.1.length) (fun _ => [(0, .ptr l 0), (2, .ptr r2 0), (3, .ptr n 0)])
        (fun y => .own (.slm (.is y.1.2.1) y.1.2.2 0 y.1.1.length) (.sl 0 (y.1.1.map Tab.toV)) :: .cell l (curC b y.2.1 y.2.2) :: .cell n [.slm (.is y.1.2.1) y.1.2.2 0 y.1.1.length] :: .cell r2 [.nilsl] :: H)
        (fun y => ((0 < y.1.1.length ∧ y.1.1.length ≤ 5) ∧ ∀ t ∈ y.1.1, t.mid) ∧ 0 ≤ y.2.1) (y, i, hcur) ⟨⟨⟨hw.1.1, Nat.le_trans hw.1.2 (by omega)⟩, fun t ht => (hw.2 t ht).mid⟩, hi⟩ ⟨rfl, rfl, rfl, trivial⟩ hh (by (repeat' first | (exact Sel.nil) | (exact Sel.refl _) | (refine' Sel.p ?_ ?_; rotate_left 1; (focus (((repeat' first | (exact Pick.here) | (refine' Pick.there ?_)); done)))))) (fun y s hI hh => ?_)
      obtain ⟨⟨ts, c0, l0⟩, i, hc2⟩ := y
      obtain ⟨⟨⟨hI1, hI2⟩, hI3⟩, hi⟩ := hI
      dsimp only at hI1 hI2 hI3 hi hh ⊢
      by_cases h4 : ts.length ≤ 4
      · obtain ⟨d, hd1, hd2⟩ := specDigits_1 (n := (ts.length : Int)) ⟨by omega, by omega⟩
        repeat' first
          | (refine kStore ?_ ; first | (refine LOps.storeH tT_ok 2 hh rfl rfl rfl rfl rfl rfl rfl rfl rfl ?_ ; intro s hh) | (refine LOps.storeH tT_ok 3 hh rfl rfl rfl rfl rfl rfl rfl rfl rfl ?_ ; intro s hh))
          | (refine kBsl ?_ ; first | (refine' LOps.bslO (d := 74) tT_ok rfl rfl rfl rfl rfl rfl rfl rfl hh ?_ ?_ ?_ ; rotate_left 2 ; (focus ((repeat' first | (exact ConsOL.nil) | (exact ConsO.scal rfl) | (refine' ConsOL.cons ?_ ?_) | (refine' ConsO.agg ?_)); done)) ; (focus ((repeat' first | (exact ElsH.of rfl)); done)) ; intro s n hh))
          | (refine kApp ?_ ; first | (refine' LOps.appW tT_ok 2 rfl rfl rfl rfl rfl rfl rfl rfl rfl rfl hh ?_ ?_ ?_ (AppB.of ?_ rfl) ?_ ; rotate_left 2 ; (focus (first | (intro x hx; obtain ⟨y, _, rfl⟩ := List.mem_map.1 hx; first | rfl | exact PE.cells_len _ | exact PE.planV_len _))) ; (focus ((repeat' first | (exact ConsOL.nil) | (exact ConsO.scal rfl) | (refine' ConsO.op ?_; ((repeat' first | (exact Pick.here) | (refine' Pick.there ?_)); done)) | (refine' ConsOL.cons ?_ ?_) | (refine' ConsO.agg ?_)); done)) ; (focus ((repeat' first | (exact Elems.of rfl)); done)) ; (focus (first | omega | (simp ; omega))) ; intro s c n hh))
          | (refine kCallN 52 ?_ ; first | (refine LOps.drawH 1 rfl rfl ok52 hh rfl rfl ?_ (specl1Below_d hb (by omega)) ?_ ; (focus (first | assumption | omega)) ; intro s x i h hq hi hh ; try dsimp only))
          | (refine kOps ?_; first | (refine LOps.nil ?_) | (refine kLoad ?_; first | (refine LOps.ans (AnsL.loadH tT_ok 2 hh rfl rfl rfl rfl) ?_)) | (refine kCallN 54 ?_; first | (refine LOps.ans (AnsL.callP rfl rfl rfl (ok54) (hd2 _)) ?_)))
          | (refine kWL ?_; first | (refine WL.seq ?_) | (refine WL.region (by kernel_rfl) ?_) | (refine WL.drawn (id := 14) [0, 1, 2, 3, 4, 5, 6] [4] [[], [0], [0, 1], [], [3], [3, 4], [0, 1, 2, 3, 4, 5]] (by kernel_rfl) (by kernel_rfl) ?_) | (refine WL.drawnO (id := 15) (.fl 0 (.fl 1 (.fl 2 (.fl 3 (.fl 4 (.fl 7 (.fl 8 (.fl 9 (.fl 10 (.ef 5 (.fl 6 (.ef 11 (.fl 12 (.fl 13 (.ef 14 (.fl 15 (.ef 16 .done .stop)) .stop))) .stop)) (.ef 11 (.ef 5 (.fl 6 (.fl 12 (.fl 13 (.ef 14 (.fl 15 (.ef 16 .done .stop)) .stop)))) .stop) .stop))))))))))) [5, 11, 14, 16] [[], [0], [], [2], [2, 3], [2, 3, 4], [2, 3, 4, 5], [], [], [], [], [7, 8, 9, 10], [2, 3, 4, 5, 6, 7, 8, 9, 10, 11], [2, 3, 4, 5, 6, 7, 8, 9, 10, 11, 12], [0, 1, 2, 3, 4, 5, 6, 7, 8, 9, 10, 11, 12, 13], [0, 1, 2, 3, 4, 5, 6, 7, 8, 9, 10, 11, 12, 13, 14], [0, 1, 2, 3, 4, 5, 6, 7, 8, 9, 10, 11, 12, 13, 14, 15]] (by kernel_rfl) (by kernel_rfl) ?_) | (refine WL.block ?_) | (refine WL.exit ?_) | (refine WL.skip ?_) | (refine WL.ret ?_) | (refine kCond ?_; first | (refine WL.cond rfl (fun h => ?_) (fun h => ?_))))
          | (refine kDt ?_; first | (exact LDt.stop) | (refine LDt.done ?_) | (refine LDt.fl rfl (.ev tT_ok rfl) ?_) | (refine LDt.fl rfl (AnsL.bslF tT_ok rfl rfl rfl rfl rfl rfl rfl rfl rfl) ?_) | (refine LDt.fl rfl (AnsL.loadH tT_ok 2 hh rfl rfl rfl rfl) ?_) | (refine LDt.fl rfl (AnsL.cat rfl rfl ?_) ?_; (focus (exact le_maxLen (by simp <;> omega)))) | (refine LDt.ef rfl rfl ?_ ?_))
          | (refine kDr ?_; first | (refine LDr.nil ?_) | (refine LDr.fl rfl rfl (.ev tT_ok rfl) ?_) | (refine kDLoad rfl ?_; first | (refine LDr.fl rfl rfl (AnsL.loadH tT_ok 2 hh rfl rfl rfl rfl) ?_)) | (refine kDBin rfl ?_; first | (refine LDr.fl rfl rfl (AnsL.add rfl rfl ?_) ?_; (focus (constructor <;> omega)))) | (refine LDr.eff rfl rfl rfl ?_))
          | (refine lthen_n ?_)
          | (refine lthen_e ?_)
          | (refine lblock_n ?_)
          | (refine lblock_e ?_)
          | (refine lbackH_e ?_)
          | (refine' LPost.r1 (r := .cell 2 26) (.inl rfl) ?_ ?_; rotate_left 1; (focus (first | (exact Res1.cellH 3 tT_ok hh rfl rfl rfl rfl))))
          | (refine And.intro ?_ ?_)
          | (exact StsL.nil)
          | (refine StsL.cons ?_ ?_)
          | (refine StL.fl rfl rfl (.ev tT_ok rfl))
          | (refine StL.fl rfl rfl (AnsL.loadH tT_ok 2 hh rfl rfl rfl rfl))
          | (refine StL.fl rfl rfl (AnsL.loadH tT_ok 3 hh rfl rfl rfl rfl))
          | (refine StL.fl rfl rfl (AnsL.cat rfl rfl ?_); (focus (exact le_maxLen (by simp <;> omega))))
        · skip
          all_goals
            try simp only [PE.q_eq, List.length_append, List.length_map, List.length_cons, List.length_nil, Nat.zero_add, Tab.toV, Col.toV, xcols] at hh
            refine' lbackH.of (((ts ++ [Tab.mk ([120] ++ d) xcols], _, _), _, _)) ?_ hh ?_ ?_ ?_
            rotate_left 5
            · dsimp only; (try simp only [List.map_append, List.map_cons, List.map_nil, PE.vS, List.length_append, List.length_map, List.length_cons, List.length_nil, Nat.zero_add]); (repeat' first | (exact Sel.nil) | (exact Sel.refl _) | (refine' Sel.p ?_ ?_; rotate_left 1; (focus (((repeat' first | (exact Pick.here) | (refine' Pick.there ?_)); done))))); done
            · dsimp only; refine ⟨⟨⟨by simp, by simp; omega⟩, fun t ht => ?_⟩, by assumption⟩; rcases List.mem_append.1 ht with ht | ht; exact hI3 t ht; rw [List.mem_singleton] at ht; subst ht; exact xtab_mid hd1
            · dsimp only; first | omega | (simp; omega) | (simp_all; omega)
            · repeat' first | exact SubL.nil | (refine SubL.mk rfl ?_ ?_) | rfl | (simp; done) | (simp; omega)
        · skip
          all_goals
            try simp only [PE.q_eq, List.length_append, List.length_map, List.length_cons, List.length_nil, Nat.zero_add, Tab.toV, Col.toV, xcols] at hh
            refine' lbackH.of (((ts ++ [Tab.mk ([120] ++ d) xcols], _, _), _, _)) ?_ hh ?_ ?_ ?_
            rotate_left 5
            · dsimp only; (try simp only [List.map_append, List.map_cons, List.map_nil, PE.vS, List.length_append, List.length_map, List.length_cons, List.length_nil, Nat.zero_add]); (repeat' first | (exact Sel.nil) | (exact Sel.refl _) | (refine' Sel.p ?_ ?_; rotate_left 1; (focus (((repeat' first | (exact Pick.here) | (refine' Pick.there ?_)); done))))); done
            · dsimp only; refine ⟨⟨⟨by simp, by simp; omega⟩, fun t ht => ?_⟩, by assumption⟩; rcases List.mem_append.1 ht with ht | ht; exact hI3 t ht; rw [List.mem_singleton] at ht; subst ht; exact xtab_mid hd1
            · dsimp only; first | omega | (simp; omega) | (simp_all; omega)
            · repeat' first | exact SubL.nil | (refine SubL.mk rfl ?_ ?_) | rfl | (simp; done) | (simp; omega)
        have key : FinS s (.agg [.slm (.is c0) l0 0 ts.length]) (⟨ts⟩ : Cat).toV _ := FinS.ofO hh (.agg (.cons (.own 1 rfl rfl) .nil)) (.cons 0 rfl rfl (.drop (.drop (Sel.refl _))))
        exact ⟨(ts, i, _), s, ⟨⟨hI2, hI3⟩, hi⟩, rfl, key⟩
      · skip
        repeat' first
          | (refine kStore ?_ ; first | (refine LOps.storeH tT_ok 3 hh rfl rfl rfl rfl rfl rfl rfl rfl rfl ?_ ; intro s hh))
          | (refine kCallN 52 ?_ ; first | (refine LOps.drawH 1 rfl rfl ok52 hh rfl rfl ?_ (specl1Below_d hb (by omega)) ?_ ; (focus (first | assumption | omega)) ; intro s x i h hq hi hh ; try dsimp only))
          | (refine kOps ?_; first | (refine LOps.nil ?_) | (refine kLoad ?_; first | (refine LOps.ans (AnsL.loadH tT_ok 2 hh rfl rfl rfl rfl) ?_)))
          | (refine kWL ?_; first | (refine WL.seq ?_) | (refine WL.region (by kernel_rfl) ?_) | (refine WL.drawn (id := 14) [0, 1, 2, 3, 4, 5, 6] [4] [[], [0], [0, 1], [], [3], [3, 4], [0, 1, 2, 3, 4, 5]] (by kernel_rfl) (by kernel_rfl) ?_) | (refine WL.exit ?_) | (refine WL.ret ?_) | (refine kCond ?_; first | (refine WL.condF' rfl ?_ ?_; (focus (first | (simp only [decide_eq_true_eq, decide_eq_false_iff_not, Bool.not_eq_true', Bool.not_eq_false', Int.ofNat_lt, Int.ofNat_le, Int.ofNat_inj, not_true_eq_false, not_false_eq_true]; omega))))))
          | (refine kDr ?_; first | (refine LDr.nil ?_) | (refine LDr.fl rfl rfl (.ev tT_ok rfl) ?_) | (refine kDLoad rfl ?_; first | (refine LDr.fl rfl rfl (AnsL.loadH tT_ok 2 hh rfl rfl rfl rfl) ?_)) | (refine kDBin rfl ?_; first | (refine LDr.fl rfl rfl (AnsL.add rfl rfl ?_) ?_; (focus (constructor <;> omega)))) | (refine LDr.eff rfl rfl rfl ?_))
          | (refine lthen_n ?_)
          | (refine lthen_e ?_)
          | (refine lblock_n ?_)
          | (refine lblock_e ?_)
          | (refine lbackH_e ?_)
          | (refine' LPost.r1 (r := .cell 2 26) (.inl rfl) ?_ ?_; rotate_left 1; (focus (first | (exact Res1.cellH 3 tT_ok hh rfl rfl rfl rfl))))
          | (refine And.intro ?_ ?_)
          | (exact StsL.nil)
          | (refine StsL.cons ?_ ?_)
          | (refine StL.fl rfl rfl (.ev tT_ok rfl))
          | (refine StL.fl rfl rfl (AnsL.loadH tT_ok 2 hh rfl rfl rfl rfl))
        have key : FinS s (.agg [.slm (.is c0) l0 0 ts.length]) (⟨ts⟩ : Cat).toV _ := FinS.ofO hh (.agg (.cons (.own 1 rfl rfl) .nil)) (.cons 0 rfl rfl (.drop (.drop (Sel.refl _))))
        exact ⟨(ts, i, _), s, ⟨⟨hI2, hI3⟩, hi⟩, rfl, key⟩
    · skip
      have hw := (by assumption : (0 < y.1.length ∧ y.1.length ≤ 3) ∧ ∀ t ∈ y.1, t.small)
      have key : FinS s (.agg [.slm (.is y.2.1) y.2.2 0 y.1.length]) (⟨y.1⟩ : Cat).toV _ := FinS.ofO hh (.agg (.cons (.own 2 rfl rfl) .nil)) (.cons 0 rfl rfl (.drop (.drop (Sel.refl _))))
      exact ⟨(y.1, i, _), s, ⟨⟨Nat.le_trans hw.1.2 (by omega), fun t ht => (hw.2 t ht).mid⟩, hi⟩, rfl, key⟩
  exact (VCalls.frzS hmain).mono fun v t ⟨x, s', h1, h2, h3, h4⟩ => ⟨x.1, s', x.2.1, x.2.2, h1.1, h2, h1.2, h3, h4⟩

end Go.Proofs.Ytoagpmhdgllchaa
