/-
  The law on tables and columns found by name. Own work; no condition.
-/
import Derived.Test.YtkdphhopgmjjcaaDCatE
import Derived.Test.YtkdphhopgmjjcaaDCat2
import Derived.Test.YtkdphhopgmjjcaaDTypes
import Derived.Test.YtkdphhopgmjjcaaDBig
namespace Go.Proofs.Ytkdphhopgmjjcaa
open Go
set_option linter.unusedSimpArgs false
set_option linter.unusedVariables false

theorem findI_le {α : Type} {p : α → Bool} : ∀ (l : List α) (i : Nat) (n : Int), 0 ≤ n → ∀ h : i < l.length, p l[i] = true → n ≤ findI p l n ∧ findI p l n ≤ n + i
  | [], i, n, _, h, _ => by simp at h
  | x :: xs, 0, n, hn, h, hp => by
    have hp' : p x = true := hp
    unfold findI
    rw [if_pos hp']
    omega
  | x :: xs, i + 1, n, hn, h, hp => by
    unfold findI
    split
    · omega
    · have := findI_le xs i (n + 1) (by omega) (by simpa using h) hp
      omega
theorem allI_at {α : Type} {p : Nat → α → Bool} : ∀ (l : List α) (n i : Nat), allI p l n = true → ∀ h : i < l.length, p (n + i) l[i] = true
  | [], n, i, _, h => by simp at h
  | x :: xs, n, 0, ha, h => by
    simp only [allI, Bool.and_eq_true] at ha
    exact ha.1
  | x :: xs, n, i + 1, ha, h => by
    simp only [allI, Bool.and_eq_true] at ha
    have := allI_at xs (n + 1) i ha.2 (by simpa using h)
    rw [show n + 1 + i = n + (i + 1) by omega] at this
    exact this
theorem tab_at {c : Cat} {i : Nat} (h : i < c.tables.length) : 0 ≤ c.at c.tables[i].name ∧ c.at c.tables[i].name ≤ i := by
  have := findI_le (p := tableP c.tables[i].name) c.tables i 0 (Int.le_refl _) h (by simp [tableP])
  unfold Cat.at
  omega
theorem tab_eq {c : Cat} {i : Nat} (h : i < c.tables.length) (hc : catOk c = true) : c.at c.tables[i].name = i := by
  unfold catOk at hc
  rw [Bool.and_eq_true] at hc
  have := allI_at c.tables 0 i hc.2 h
  simp only [rowOk, Bool.and_eq_true, decide_eq_true_eq, Nat.zero_add] at this
  exact this.2
theorem col_at {t : Tab} {k : Nat} (h : k < t.cols.length) : 0 ≤ t.at t.cols[k].name ∧ t.at t.cols[k].name ≤ k := by
  have := findI_le (p := colP t.cols[k].name) t.cols k 0 (Int.le_refl _) h (by simp [colP])
  unfold Tab.at
  omega
theorem implTypesOf_q (t : Tab) (ht : t.wt ≤ 1048576) (s : S) : VCalls Try.prog 14 [t.toV] s (fun v s' => v = ints t.types ∧ s' = s) :=
  VCalls.pureOf (plainL_cons (v := t.toV) (plainL_cons rfl (plainL_cons (plain_ColS _) rfl)) rfl) (plain_IntS _) (fun u => implTypesOf_o t ht u) s
theorem Tab.mid_wt {t : Tab} (h : t.mid) : t.wt ≤ 200 := by
  obtain ⟨h1, h2, h3⟩ := h
  have e : slW Col.wt t.cols ≤ t.cols.length * 22 := by
    generalize t.cols = l at h3
    induction l with
    | nil => exact Nat.le_refl _
    | cons c l ih =>
      have a1 := h3 c (by simp)
      have a2 := ih fun x hx => h3 x (by simp [hx])
      have a3 : slW Col.wt (c :: l) = l.length + 1 + (c.name.length + sumW Col.wt l) := by simp [slW, sumW, Col.wt]
      have a4 : slW Col.wt l = l.length + sumW Col.wt l := rfl
      simp only [List.length_cons]
      omega
  have m : t.cols.length * 22 ≤ 4 * 22 := Nat.mul_le_mul_right _ h2
  simp only [Tab.wt]
  omega
theorem Cat.mid_wt {ts : List Tab} (h : ts.length ≤ 5) (hs : ∀ t ∈ ts, t.mid) : (⟨ts⟩ : Cat).wt ≤ 1048576 := by
  have e : slW Tab.wt ts ≤ ts.length * 201 := by
    clear h
    induction ts with
    | nil => exact Nat.le_refl _
    | cons c l ih =>
      have a1 := Tab.mid_wt (hs c (by simp))
      have a2 := ih fun x hx => hs x (by simp [hx])
      simp only [slW, sumW, List.length_cons, List.map_cons, List.sum_cons] at a2 ⊢
      omega
  have m : ts.length * 201 ≤ 5 * 201 := Nat.mul_le_mul_right _ h
  simp only [Cat.wt]
  omega
theorem specDrawCatalogOk_d {b : V} (hb : Bytes b) : DrwAll Try.prog 9 b (fun ts : List Tab => (⟨ts⟩ : Cat).toV) (fun ts => ts.length ≤ 5 ∧ ∀ t ∈ ts, t.mid) := by
  intro s H hh
  refine LCalls.body0 Try.func9 rfl (by kernel_rfl) ?_
  repeat' first
    | (refine kAlloc ?_ ; refine LOps.allocH tT_ok hh rfl rfl ?_ ; intro s n hh)
    | (refine kStore ?_ ; first | (refine LOps.storeH tT_ok 1 hh rfl rfl rfl rfl rfl rfl rfl rfl rfl ?_ ; intro s hh))
    | (refine kCallN 15 ?_ ; refine LOps.drawNew rfl rfl ok15 hh (specl1New_d hb) ?_ ; intro s m h hh)
    | (refine kCallN 21 ?_ ; first | (refine LOps.drawH 0 rfl rfl ok21 hh rfl rfl ?_ (specl16Draw_f hb) ?_ ; (focus (first | assumption | omega)) ; intro s x i h hq hi hh ; try dsimp only))
    | (refine kOps ?_; first | (refine LOps.nil ?_) | (refine LOps.ev tT_ok rfl ?_))
    | (refine kWL ?_; first | (refine WL.seq ?_) | (refine WL.region (by kernel_rfl) ?_) | (refine WL.ret ?_))
    | (refine lthen_n ?_)
    | (refine' LPost.r1 (r := .cell 2 38) (.inl rfl) ?_ ?_; rotate_left 1; (focus (first | (exact Res1.cellH 1 tT_ok hh rfl rfl rfl rfl))))
  exact DrwAll.fin (x := x) hq rfl hh (by repeat' first | (exact Sel.refl _) | (refine Sel.drop ?_))
theorem AnsL.gtrF {P : Program} {L : Kn} {s : S} {T U : TypeId} {x y : Operand} {k : IntKind} {m n : Int} (hx : opd L x = some (.int k m)) (hy : opd L y = some (.int k n)) (h : ¬ m > n) : AnsL P (.binOp .gtr T x y U) L s (.bool false) :=
  .of fun σ hσ _ _ _ _ _ => by
    simp only [vop, opd_eq hσ hx, opd_eq hσ hy, vbin, Option.bind_some, Option.map_some]
    simp [h]
theorem AnsL.lssF {P : Program} {L : Kn} {s : S} {T U : TypeId} {x y : Operand} {k : IntKind} {m n : Int} (hx : opd L x = some (.int k m)) (hy : opd L y = some (.int k n)) (h : ¬ m < n) : AnsL P (.binOp .lss T x y U) L s (.bool false) :=
  .of fun σ hσ _ _ _ _ _ => by
    simp only [vop, opd_eq hσ hx, opd_eq hσ hy, vbin, Option.bind_some, Option.map_some]
    simp [h]
set_option maxHeartbeats 4000000 in
theorem lawCatalogAtL_v {b : V} (hb : Bytes b) (s : S) : VCalls Try.prog 4 [b] s (fun v _ => v = .bool true) := by
  obtain ⟨c, hbig⟩ := big_v hb
  have hh : Hold s s.next [] := .start _ _
  refine LCalls.body Try.func4 rfl (by kernel_rfl) ?_
  cases c
  · skip
    repeat' first
      | (refine kAlloc ?_ ; refine LOps.allocH tT_ok hh rfl rfl ?_ ; intro s n hh)
      | (refine kStore ?_ ; first | (refine LOps.storeH tT_ok 0 hh rfl rfl rfl rfl rfl rfl rfl rfl rfl ?_ ; intro s hh))
      | (refine kCallN 9 ?_ ; refine LOps.drawAll rfl rfl ok9 hh (specDrawCatalogOk_d hb) ?_ ; intro s x hq hh)
      | (refine kOps ?_; first | (refine LOps.nil ?_) | (refine LOps.ev tT_ok rfl ?_) | (refine kCallN 5 ?_; first | (refine LOps.ans (AnsL.callP rfl rfl rfl (ok5) (hbig _)) ?_)))
      | (refine kWL ?_; first | (refine WL.seq ?_) | (refine WL.region (by kernel_rfl) ?_) | (refine WL.drawn (id := 4) [0, 2, 1, 3, 4] [1, 3] [[], [0], [], [0, 1, 2], [0, 1, 2, 3]] (by kernel_rfl) (by kernel_rfl) ?_) | (refine WL.skip ?_) | (refine kCond ?_; first | (refine WL.condF rfl ?_)))
      | (refine kDr ?_; first | (refine kDLoad rfl ?_; first | (refine LDr.fl rfl rfl (AnsL.loadH tT_ok 0 hh rfl rfl rfl rfl) ?_)) | (refine LDr.eff rfl rfl rfl ?_))
      | (refine lthen_n ?_)
    obtain ⟨h1, h2⟩ := hq
    have hcw := Cat.mid_wt h1 h2
    have hI := fun t => implCatalogOk_v ⟨x⟩ hcw t
    have hS := fun t => specCatalogOk_v ⟨x⟩ hcw t
    cases hok : catOk ⟨x⟩
    · rw [hok] at hI hS
      repeat' first
        | (refine kOps ?_; first | (refine LOps.nil ?_) | (refine LOps.ev tT_ok rfl ?_) | (refine kCallN 10 ?_; first | (refine LOps.ans (AnsL.callP rfl rfl rfl (ok10) (hI _)) ?_)) | (refine kCallN 11 ?_; first | (refine LOps.ans (AnsL.callP rfl rfl rfl (ok11) (hS _)) ?_)))
        | (refine kWL ?_; first | (refine WL.seq ?_) | (refine WL.region (by kernel_rfl) ?_) | (refine WL.block ?_) | (refine WL.skip ?_) | (refine kCond ?_; first | (refine WL.condF rfl ?_)))
        | (refine kDr ?_; first | (refine LDr.nil ?_) | (refine LDr.fl rfl rfl (.ev tT_ok rfl) ?_) | (refine LDr.eff rfl rfl rfl ?_))
        | (refine lthen_n ?_)
        | (refine And.intro ?_ ?_)
        | (exact StsL.nil)
        | (refine StsL.cons ?_ ?_)
        | (refine StL.fl rfl rfl (AnsL.loadH tT_ok 0 hh rfl rfl rfl rfl))
      refine WL.loopH (fun i : Nat => x.length - i) (fun i => [(3, .ptr n 0), (4, .int .i64 (i : Int))]) (fun _ => [.cell n [.sl 0 (x.map Tab.toV)]])
        (fun i => i ≤ x.length) 0 (Nat.zero_le _) ⟨rfl, rfl, trivial⟩ hh (Sel.refl _) (fun i s hi hh => ?_)
      try dsimp only at hi hh ⊢
      rcases Nat.lt_or_ge i x.length with hlt | hge
      · have hga : (x.map Tab.toV)[i]? = some (Tab.toV x[i]) := by simp [hlt]
        obtain ⟨hA0, hA1⟩ := tab_at (c := ⟨x⟩) hlt
        have hA2 := tab_eq (c := ⟨x⟩) (i := i) hlt
        have hTA := fun t => implTableAt_v ⟨x⟩ x[i].name hcw t
        have htm := h2 x[i] (List.getElem_mem hlt)
        generalize x[i] = t at hga hA0 hA1 hA2 hTA htm
        generalize (⟨x⟩ : Cat).at t.name = A at hA0 hA1 hA2 hTA
        have htw : t.wt ≤ 1048576 := Nat.le_trans (Tab.mid_wt htm) (by decide)
        have hTy := fun s => implTypesOf_q t htw s
        have hkb : t.cols.length ≤ 4 := htm.2.1
        have hA3 : True := trivial
        repeat' first
          | (refine kAlloc ?_ ; refine LOps.allocH tT_ok hh rfl rfl ?_ ; intro s n hh)
          | (refine kStore ?_ ; first | (refine LOps.storeH tT_ok 0 hh rfl rfl rfl rfl rfl rfl rfl rfl rfl ?_ ; intro s hh))
          | (refine kOps ?_; first | (refine LOps.nil ?_) | (refine kG ?_; first | (refine LOps.gT rfl rfl rfl ?_) | (refine LOps.gF rfl rfl rfl ?_) | (refine LOps.gD false rfl rfl rfl ?_ ?_; (focus (first | (simp only [decide_eq_true_eq, decide_eq_false_iff_not, Bool.not_eq_true', Bool.not_eq_false', Int.ofNat_lt, Int.ofNat_le, Int.ofNat_inj, not_true_eq_false, not_false_eq_true]; omega))))) | (refine LOps.ev tT_ok rfl ?_) | (refine kLoad ?_; first | (refine LOps.ans (AnsL.loadH tT_ok 0 hh rfl rfl rfl rfl) ?_) | (refine LOps.ans (AnsL.loadH tT_ok 1 hh rfl rfl rfl rfl) ?_)) | (refine kLen ?_; first | (refine LOps.ans (AnsL.lenM tT_ok rfl rfl rfl) ?_)) | (refine kIdx ?_; first | (refine LOps.ans (AnsL.idx tT_ok rfl rfl rfl rfl rfl hga rfl rfl) ?_)) | (refine kCallN 11 ?_; first | (refine LOps.ans (AnsL.callP rfl rfl rfl (ok11) (hS _)) ?_)) | (refine kCallN 12 ?_; first | (refine LOps.ans (AnsL.callP rfl rfl rfl (ok12) (hTA _)) ?_)))
          | (refine kWL ?_; first | (refine WL.seq ?_) | (refine WL.region (by kernel_rfl) ?_) | (refine WL.block ?_) | (refine WL.skip ?_) | (refine kCond ?_; first | (refine WL.condF rfl ?_) | (refine WL.condT' rfl ?_ ?_; (focus (first | (simp only [decide_eq_true_eq, decide_eq_false_iff_not, Bool.not_eq_true', Bool.not_eq_false', Int.ofNat_lt, Int.ofNat_le, Int.ofNat_inj, not_true_eq_false, not_false_eq_true]; omega))))))
          | (refine lthen_n ?_)
        obtain ⟨m, rfl⟩ : ∃ q, q = n := ⟨n, rfl⟩
        refine WL.loopH (fun k : Nat => t.cols.length - k) (fun k => [(3, .ptr n 0), (4, .int .i64 (i : Int)), (5, .ptr m 0), (6, .int .i64 (k : Int))]) (fun _ => [.cell m [.str t.name, .sl 0 (t.cols.map Col.toV)], .cell n [.sl 0 (x.map Tab.toV)]])
          (fun k => k ≤ t.cols.length) 0 (Nat.zero_le _) ⟨rfl, rfl, rfl, rfl, trivial⟩ hh (Sel.refl _) (fun k s hk hh => ?_)
        try dsimp only at hk hh ⊢
        rcases Nat.lt_or_ge k t.cols.length with hlk | hgk
        · have hgc : (t.cols.map Col.toV)[k]? = some (Col.toV t.cols[k]) := by simp [hlk]
          obtain ⟨hB0, hB1⟩ := col_at (t := t) hlk
          have hCA := fun s => implColAt_v t t.cols[k].name htw s
          have hgt : (t.types.map iV)[k]? = some (.int .i64 t.cols[k].type) := by simp [Tab.types, hlk, iV]
          have htl : t.types.length = t.cols.length := by simp [Tab.types]
          generalize t.cols[k] = c at hgc hB0 hB1 hCA hgt
          generalize t.at c.name = B at hB0 hB1 hCA
          repeat' first
            | (refine kDr ?_ ; refine LDr.fl rfl rfl (AnsL.gtrF rfl rfl ?_) ?_ ; (focus omega))
            | (refine kDr ?_ ; refine LDr.gT rfl rfl rfl rfl rfl (AnsL.lssF rfl rfl ?_) ?_ ; (focus omega))
            | (refine kOps ?_; first | (refine LOps.nil ?_) | (refine LOps.ev tT_ok rfl ?_) | (refine kLoad ?_; first | (refine LOps.ans (AnsL.loadH tT_ok 0 hh rfl rfl rfl rfl) ?_)) | (refine kLen ?_; first | (refine LOps.ans (AnsL.lenM tT_ok rfl rfl rfl) ?_)) | (refine kBin ?_; first | (refine LOps.ans (AnsL.add rfl rfl ?_) ?_; (focus (constructor <;> omega)))))
            | (refine kWL ?_; first | (refine WL.seq ?_) | (refine WL.region (by kernel_rfl) ?_) | (refine WL.drawn (id := 15) [0, 1, 2, 3, 4, 5, 6, 7, 8, 9, 10, 11, 12, 13, 14, 15, 16, 17, 18, 19, 20, 21, 22, 23, 24, 25, 26, 27, 28, 29, 30, 31, 32, 33, 34] [] [[], [], [1], [], [1, 2, 3], [1, 2, 3, 4], [1, 2, 3, 4, 5], [0, 1, 2, 3, 4, 5, 6], [], [0, 1, 2, 3, 4, 5, 6, 7, 8], [0, 1, 2, 3, 4, 5, 6, 7, 8, 9], [0, 1, 2, 3, 4, 5, 6, 7, 8, 9, 10], [0, 1, 2, 3, 4, 5, 6, 7, 8, 9, 10], [0, 1, 2, 3, 4, 5, 6, 7, 8, 9, 10, 12], [0, 1, 2, 3, 4, 5, 6, 7, 8, 9, 10], [0, 1, 2, 3, 4, 5, 6, 7, 8, 9, 10, 12, 13, 14], [0, 1, 2, 3, 4, 5, 6, 7, 8, 9, 10, 12, 13, 14, 15], [0, 1, 2, 3, 4, 5, 6, 7, 8, 9, 10, 12, 13, 14, 15, 16], [0, 1, 2, 3, 4, 5, 6, 7, 8, 9, 10, 11, 12, 13, 14, 15, 16, 17], [0, 1, 2, 3, 4, 5, 6, 7, 8, 9, 10, 11, 12, 13, 14, 15, 16, 17, 18], [0, 1, 2, 3, 4, 5, 6, 7, 8, 9, 10, 11, 12, 13, 14, 15, 16, 17, 18, 19], [0, 1, 2, 3, 4, 5, 6, 7, 8, 9, 10, 11, 12, 13, 14, 15, 16, 17, 18, 19, 20], [0, 1, 2, 3, 4, 5, 6, 7, 8, 9, 10, 11, 12, 13, 14, 15, 16, 17, 18, 19, 20, 21], [0, 1, 2, 3, 4, 5, 6, 7, 8, 9, 10, 11, 12, 13, 14, 15, 16, 17, 18, 19, 20, 21, 22], [0, 1, 2, 3, 4, 5, 6, 7, 8, 9, 10, 11, 12, 13, 14, 15, 16, 17, 18, 19, 20, 21], [0, 1, 2, 3, 4, 5, 6, 7, 8, 9, 10, 11, 12, 13, 14, 15, 16, 17, 18, 19, 20, 21, 22, 23, 24], [0, 1, 2, 3, 4, 5, 6, 7, 8, 9, 10, 11, 12, 13, 14, 15, 16, 17, 18, 19, 20, 21, 22, 23, 24, 25], [0, 1, 2, 3, 4, 5, 6, 7, 8, 9, 10, 11, 12, 13, 14, 15, 16, 17, 18, 19, 20, 21], [0, 1, 2, 3, 4, 5, 6, 7, 8, 9, 10, 11, 12, 13, 14, 15, 16, 17, 18, 19, 20, 21, 27], [0, 1, 2, 3, 4, 5, 6, 7, 8, 9, 10, 11, 12, 13, 14, 15, 16, 17, 18, 19, 20, 21], [0, 1, 2, 3, 4, 5, 6, 7, 8, 9, 10, 11, 12, 13, 14, 15, 16, 17, 18, 19, 20, 21, 27, 28, 29], [0, 1, 2, 3, 4, 5, 6, 7, 8, 9, 10, 11, 12, 13, 14, 15, 16, 17, 18, 19, 20, 21, 27, 28, 29, 30], [0, 1, 2, 3, 4, 5, 6, 7, 8, 9, 10, 11, 12, 13, 14, 15, 16, 17, 18, 19, 20, 21, 27, 28, 29, 30, 31], [0, 1, 2, 3, 4, 5, 6, 7, 8, 9, 10, 11, 12, 13, 14, 15, 16, 17, 18, 19, 20, 21, 22, 23, 24, 25, 26, 27, 28, 29, 30, 31, 32], [0, 1, 2, 3, 4, 5, 6, 7, 8, 9, 10, 11, 12, 13, 14, 15, 16, 17, 18, 19, 20, 21, 22, 23, 24, 25, 26, 27, 28, 29, 30, 31, 32, 33]] (by kernel_rfl) (by kernel_rfl) ?_) | (refine WL.block ?_) | (refine WL.skip ?_) | (refine kCond ?_; first | (refine WL.condT' rfl ?_ ?_; (focus (first | (simp only [decide_eq_true_eq, decide_eq_false_iff_not, Bool.not_eq_true', Bool.not_eq_false', Int.ofNat_lt, Int.ofNat_le, Int.ofNat_inj, not_true_eq_false, not_false_eq_true]; omega)))) | (refine WL.condF' rfl ?_ ?_; (focus (first | (simp <;> fail))))))
            | (refine kDr ?_; first | (refine LDr.nil ?_) | (refine LDr.fl rfl rfl (.ev tT_ok rfl) ?_) | (refine LDr.gT rfl rfl rfl rfl rfl (.ev tT_ok rfl) ?_) | (refine kDLoad rfl ?_; first | (refine LDr.fl rfl rfl (AnsL.loadH tT_ok 0 hh rfl rfl rfl rfl) ?_) | (refine LDr.gT rfl rfl rfl rfl rfl (AnsL.loadH tT_ok 0 hh rfl rfl rfl rfl) ?_)) | (refine kDIdx rfl ?_; first | (refine LDr.fl rfl rfl (AnsL.idx tT_ok rfl rfl rfl rfl rfl hgc rfl rfl) ?_) | (refine LDr.gT rfl rfl rfl rfl rfl (AnsL.idx tT_ok rfl rfl rfl rfl rfl hgc rfl rfl) ?_) | (refine LDr.gT rfl rfl rfl rfl rfl (AnsL.idx tT_ok rfl rfl rfl rfl rfl hgt rfl rfl) ?_)) | (refine kDCallN 13 rfl ?_; first | (refine LDr.fl rfl rfl (AnsL.callP rfl rfl rfl (ok13) (hCA _)) ?_) | (refine LDr.gT rfl rfl rfl rfl rfl (AnsL.callP rfl rfl rfl (ok13) (hCA _)) ?_)) | (refine kDCallN 14 rfl ?_; first | (refine LDr.gT rfl rfl rfl rfl rfl (AnsL.callP rfl rfl rfl (ok14) (hTy _)) ?_)))
            | (refine lthen_n ?_)
            | (refine lblock_n ?_)
          refine lbackH.of (k + 1) ?_ hh (Sel.refl _) hlk (by omega)
          exact ⟨rfl, rfl, rfl, rfl, trivial⟩
        · skip
          repeat' first
            | (refine kOps ?_; first | (refine LOps.nil ?_) | (refine LOps.ev tT_ok rfl ?_) | (refine kLoad ?_; first | (refine LOps.ans (AnsL.loadH tT_ok 0 hh rfl rfl rfl rfl) ?_)) | (refine kLen ?_; first | (refine LOps.ans (AnsL.lenM tT_ok rfl rfl rfl) ?_)) | (refine kBin ?_; first | (refine LOps.ans (AnsL.add rfl rfl ?_) ?_; (focus (constructor <;> omega)))))
            | (refine kWL ?_; first | (refine WL.seq ?_) | (refine WL.region (by kernel_rfl) ?_) | (refine WL.exit ?_) | (refine kCond ?_; first | (refine WL.condF' rfl ?_ ?_; (focus (first | (simp only [decide_eq_true_eq, decide_eq_false_iff_not, Bool.not_eq_true', Bool.not_eq_false', Int.ofNat_lt, Int.ofNat_le, Int.ofNat_inj, not_true_eq_false, not_false_eq_true]; omega))))))
            | (refine lthen_n ?_)
            | (refine lthen_e ?_)
            | (refine lblock_n ?_)
            | (refine lblock_e ?_)
            | (refine lbackH_e ?_)
          refine lbackH.of (i + 1) ?_ hh (.drop (Sel.refl _)) hlt (by omega)
          exact ⟨rfl, rfl, trivial⟩
      · skip
        repeat' first
          | (refine kOps ?_; first | (refine LOps.nil ?_) | (refine LOps.ev tT_ok rfl ?_) | (refine kLoad ?_; first | (refine LOps.ans (AnsL.loadH tT_ok 0 hh rfl rfl rfl rfl) ?_)) | (refine kLen ?_; first | (refine LOps.ans (AnsL.lenM tT_ok rfl rfl rfl) ?_)))
          | (refine kWL ?_; first | (refine WL.seq ?_) | (refine WL.region (by kernel_rfl) ?_) | (refine WL.exit ?_) | (refine WL.ret ?_) | (refine kCond ?_; first | (refine WL.condF' rfl ?_ ?_; (focus (first | (simp only [decide_eq_true_eq, decide_eq_false_iff_not, Bool.not_eq_true', Bool.not_eq_false', Int.ofNat_lt, Int.ofNat_le, Int.ofNat_inj, not_true_eq_false, not_false_eq_true]; omega))))))
          | (refine lthen_n ?_)
          | (refine lthen_e ?_)
          | (refine lblock_e ?_)
          | (refine lbackH_e ?_)
          | (refine LPost.r1 (r := .tmp 2) (.inl rfl) (Res1.tmp rfl) ?_)
        rfl
    · rw [hok] at hI hS
      repeat' first
        | (refine kOps ?_; first | (refine LOps.nil ?_) | (refine LOps.ev tT_ok rfl ?_) | (refine kCallN 10 ?_; first | (refine LOps.ans (AnsL.callP rfl rfl rfl (ok10) (hI _)) ?_)) | (refine kCallN 11 ?_; first | (refine LOps.ans (AnsL.callP rfl rfl rfl (ok11) (hS _)) ?_)))
        | (refine kWL ?_; first | (refine WL.seq ?_) | (refine WL.region (by kernel_rfl) ?_) | (refine WL.block ?_) | (refine WL.skip ?_) | (refine kCond ?_; first | (refine WL.condF rfl ?_)))
        | (refine kDr ?_; first | (refine LDr.nil ?_) | (refine LDr.fl rfl rfl (.ev tT_ok rfl) ?_) | (refine LDr.eff rfl rfl rfl ?_))
        | (refine lthen_n ?_)
        | (refine And.intro ?_ ?_)
        | (exact StsL.nil)
        | (refine StsL.cons ?_ ?_)
        | (refine StL.fl rfl rfl (AnsL.loadH tT_ok 0 hh rfl rfl rfl rfl))
      refine WL.loopH (fun i : Nat => x.length - i) (fun i => [(3, .ptr n 0), (4, .int .i64 (i : Int))]) (fun _ => [.cell n [.sl 0 (x.map Tab.toV)]])
        (fun i => i ≤ x.length) 0 (Nat.zero_le _) ⟨rfl, rfl, trivial⟩ hh (Sel.refl _) (fun i s hi hh => ?_)
      try dsimp only at hi hh ⊢
      rcases Nat.lt_or_ge i x.length with hlt | hge
      · have hga : (x.map Tab.toV)[i]? = some (Tab.toV x[i]) := by simp [hlt]
        obtain ⟨hA0, hA1⟩ := tab_at (c := ⟨x⟩) hlt
        have hA2 := tab_eq (c := ⟨x⟩) (i := i) hlt
        have hTA := fun t => implTableAt_v ⟨x⟩ x[i].name hcw t
        have htm := h2 x[i] (List.getElem_mem hlt)
        generalize x[i] = t at hga hA0 hA1 hA2 hTA htm
        generalize (⟨x⟩ : Cat).at t.name = A at hA0 hA1 hA2 hTA
        have htw : t.wt ≤ 1048576 := Nat.le_trans (Tab.mid_wt htm) (by decide)
        have hTy := fun s => implTypesOf_q t htw s
        have hkb : t.cols.length ≤ 4 := htm.2.1
        have hA3 : A = i := hA2 hok
        repeat' first
          | (refine kAlloc ?_ ; refine LOps.allocH tT_ok hh rfl rfl ?_ ; intro s n hh)
          | (refine kStore ?_ ; first | (refine LOps.storeH tT_ok 0 hh rfl rfl rfl rfl rfl rfl rfl rfl rfl ?_ ; intro s hh))
          | (refine kOps ?_; first | (refine LOps.nil ?_) | (refine kG ?_; first | (refine LOps.gT rfl rfl rfl ?_) | (refine LOps.gD false rfl rfl rfl ?_ ?_; (focus (first | (simp only [decide_eq_true_eq, decide_eq_false_iff_not, Bool.not_eq_true', Bool.not_eq_false', Int.ofNat_lt, Int.ofNat_le, Int.ofNat_inj, not_true_eq_false, not_false_eq_true]; omega))))) | (refine LOps.ev tT_ok rfl ?_) | (refine kLoad ?_; first | (refine LOps.ans (AnsL.loadH tT_ok 0 hh rfl rfl rfl rfl) ?_) | (refine LOps.ans (AnsL.loadH tT_ok 1 hh rfl rfl rfl rfl) ?_)) | (refine kLen ?_; first | (refine LOps.ans (AnsL.lenM tT_ok rfl rfl rfl) ?_)) | (refine kIdx ?_; first | (refine LOps.ans (AnsL.idx tT_ok rfl rfl rfl rfl rfl hga rfl rfl) ?_)) | (refine kCallN 11 ?_; first | (refine LOps.ans (AnsL.callP rfl rfl rfl (ok11) (hS _)) ?_)) | (refine kCallN 12 ?_; first | (refine LOps.ans (AnsL.callP rfl rfl rfl (ok12) (hTA _)) ?_)))
          | (refine kWL ?_; first | (refine WL.seq ?_) | (refine WL.region (by kernel_rfl) ?_) | (refine WL.block ?_) | (refine WL.skip ?_) | (refine kCond ?_; first | (refine WL.condT' rfl ?_ ?_; (focus (first | (simp only [decide_eq_true_eq, decide_eq_false_iff_not, Bool.not_eq_true', Bool.not_eq_false', Int.ofNat_lt, Int.ofNat_le, Int.ofNat_inj, not_true_eq_false, not_false_eq_true]; omega)))) | (refine WL.condF' rfl ?_ ?_; (focus (first | (simp only [decide_eq_true_eq, decide_eq_false_iff_not, Bool.not_eq_true', Bool.not_eq_false', Int.ofNat_lt, Int.ofNat_le, Int.ofNat_inj, not_true_eq_false, not_false_eq_true]; omega))))))
          | (refine lthen_n ?_)
        obtain ⟨m, rfl⟩ : ∃ q, q = n := ⟨n, rfl⟩
        refine WL.loopH (fun k : Nat => t.cols.length - k) (fun k => [(3, .ptr n 0), (4, .int .i64 (i : Int)), (5, .ptr m 0), (6, .int .i64 (k : Int))]) (fun _ => [.cell m [.str t.name, .sl 0 (t.cols.map Col.toV)], .cell n [.sl 0 (x.map Tab.toV)]])
          (fun k => k ≤ t.cols.length) 0 (Nat.zero_le _) ⟨rfl, rfl, rfl, rfl, trivial⟩ hh (Sel.refl _) (fun k s hk hh => ?_)
        try dsimp only at hk hh ⊢
        rcases Nat.lt_or_ge k t.cols.length with hlk | hgk
        · have hgc : (t.cols.map Col.toV)[k]? = some (Col.toV t.cols[k]) := by simp [hlk]
          obtain ⟨hB0, hB1⟩ := col_at (t := t) hlk
          have hCA := fun s => implColAt_v t t.cols[k].name htw s
          have hgt : (t.types.map iV)[k]? = some (.int .i64 t.cols[k].type) := by simp [Tab.types, hlk, iV]
          have htl : t.types.length = t.cols.length := by simp [Tab.types]
          generalize t.cols[k] = c at hgc hB0 hB1 hCA hgt
          generalize t.at c.name = B at hB0 hB1 hCA
          repeat' first
            | (refine kDr ?_ ; refine LDr.fl rfl rfl (AnsL.gtrF rfl rfl ?_) ?_ ; (focus omega))
            | (refine kDr ?_ ; refine LDr.gT rfl rfl rfl rfl rfl (AnsL.lssF rfl rfl ?_) ?_ ; (focus omega))
            | (refine kOps ?_; first | (refine LOps.nil ?_) | (refine LOps.ev tT_ok rfl ?_) | (refine kLoad ?_; first | (refine LOps.ans (AnsL.loadH tT_ok 0 hh rfl rfl rfl rfl) ?_)) | (refine kLen ?_; first | (refine LOps.ans (AnsL.lenM tT_ok rfl rfl rfl) ?_)) | (refine kBin ?_; first | (refine LOps.ans (AnsL.add rfl rfl ?_) ?_; (focus (constructor <;> omega)))))
            | (refine kWL ?_; first | (refine WL.seq ?_) | (refine WL.region (by kernel_rfl) ?_) | (refine WL.drawn (id := 15) [0, 1, 2, 3, 4, 5, 6, 7, 8, 9, 10, 11, 12, 13, 14, 15, 16, 17, 18, 19, 20, 21, 22, 23, 24, 25, 26, 27, 28, 29, 30, 31, 32, 33, 34] [] [[], [], [1], [], [1, 2, 3], [1, 2, 3, 4], [1, 2, 3, 4, 5], [0, 1, 2, 3, 4, 5, 6], [], [0, 1, 2, 3, 4, 5, 6, 7, 8], [0, 1, 2, 3, 4, 5, 6, 7, 8, 9], [0, 1, 2, 3, 4, 5, 6, 7, 8, 9, 10], [0, 1, 2, 3, 4, 5, 6, 7, 8, 9, 10], [0, 1, 2, 3, 4, 5, 6, 7, 8, 9, 10, 12], [0, 1, 2, 3, 4, 5, 6, 7, 8, 9, 10], [0, 1, 2, 3, 4, 5, 6, 7, 8, 9, 10, 12, 13, 14], [0, 1, 2, 3, 4, 5, 6, 7, 8, 9, 10, 12, 13, 14, 15], [0, 1, 2, 3, 4, 5, 6, 7, 8, 9, 10, 12, 13, 14, 15, 16], [0, 1, 2, 3, 4, 5, 6, 7, 8, 9, 10, 11, 12, 13, 14, 15, 16, 17], [0, 1, 2, 3, 4, 5, 6, 7, 8, 9, 10, 11, 12, 13, 14, 15, 16, 17, 18], [0, 1, 2, 3, 4, 5, 6, 7, 8, 9, 10, 11, 12, 13, 14, 15, 16, 17, 18, 19], [0, 1, 2, 3, 4, 5, 6, 7, 8, 9, 10, 11, 12, 13, 14, 15, 16, 17, 18, 19, 20], [0, 1, 2, 3, 4, 5, 6, 7, 8, 9, 10, 11, 12, 13, 14, 15, 16, 17, 18, 19, 20, 21], [0, 1, 2, 3, 4, 5, 6, 7, 8, 9, 10, 11, 12, 13, 14, 15, 16, 17, 18, 19, 20, 21, 22], [0, 1, 2, 3, 4, 5, 6, 7, 8, 9, 10, 11, 12, 13, 14, 15, 16, 17, 18, 19, 20, 21], [0, 1, 2, 3, 4, 5, 6, 7, 8, 9, 10, 11, 12, 13, 14, 15, 16, 17, 18, 19, 20, 21, 22, 23, 24], [0, 1, 2, 3, 4, 5, 6, 7, 8, 9, 10, 11, 12, 13, 14, 15, 16, 17, 18, 19, 20, 21, 22, 23, 24, 25], [0, 1, 2, 3, 4, 5, 6, 7, 8, 9, 10, 11, 12, 13, 14, 15, 16, 17, 18, 19, 20, 21], [0, 1, 2, 3, 4, 5, 6, 7, 8, 9, 10, 11, 12, 13, 14, 15, 16, 17, 18, 19, 20, 21, 27], [0, 1, 2, 3, 4, 5, 6, 7, 8, 9, 10, 11, 12, 13, 14, 15, 16, 17, 18, 19, 20, 21], [0, 1, 2, 3, 4, 5, 6, 7, 8, 9, 10, 11, 12, 13, 14, 15, 16, 17, 18, 19, 20, 21, 27, 28, 29], [0, 1, 2, 3, 4, 5, 6, 7, 8, 9, 10, 11, 12, 13, 14, 15, 16, 17, 18, 19, 20, 21, 27, 28, 29, 30], [0, 1, 2, 3, 4, 5, 6, 7, 8, 9, 10, 11, 12, 13, 14, 15, 16, 17, 18, 19, 20, 21, 27, 28, 29, 30, 31], [0, 1, 2, 3, 4, 5, 6, 7, 8, 9, 10, 11, 12, 13, 14, 15, 16, 17, 18, 19, 20, 21, 22, 23, 24, 25, 26, 27, 28, 29, 30, 31, 32], [0, 1, 2, 3, 4, 5, 6, 7, 8, 9, 10, 11, 12, 13, 14, 15, 16, 17, 18, 19, 20, 21, 22, 23, 24, 25, 26, 27, 28, 29, 30, 31, 32, 33]] (by kernel_rfl) (by kernel_rfl) ?_) | (refine WL.block ?_) | (refine WL.skip ?_) | (refine kCond ?_; first | (refine WL.condT' rfl ?_ ?_; (focus (first | (simp only [decide_eq_true_eq, decide_eq_false_iff_not, Bool.not_eq_true', Bool.not_eq_false', Int.ofNat_lt, Int.ofNat_le, Int.ofNat_inj, not_true_eq_false, not_false_eq_true]; omega)))) | (refine WL.condF' rfl ?_ ?_; (focus (first | (simp <;> fail))))))
            | (refine kDr ?_; first | (refine LDr.nil ?_) | (refine LDr.fl rfl rfl (.ev tT_ok rfl) ?_) | (refine LDr.gT rfl rfl rfl rfl rfl (.ev tT_ok rfl) ?_) | (refine kDLoad rfl ?_; first | (refine LDr.fl rfl rfl (AnsL.loadH tT_ok 0 hh rfl rfl rfl rfl) ?_) | (refine LDr.gT rfl rfl rfl rfl rfl (AnsL.loadH tT_ok 0 hh rfl rfl rfl rfl) ?_)) | (refine kDIdx rfl ?_; first | (refine LDr.fl rfl rfl (AnsL.idx tT_ok rfl rfl rfl rfl rfl hgc rfl rfl) ?_) | (refine LDr.gT rfl rfl rfl rfl rfl (AnsL.idx tT_ok rfl rfl rfl rfl rfl hgc rfl rfl) ?_) | (refine LDr.gT rfl rfl rfl rfl rfl (AnsL.idx tT_ok rfl rfl rfl rfl rfl hgt rfl rfl) ?_)) | (refine kDCallN 13 rfl ?_; first | (refine LDr.fl rfl rfl (AnsL.callP rfl rfl rfl (ok13) (hCA _)) ?_) | (refine LDr.gT rfl rfl rfl rfl rfl (AnsL.callP rfl rfl rfl (ok13) (hCA _)) ?_)) | (refine kDCallN 14 rfl ?_; first | (refine LDr.gT rfl rfl rfl rfl rfl (AnsL.callP rfl rfl rfl (ok14) (hTy _)) ?_)))
            | (refine lthen_n ?_)
            | (refine lblock_n ?_)
          refine lbackH.of (k + 1) ?_ hh (Sel.refl _) hlk (by omega)
          exact ⟨rfl, rfl, rfl, rfl, trivial⟩
        · skip
          repeat' first
            | (refine kOps ?_; first | (refine LOps.nil ?_) | (refine LOps.ev tT_ok rfl ?_) | (refine kLoad ?_; first | (refine LOps.ans (AnsL.loadH tT_ok 0 hh rfl rfl rfl rfl) ?_)) | (refine kLen ?_; first | (refine LOps.ans (AnsL.lenM tT_ok rfl rfl rfl) ?_)) | (refine kBin ?_; first | (refine LOps.ans (AnsL.add rfl rfl ?_) ?_; (focus (constructor <;> omega)))))
            | (refine kWL ?_; first | (refine WL.seq ?_) | (refine WL.region (by kernel_rfl) ?_) | (refine WL.exit ?_) | (refine kCond ?_; first | (refine WL.condF' rfl ?_ ?_; (focus (first | (simp only [decide_eq_true_eq, decide_eq_false_iff_not, Bool.not_eq_true', Bool.not_eq_false', Int.ofNat_lt, Int.ofNat_le, Int.ofNat_inj, not_true_eq_false, not_false_eq_true]; omega))))))
            | (refine lthen_n ?_)
            | (refine lthen_e ?_)
            | (refine lblock_n ?_)
            | (refine lblock_e ?_)
            | (refine lbackH_e ?_)
          refine lbackH.of (i + 1) ?_ hh (.drop (Sel.refl _)) hlt (by omega)
          exact ⟨rfl, rfl, trivial⟩
      · skip
        repeat' first
          | (refine kOps ?_; first | (refine LOps.nil ?_) | (refine LOps.ev tT_ok rfl ?_) | (refine kLoad ?_; first | (refine LOps.ans (AnsL.loadH tT_ok 0 hh rfl rfl rfl rfl) ?_)) | (refine kLen ?_; first | (refine LOps.ans (AnsL.lenM tT_ok rfl rfl rfl) ?_)))
          | (refine kWL ?_; first | (refine WL.seq ?_) | (refine WL.region (by kernel_rfl) ?_) | (refine WL.exit ?_) | (refine WL.ret ?_) | (refine kCond ?_; first | (refine WL.condF' rfl ?_ ?_; (focus (first | (simp only [decide_eq_true_eq, decide_eq_false_iff_not, Bool.not_eq_true', Bool.not_eq_false', Int.ofNat_lt, Int.ofNat_le, Int.ofNat_inj, not_true_eq_false, not_false_eq_true]; omega))))))
          | (refine lthen_n ?_)
          | (refine lthen_e ?_)
          | (refine lblock_e ?_)
          | (refine lbackH_e ?_)
          | (refine LPost.r1 (r := .tmp 2) (.inl rfl) (Res1.tmp rfl) ?_)
        rfl
  · skip
    repeat' first
      | (refine kOps ?_; first | (refine LOps.nil ?_) | (refine LOps.ev tT_ok rfl ?_) | (refine kCallN 5 ?_; first | (refine LOps.ans (AnsL.callP rfl rfl rfl (ok5) (hbig _)) ?_)))
      | (refine kWL ?_; first | (refine WL.seq ?_) | (refine WL.region (by kernel_rfl) ?_) | (refine WL.ret ?_) | (refine kCond ?_; first | (refine WL.condT rfl ?_)))
      | (refine lthen_n ?_)
      | (refine lthen_r ?_)
      | (refine LPost.r1 (r := .tmp 2) (.inl rfl) (Res1.tmp rfl) ?_)
    rfl

end Go.Proofs.Ytkdphhopgmjjcaa
