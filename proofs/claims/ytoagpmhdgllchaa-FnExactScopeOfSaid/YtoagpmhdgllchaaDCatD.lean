/-
  Catalogs drawn from a string of bytes. Own work; no condition.
-/
import Derived.Test.YtoagpmhdgllchaaDPd4
import Derived.Test.YtoagpmhdgllchaaDScope
namespace Go.Proofs.Ytoagpmhdgllchaa
open Go
set_option linter.unusedSimpArgs false
set_option linter.unusedVariables false

abbrev Cat.ov (y : List Tab × Nat × Nat) : V := .agg [.slm (.is y.2.1) y.2.2 0 y.1.length]
abbrev Cat.ob (y : List Tab × Nat × Nat) : List BE := [.own (.slm (.is y.2.1) y.2.2 0 y.1.length) (.sl 0 (y.1.map Tab.toV))]
def Tab.small (t : Tab) : Prop := t.name.length ≤ 1 ∧ t.cols.length ≤ 3 ∧ ∀ c ∈ t.cols, c.name.length ≤ 6
theorem Tab.small_wt {t : Tab} (h : t.small) : t.wt ≤ 22 := by
  obtain ⟨h1, h2, h3⟩ := h
  have e : slW Col.wt t.cols ≤ t.cols.length * 7 := by
    generalize t.cols = l at h3
    induction l with
    | nil => exact Nat.le_refl _
    | cons c l ih =>
      have a1 := h3 c (by simp)
      have a2 := ih fun x hx => h3 x (by simp [hx])
      have a3 : slW Col.wt (c :: l) = l.length + 1 + (c.name.length + sumW Col.wt l) := by simp [slW, sumW, Col.wt]
      have a4 : slW Col.wt l = l.length + sumW Col.wt l := rfl
      simp only [List.length_cons]
      omega
  have m : t.cols.length * 7 ≤ 3 * 7 := Nat.mul_le_mul_right _ h2
  simp only [Tab.wt]
  omega
abbrev tabN : List V := [.str [116], .str [117], .str [118]]
theorem specl16Right_d {b : V} (hb : Bytes b) : DrwB Try.prog 51 b [] [] Cat.ov Cat.ob (fun y => (0 < y.1.length ∧ y.1.length ≤ 3) ∧ ∀ t ∈ y.1, t.small) := by
  intro s H l i h hi hh
  refine LCalls.body0 Try.func51 rfl (by kernel_rfl) ?_
  repeat' first
    | (refine kAlloc ?_ ; refine LOps.allocH tT_ok hh rfl rfl ?_ ; intro s n hh)
    | (refine kStore ?_ ; first | (refine LOps.storeH tT_ok 0 hh rfl rfl rfl rfl rfl rfl rfl rfl rfl ?_ ; intro s hh))
    | (refine kBsl ?_ ; first | (refine LOps.ans (d := 12) (AnsL.bslF tT_ok rfl rfl rfl rfl rfl rfl rfl rfl rfl) ?_))
    | (refine kCallN 52 ?_ ; first | (refine LOps.drawH 2 rfl rfl ok52 hh rfl rfl ?_ (specl1Below_d hb (by omega)) ?_ ; (focus (first | assumption | omega)) ; intro s x i h hq hi hh ; try dsimp only))
    | (refine kOps ?_; first | (refine LOps.nil ?_) | (refine' LOps.ans (v := .agg _) (AnsL.buildZ tT_ok rfl rfl rfl rfl ?_) ?_; rotate_left 1; (focus ((repeat' first | (exact Fills.nil)); done))) | (refine LOps.ev tT_ok rfl ?_) | (refine kBin ?_; first | (refine LOps.ans (AnsL.add rfl rfl ?_) ?_; (focus (constructor <;> omega)))))
    | (refine kWL ?_; first | (refine WL.seq ?_) | (refine WL.region (by kernel_rfl) ?_) | (refine WL.block ?_))
    | (refine lthen_n ?_)
  rename_i nr _ _ _ _ _
  obtain ⟨m, rfl⟩ : ∃ m, m = n := ⟨n, rfl⟩
  obtain ⟨N, rfl⟩ : ∃ N, N = x := ⟨x, rfl⟩
  replace hh := hh.nil0
  refine WL.loopH (fun y : (List Tab × Nat × Nat) × Int × Int => (1 + N - y.1.1.length).toNat) (fun y => [(0, .ptr l 0), (2, .ptr nr 0), (3, .ptr m 0), (4, .sl 0 tabN), (5, .int .i64 (1 + N)), (6, .int .i64 (y.1.1.length : Int))])
    (fun y => .own (.slm (.is y.1.2.1) y.1.2.2 0 y.1.1.length) (.sl 0 (y.1.1.map Tab.toV)) :: .cell l (curC b y.2.1 y.2.2) :: .cell m [.slm (.is y.1.2.1) y.1.2.2 0 y.1.1.length] :: .cell nr [.nilsl] :: H)
    (fun y => ((y.1.1.length : Int) ≤ 1 + N ∧ ∀ t ∈ y.1.1, t.small) ∧ 0 ≤ y.2.1) (([], 0, 0), i, h) ⟨⟨by simp; omega, by simp⟩, hi⟩ ⟨rfl, rfl, rfl, rfl, rfl, rfl, trivial⟩ hh (Sel.refl _) (fun y s hI hh => ?_)
  obtain ⟨⟨ts, c0, l0⟩, i, h⟩ := y
  obtain ⟨⟨hI, hsm⟩, hi⟩ := hI
  dsimp only at hI hsm hi hh ⊢
  by_cases hlt : (ts.length : Int) < 1 + N
  · skip
    repeat' first
      | (refine kAlloc ?_ ; refine LOps.allocH tT_ok hh rfl rfl ?_ ; intro s n hh)
      | (refine kStore ?_ ; first | (refine LOps.storeH tT_ok 0 hh rfl rfl rfl rfl rfl rfl rfl rfl rfl ?_ ; intro s hh))
      | (refine kCallN 52 ?_ ; first | (refine LOps.drawH 2 rfl rfl ok52 hh rfl rfl ?_ (specl1Below_d hb (by omega)) ?_ ; (focus (first | assumption | omega)) ; intro s x i h hq hi hh ; try dsimp only))
      | (refine kOps ?_; first | (refine LOps.nil ?_) | (refine' LOps.ans (v := .agg _) (AnsL.buildZ tT_ok rfl rfl rfl rfl ?_) ?_; rotate_left 1; (focus ((repeat' first | (exact Fills.nil) | (refine' Fills.cons rfl rfl rfl rfl ?_)); done))) | (refine LOps.ev tT_ok rfl ?_) | (refine kBin ?_; first | (refine LOps.ans (AnsL.add rfl rfl ?_) ?_; (focus (constructor <;> omega)))) | (refine kIdx ?_; first | (refine LOps.ans (AnsL.idxZ tT_ok rfl rfl rfl rfl rfl ?_ (getS_eq (vs := tabN) rfl ?_ ?_) rfl rfl) ?_; (focus (omega)); (focus (omega)); (focus (show _ ≤ (3 : Int) - 1 ; omega)))))
      | (refine kWL ?_; first | (refine WL.seq ?_) | (refine WL.region (by kernel_rfl) ?_) | (refine WL.block ?_) | (refine WL.skip ?_) | (refine kCond ?_; first | (refine WL.condT' rfl ?_ ?_; (focus (first | (exact decide_eq_true (by assumption)))))))
      | (refine lthen_n ?_)
    replace hh := hh.nil0
    refine WL.loopH (fun y : (List Col × Nat × Nat) × Nat × Int × Int => (1 + x - y.2.1).toNat) (fun y => [(0, .ptr l 0), (2, .ptr nr 0), (3, .ptr m 0), (4, .sl 0 tabN), (5, .int .i64 (1 + N)), (6, .int .i64 (ts.length : Int)), (7, .ptr n 0), (8, .int .i64 (1 + x)), (9, .int .i64 (y.2.1 : Int))])
      (fun y => .own (.slm (.is y.1.2.1) y.1.2.2 0 y.1.1.length) (.sl 0 (y.1.1.map Col.toV)) :: .cell l (curC b y.2.2.1 y.2.2.2) :: .cell n [.str (getS tabN ts.length), .slm (.is y.1.2.1) y.1.2.2 0 y.1.1.length] :: .own (.slm (.is c0) l0 0 ts.length) (.sl 0 (ts.map Tab.toV)) :: .cell m [.slm (.is c0) l0 0 ts.length] :: .cell nr [.nilsl] :: H)
      (fun y => (((y.1.1.length : Int) ≤ y.2.1 ∧ (y.2.1 : Int) ≤ 1 + x) ∧ ∀ c ∈ y.1.1, c.name.length ≤ 6) ∧ 0 ≤ y.2.2.1) (([], 0, 0), 0, i, h) ⟨⟨⟨by simp, by show ((0 : Nat) : Int) ≤ 1 + x; omega⟩, by simp⟩, hi⟩ ⟨rfl, rfl, rfl, rfl, rfl, rfl, rfl, rfl, rfl, trivial⟩ hh (Sel.refl _) (fun y s hJ hh => ?_)
    obtain ⟨⟨cs, c1, l1⟩, k, i, h⟩ := y
    obtain ⟨⟨⟨hJ1, hJ2⟩, hcn⟩, hi⟩ := hJ
    dsimp only at hJ1 hJ2 hcn hi hh ⊢
    have hnm : (getS tabN ts.length).length ≤ 1 := pick_len (n := 1) (List.mem_of_getElem? (getS_eq (vs := tabN) rfl (by omega) (by show _ ≤ (3 : Int) - 1; omega))) rfl
    have hC : ∀ (q : List UInt8) (t : S), VCalls Try.prog 37 [(⟨getS tabN ts.length, cs⟩ : Tab).toV, .str q] t (fun v s' => v = .int .i64 ((⟨getS tabN ts.length, cs⟩ : Tab).at q) ∧ s' = t) := fun q t => specColAt_v _ q (Nat.le_trans (Tab.small_wt ⟨hnm, by dsimp only; omega, hcn⟩) (by omega)) t
    obtain ⟨X, rfl⟩ : ∃ X, X = x := ⟨x, rfl⟩
    by_cases hlt1 : (k : Int) < 1 + X
    · skip
      repeat' first
        | (refine kAlloc ?_ ; refine LOps.allocH tT_ok hh rfl rfl ?_ ; intro s n hh)
        | (refine kStore ?_ ; first | (refine LOps.storeH tT_ok 0 hh rfl rfl rfl rfl rfl rfl rfl rfl rfl ?_ ; intro s hh) | (refine LOps.storeH tT_ok 1 hh rfl rfl rfl rfl rfl rfl rfl rfl rfl ?_ ; intro s hh) | (refine LOps.storeH tT_ok 3 hh rfl rfl rfl rfl rfl rfl rfl rfl rfl ?_ ; intro s hh))
        | (refine kBsl ?_ ; first | (refine LOps.ans (d := 35) (AnsL.bslF tT_ok rfl rfl rfl rfl rfl rfl rfl rfl rfl) ?_) | (refine LOps.ans (d := 38) (AnsL.bslF tT_ok rfl rfl rfl rfl rfl rfl rfl rfl rfl) ?_) | (refine LOps.ans (AnsL.bslE tT_ok rfl rfl rfl rfl rfl rfl rfl rfl ?_) ?_ ; (focus ((repeat' first | (exact ElsH.of rfl)); done))))
        | (refine kApp ?_ ; first | (refine' LOps.appW tT_ok 2 rfl rfl rfl rfl rfl rfl rfl rfl rfl rfl hh ?_ ?_ ?_ (AppB.of ?_ rfl) ?_ ; rotate_left 2 ; (focus (first | (intro x hx; obtain ⟨y, _, rfl⟩ := List.mem_map.1 hx; first | rfl | exact PE.cells_len _ | exact PE.planV_len _))) ; (focus ((repeat' first | (exact ConsOL.nil) | (exact ConsO.scal rfl) | (refine' ConsOL.cons ?_ ?_) | (refine' ConsO.agg ?_)); done)) ; (focus ((repeat' first | (exact Elems.of rfl)); done)) ; (focus (first | omega | (simp ; omega))) ; intro s c n hh))
        | (refine kCallN 56 ?_ ; first | (refine LOps.drawH 1 rfl rfl ok56 hh rfl rfl ?_ (specl1Once_d hb (by omega)) ?_ ; (focus (first | assumption | omega)) ; intro s x i h hq hi hh ; try dsimp only))
        | (refine kCallN 55 ?_ ; first | (refine LOps.drawH 1 rfl rfl ok55 hh rfl rfl ?_ (specl1Pick_d hb rfl (by simp)) ?_ ; (focus (first | assumption | omega)) ; intro s x i h hq hi hh ; try dsimp only))
        | (refine kCallN 68 ?_ ; first | (refine LOps.drawH 0 rfl rfl ok68 hh rfl rfl ?_ (specl1PickInt_d hb rfl (by simp)) ?_ ; (focus (first | assumption | omega)) ; intro s x i h hq hi hh ; try dsimp only))
        | (refine kCallN 69 ?_ ; first | (refine LOps.drawH 0 rfl rfl ok69 hh rfl rfl ?_ (specl2Name_d hb) ?_ ; (focus (first | assumption | omega)) ; intro s x i h hq hi hh ; try dsimp only))
        | (refine kOps ?_; first | (refine LOps.nil ?_) | (refine' LOps.ans (v := .agg _) (AnsL.buildZ tT_ok rfl rfl rfl rfl ?_) ?_; rotate_left 1; (focus ((repeat' first | (exact Fills.nil) | (refine' Fills.cons rfl rfl rfl rfl ?_)); done))) | (refine LOps.ev tT_ok rfl ?_) | (refine kLoad ?_; first | (refine LOps.ans (AnsL.loadH tT_ok 1 hh rfl rfl rfl rfl) ?_) | (refine LOps.ans (AnsL.loadH tT_ok 3 hh rfl rfl rfl rfl) ?_)) | (refine kBin ?_; first | (refine LOps.ans (AnsL.add rfl rfl ?_) ?_; (focus (constructor <;> omega)))) | (refine kCall ?_; first | (refine LOps.ans (AnsL.callP rfl rfl rfl ok37 (VCalls.lookH rfl hh (.cons (.agg (.cons (.pl rfl) (.cons (.own (.tail _ (.tail _ (.head _)))) .nil))) (.cons (.pl rfl) .nil)) (hC _))) ?_)))
        | (refine kWL ?_; first | (refine WL.seq ?_) | (refine WL.region (by kernel_rfl) ?_) | (refine WL.block ?_) | (refine WL.skip ?_) | (refine kCond ?_; first | (refine WL.condT' rfl ?_ ?_; (focus (first | (exact decide_eq_true (by assumption))))) | (refine WL.cond rfl (fun h => ?_) (fun h => ?_))))
        | (refine lthen_n ?_)
        | (refine lblock_n ?_)
      · replace hh := hh.sel (.cons 0 rfl rfl (.cons 0 rfl rfl (.drop (Sel.refl _))))
        all_goals
          try simp only [PE.q_eq, List.length_append, List.length_map, List.length_cons, List.length_nil, Nat.zero_add, Col.toV] at hh
          refine' lbackH.of (((cs ++ [Col.mk _ _], _, _), k + 1, _, _)) ?_ hh ?_ ?_ ?_
          rotate_left 7
          · dsimp only; (try simp only [List.map_append, List.map_cons, List.map_nil, PE.vS, List.length_append, List.length_map, List.length_cons, List.length_nil, Nat.zero_add]); (repeat' first | (exact Sel.nil) | (exact Sel.refl _) | (refine' Sel.p ?_ ?_; rotate_left 1; (focus (((repeat' first | (exact Pick.here) | (refine' Pick.there ?_)); done))))); done
          · dsimp only; refine ⟨⟨⟨by simp; omega, by omega⟩, fun c hc => ?_⟩, by assumption⟩; rcases List.mem_append.1 hc with hc | hc; exact hcn c hc; rw [List.mem_singleton] at hc; subst hc; first | assumption | exact Nat.le_trans (pick_len (n := 4) (by assumption) rfl) (by omega)
          · dsimp only; first | omega | (simp; omega) | (simp_all; omega)
          · repeat' first | exact SubL.nil | (refine SubL.mk rfl ?_ ?_) | rfl | (simp; done) | (simp; omega)
      · replace hh := hh.sel (.cons 0 rfl rfl (.drop (Sel.refl _)))
        all_goals
          try simp only [PE.q_eq, List.length_append, List.length_map, List.length_cons, List.length_nil, Nat.zero_add] at hh
          refine' lbackH.of (((cs, c1, l1), k + 1, _, _)) ?_ hh ?_ ?_ ?_
          rotate_left 3
          · dsimp only; (try simp only [List.map_append, List.map_cons, List.map_nil, PE.vS, List.length_append, List.length_map, List.length_cons, List.length_nil, Nat.zero_add]); (repeat' first | (exact Sel.nil) | (exact Sel.refl _) | (refine' Sel.p ?_ ?_; rotate_left 1; (focus (((repeat' first | (exact Pick.here) | (refine' Pick.there ?_)); done))))); done
          · dsimp only; refine ⟨⟨⟨by omega, by omega⟩, hcn⟩, by assumption⟩
          · dsimp only; first | omega | (simp; omega) | (simp_all; omega)
          · repeat' first | exact SubL.nil | (refine SubL.mk rfl ?_ ?_) | rfl | (simp; done) | (simp; omega)
      · replace hh := hh.sel (.cons 0 rfl rfl (.cons 0 rfl rfl (.drop (Sel.refl _))))
        all_goals
          try simp only [PE.q_eq, List.length_append, List.length_map, List.length_cons, List.length_nil, Nat.zero_add, Col.toV] at hh
          refine' lbackH.of (((cs ++ [Col.mk _ _], _, _), k + 1, _, _)) ?_ hh ?_ ?_ ?_
          rotate_left 7
          · dsimp only; (try simp only [List.map_append, List.map_cons, List.map_nil, PE.vS, List.length_append, List.length_map, List.length_cons, List.length_nil, Nat.zero_add]); (repeat' first | (exact Sel.nil) | (exact Sel.refl _) | (refine' Sel.p ?_ ?_; rotate_left 1; (focus (((repeat' first | (exact Pick.here) | (refine' Pick.there ?_)); done))))); done
          · dsimp only; refine ⟨⟨⟨by simp; omega, by omega⟩, fun c hc => ?_⟩, by assumption⟩; rcases List.mem_append.1 hc with hc | hc; exact hcn c hc; rw [List.mem_singleton] at hc; subst hc; first | assumption | exact Nat.le_trans (pick_len (n := 4) (by assumption) rfl) (by omega)
          · dsimp only; first | omega | (simp; omega) | (simp_all; omega)
          · repeat' first | exact SubL.nil | (refine SubL.mk rfl ?_ ?_) | rfl | (simp; done) | (simp; omega)
      · replace hh := hh.sel (.cons 0 rfl rfl (.drop (Sel.refl _)))
        all_goals
          try simp only [PE.q_eq, List.length_append, List.length_map, List.length_cons, List.length_nil, Nat.zero_add] at hh
          refine' lbackH.of (((cs, c1, l1), k + 1, _, _)) ?_ hh ?_ ?_ ?_
          rotate_left 3
          · dsimp only; (try simp only [List.map_append, List.map_cons, List.map_nil, PE.vS, List.length_append, List.length_map, List.length_cons, List.length_nil, Nat.zero_add]); (repeat' first | (exact Sel.nil) | (exact Sel.refl _) | (refine' Sel.p ?_ ?_; rotate_left 1; (focus (((repeat' first | (exact Pick.here) | (refine' Pick.there ?_)); done))))); done
          · dsimp only; refine ⟨⟨⟨by omega, by omega⟩, hcn⟩, by assumption⟩
          · dsimp only; first | omega | (simp; omega) | (simp_all; omega)
          · repeat' first | exact SubL.nil | (refine SubL.mk rfl ?_ ?_) | rfl | (simp; done) | (simp; omega)
    · skip
      repeat' first
        | (refine kStore ?_ ; first | (refine LOps.storeH tT_ok 3 hh rfl rfl rfl rfl rfl rfl rfl rfl rfl ?_ ; intro s hh))
        | (refine kBsl ?_ ; first | (refine LOps.ans (AnsL.bslE tT_ok rfl rfl rfl rfl rfl rfl rfl rfl ?_) ?_ ; (focus ((repeat' first | (exact ElsH.of rfl)); done))))
        | (refine kApp ?_ ; first | (refine' LOps.appW tT_ok 3 rfl rfl rfl rfl rfl rfl rfl rfl rfl rfl hh ?_ ?_ ?_ (AppB.of ?_ rfl) ?_ ; rotate_left 2 ; (focus (first | (intro x hx; obtain ⟨y, _, rfl⟩ := List.mem_map.1 hx; first | rfl | exact PE.cells_len _ | exact PE.planV_len _))) ; (focus ((repeat' first | (exact ConsOL.nil) | (exact ConsO.scal rfl) | (refine' ConsO.op ?_; ((repeat' first | (exact Pick.here) | (refine' Pick.there ?_)); done)) | (refine' ConsOL.cons ?_ ?_) | (refine' ConsO.agg ?_)); done)) ; (focus ((repeat' first | (exact Elems.of rfl)); done)) ; (focus (first | omega | (simp ; omega))) ; intro s c n hh))
        | (refine kOps ?_; first | (refine LOps.nil ?_) | (refine LOps.ev tT_ok rfl ?_) | (refine kLoad ?_; first | (refine LOps.ans (AnsL.loadH tT_ok 2 hh rfl rfl rfl rfl) ?_) | (refine LOps.ans (AnsL.loadH tT_ok 4 hh rfl rfl rfl rfl) ?_)) | (refine kBin ?_; first | (refine LOps.ans (AnsL.add rfl rfl ?_) ?_; (focus (constructor <;> omega)))))
        | (refine kWL ?_; first | (refine WL.seq ?_) | (refine WL.region (by kernel_rfl) ?_) | (refine WL.exit ?_) | (refine kCond ?_; first | (refine WL.condF' rfl ?_ ?_; (focus (first | (exact decide_eq_false (by assumption)))))))
        | (refine lthen_n ?_)
        | (refine lthen_e ?_)
        | (refine lblock_n ?_)
        | (refine lblock_e ?_)
        | (refine lbackH_e ?_)
      replace hh := hh.sel (.cons 0 rfl rfl (.cons 0 rfl rfl (.drop (Sel.refl _))))
      all_goals
        try simp only [PE.q_eq, List.length_append, List.length_map, List.length_cons, List.length_nil, Nat.zero_add, Tab.toV] at hh
        refine' lbackH.of (((ts ++ [⟨getS tabN ts.length, cs⟩], _, _), _, _)) ?_ hh ?_ ?_ ?_
        rotate_left 5
        · dsimp only; (try simp only [List.map_append, List.map_cons, List.map_nil, PE.vS, List.length_append, List.length_map, List.length_cons, List.length_nil, Nat.zero_add]); (repeat' first | (exact Sel.nil) | (exact Sel.refl _) | (refine' Sel.p ?_ ?_; rotate_left 1; (focus (((repeat' first | (exact Pick.here) | (refine' Pick.there ?_)); done))))); done
        · dsimp only; refine ⟨⟨by simp; omega, fun t ht => ?_⟩, by assumption⟩; rcases List.mem_append.1 ht with ht | ht; exact hsm t ht; rw [List.mem_singleton] at ht; subst ht; exact ⟨hnm, by dsimp only; omega, hcn⟩
        · dsimp only; first | omega | (simp; omega) | (simp_all; omega)
        · repeat' first | exact SubL.nil | (refine SubL.mk rfl ?_ ?_) | rfl | (simp; done) | (simp; omega)
  · skip
    repeat' first
      | (refine kStore ?_ ; first | (refine LOps.storeH tT_ok 3 hh rfl rfl rfl rfl rfl rfl rfl rfl rfl ?_ ; intro s hh))
      | (refine kOps ?_; first | (refine LOps.nil ?_) | (refine LOps.ev tT_ok rfl ?_) | (refine kLoad ?_; first | (refine LOps.ans (AnsL.loadH tT_ok 2 hh rfl rfl rfl rfl) ?_)))
      | (refine kWL ?_; first | (refine WL.seq ?_) | (refine WL.region (by kernel_rfl) ?_) | (refine WL.exit ?_) | (refine WL.ret ?_) | (refine kCond ?_; first | (refine WL.condF' rfl ?_ ?_; (focus (first | (exact decide_eq_false (by assumption)))))))
      | (refine lthen_n ?_)
      | (refine lthen_e ?_)
      | (refine lblock_e ?_)
      | (refine lbackH_e ?_)
      | (refine' LPost.r1 (r := .cell 2 26) (.inl rfl) ?_ ?_; rotate_left 1; (focus (first | (exact Res1.cellH 3 tT_ok hh rfl rfl rfl rfl))))
    apply DrwB.fin (y := (ts, c0, l0)) (hh := hh)
    case hv => rfl
    case hi => assumption
    case hs =>
      dsimp only [List.cons_append, List.nil_append]
      (repeat' first | (exact Sel.nil) | (exact Sel.refl _) | (refine' Sel.p ?_ ?_; rotate_left 1; (focus (((repeat' first | (exact Pick.here) | (refine' Pick.there ?_)); done)))))
      (repeat' first | (exact Sel.refl _) | (refine Sel.drop ?_))
    case hp => exact ⟨⟨by dsimp only; omega, by dsimp only; omega⟩, hsm⟩

end Go.Proofs.Ytoagpmhdgllchaa
