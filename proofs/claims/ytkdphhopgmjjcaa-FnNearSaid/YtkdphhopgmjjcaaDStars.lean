/-
  Scopes drawn, and the law of stars. Own work; no condition.
-/
import Derived.Test.YtkdphhopgmjjcaaDBig
import Derived.Test.YtkdphhopgmjjcaaVFac
import Derived.Test.YtkdphhopgmjjcaaDStar
namespace Go.Proofs.Ytkdphhopgmjjcaa
open Go
set_option linter.unusedSimpArgs false
set_option linter.unusedVariables false

theorem specl18Qual_d {b : V} (hb : Bytes b) : Drw Try.prog 17 b [] V.str (fun _ => True) := by
  intro s H l i h hi hh
  refine LCalls.body0 Try.func17 rfl (by kernel_rfl) ?_
  repeat' first
    | (refine kBsl ?_ ; refine' LOps.bslH tT_ok rfl rfl rfl rfl rfl rfl rfl rfl hh ?_ ?_ ?_ ; rotate_left 2 ; (focus ((repeat' first | (exact ConsL.pls rfl rfl)); done)) ; (focus ((repeat' first | (exact ElsH.of rfl)); done)) ; intro s n hh)
    | (refine kCallN 18 ?_ ; first | (refine LOps.drawH 1 rfl rfl ok18 hh rfl rfl ?_ (specl1Pick_d hb rfl (by simp)) ?_ ; (focus (first | assumption | omega)) ; intro s x i h hq hi hh ; try dsimp only))
    | (refine kOps ?_; first | (refine LOps.nil ?_) | (refine LOps.ev tT_ok rfl ?_))
    | (refine kWL ?_; first | (refine WL.seq ?_) | (refine WL.region (by kernel_rfl) ?_) | (refine WL.ret ?_))
    | (refine lthen_n ?_)
    | (refine LPost.r1 (r := .tmp 2) (.inl rfl) (Res1.tmp rfl) ?_)
  all_goals
    apply Drw.fin (hh := hh)
    case hv => first | exact Val.agg_eq _ _ _ | rfl
    case hs => (first | (refine Sel.cons 0 rfl rfl ?_) | (refine Sel.cons 1 rfl rfl ?_) | (refine Sel.cons 2 rfl rfl ?_) | (refine Sel.cons 3 rfl rfl ?_) | (refine Sel.cons 4 rfl rfl ?_) | (refine Sel.cons 5 rfl rfl ?_) | (refine Sel.cons 6 rfl rfl ?_) | (refine Sel.cons 7 rfl rfl ?_)); (repeat' first | (exact Sel.refl _) | (refine Sel.drop ?_))
    case hi => first | assumption | omega | (simp; omega)
    case hp => trivial
theorem specl18Scope_d {b : V} (hb : Bytes b) : Drw Try.prog 32 b [] Scope.toV (fun x => x.wt ≤ 60) := by
  intro s H l i h hi hh
  refine VCalls.forgetR ?_
  refine LCalls.body0 Try.func32 rfl (by kernel_rfl) ?_
  repeat' first
    | (refine kAlloc ?_ ; refine LOps.allocH tT_ok hh rfl rfl ?_ ; intro s n hh)
    | (refine kStore ?_ ; first | (refine LOps.storeH tT_ok 0 hh rfl rfl rfl rfl rfl rfl rfl rfl rfl ?_ ; intro s hh))
    | (refine kCallN 31 ?_ ; first | (refine LOps.drawH 2 rfl rfl ok31 hh rfl rfl ?_ (specl1Below_d hb (by omega)) ?_ ; (focus (first | assumption | omega)) ; intro s x i h hq hi hh ; try dsimp only))
    | (refine kOps ?_; first | (refine LOps.nil ?_) | (refine LOps.ev tT_ok rfl ?_))
    | (refine kWL ?_; first | (refine WL.seq ?_) | (refine WL.region (by kernel_rfl) ?_) | (refine WL.block ?_))
    | (refine lthen_n ?_)
  rename_i s0 i0 h0 hi0 hh0 s1 n2 hh2 s3 hh3 s4 hh4
  refine WL.zfamC 1 0 3 rfl rfl rfl hh (fun s id hh => ?_)
  replace hh := hh _ rfl _ rfl
  replace hh := hh.toFac (i := 0) rfl rfl
  refine WL.loopH (fun y : List Named × Int × Int => (x - y.1.length).toNat) (fun y => [(0, .ptr l 0), (2, .ptr n2 0), (3, .ptr n 0), (4, .int .i64 x), (5, .int .i64 (y.1.length : Int))])
    (fun y => .fac id 3 (y.1.map Named.toV) :: .cell l (curC b y.2.1 y.2.2) :: .cell n [.sl id (y.1.map Named.toV)] :: .cell n2 [.nilsl] :: H)
    (fun y => ((y.1.length : Int) ≤ x ∧ slW Named.wt y.1 ≤ 10 * y.1.length) ∧ 0 ≤ y.2.1) ([], i, h) ⟨⟨by simp; omega, by simp [slW, sumW]⟩, hi⟩ ⟨rfl, rfl, rfl, rfl, rfl, trivial⟩ hh (Sel.refl _) (fun y s hI hh => ?_)
  obtain ⟨nm, i, h⟩ := y
  obtain ⟨⟨hI, hwI⟩, hi⟩ := hI
  dsimp only at hI hwI hi hh ⊢
  by_cases hlt : (nm.length : Int) < x
  · skip
    repeat' first
      | (refine kStore ?_ ; first | (refine LOps.storeH tT_ok 2 hh rfl rfl rfl rfl rfl rfl rfl rfl rfl ?_ ; intro s hh))
      | (refine kApp ?_ ; first | (refine' LOps.appF tT_ok 1 rfl rfl rfl rfl rfl rfl rfl rfl rfl rfl rfl hh ?_ (AppB.of ?_ rfl) ?_ ; (focus ((repeat' first | (exact Elems.of rfl)); done)) ; (focus (first | omega | (simp ; omega))) ; intro s hh))
      | (refine kCallN 18 ?_ ; first | (refine LOps.drawH 0 rfl rfl ok18 hh rfl rfl ?_ (specl1Pick_d hb rfl (by simp)) ?_ ; (focus (first | assumption | omega)) ; intro s x i h hq hi hh ; try dsimp only) | (refine LOps.drawH 1 rfl rfl ok18 hh rfl rfl ?_ (specl1Pick_d hb rfl (by simp)) ?_ ; (focus (first | assumption | omega)) ; intro s x i h hq hi hh ; try dsimp only))
      | (refine kCallN 31 ?_ ; first | (refine LOps.drawH 0 rfl rfl ok31 hh rfl rfl ?_ (specl1Below_d hb (by omega)) ?_ ; (focus (first | assumption | omega)) ; intro s x i h hq hi hh ; try dsimp only))
      | (refine kOps ?_; first | (refine LOps.nil ?_) | (refine LOps.ev tT_ok rfl ?_) | (refine kBin ?_; first | (refine LOps.ans (AnsL.add rfl rfl ?_) ?_; (focus (constructor <;> omega)))))
      | (refine kWL ?_; first | (refine WL.seq ?_) | (refine WL.region (by kernel_rfl) ?_) | (refine WL.drawn (id := 6) [0, 1, 2, 3, 5, 6, 8, 4, 7, 9, 10, 11, 12, 13, 14] [4, 7, 9, 12, 14] [[], [0], [], [], [2, 3], [], [], [2, 3, 4, 5, 6], [], [2, 3, 4, 5, 6, 7, 8], [2, 3, 4, 5, 6, 7, 8, 9], [2, 3, 4, 5, 6, 7, 8, 9, 10], [0, 1, 2, 3, 4, 5, 6, 7, 8, 9, 10, 11], [0, 1, 2, 3, 4, 5, 6, 7, 8, 9, 10, 11, 12], [0, 1, 2, 3, 4, 5, 6, 7, 8, 9, 10, 11, 12, 13]] (by kernel_rfl) (by kernel_rfl) ?_) | (refine WL.block ?_) | (refine WL.skip ?_) | (refine kCond ?_; first | (refine WL.condT' rfl ?_ ?_; (focus (first | (exact decide_eq_true (by assumption)))))))
      | (refine kDr ?_; first | (refine LDr.nil ?_) | (refine LDr.fl rfl rfl (.ev tT_ok rfl) ?_) | (refine LDr.fl rfl rfl (AnsL.bslF tT_ok rfl rfl rfl rfl rfl rfl rfl rfl rfl) ?_) | (refine kDLoad rfl ?_; first | (refine LDr.fl rfl rfl (AnsL.loadH tT_ok 2 hh rfl rfl rfl rfl) ?_)) | (refine LDr.eff rfl rfl rfl ?_))
      | (refine lthen_n ?_)
      | (refine lblock_n ?_)
      | (refine And.intro ?_ ?_)
      | (exact StsL.nil)
      | (refine StsL.cons ?_ ?_)
      | (refine StL.fl rfl rfl (.ev tT_ok rfl))
      | (refine StL.fl rfl rfl (AnsL.bslF tT_ok rfl rfl rfl rfl rfl rfl rfl rfl rfl))
      | (refine StL.fl rfl rfl (AnsL.loadH tT_ok 2 hh rfl rfl rfl rfl))
    rename_i s1 t1 i1 h1 q1 p1 g1 s2 t2 i2 h2 q2 p2 g2 s3 g3 s4 g4
    have hY : nm.map Named.toV ++ [.agg [.str t1, .str t2, .int .i64 x]] = (nm ++ [(⟨t1, t2, x⟩ : Named)]).map Named.toV := by simp [Named.toV]
    rw [hY] at hh
    have e1 : t1.length ≤ 2 := by simp at q1; rcases q1 with rfl | rfl | rfl <;> simp
    have e2 : t2.length ≤ 2 := by simp at q2; rcases q2 with rfl | rfl | rfl | rfl <;> simp
    refine lbackH.of (nm ++ [⟨t1, t2, x⟩], i, h) ?_ hh ?_ ⟨⟨by simp; omega, by simp only [slW, sumW, List.map_append, List.sum_append, List.length_append, List.map_cons, List.map_nil, List.sum_cons, List.sum_nil, List.length_cons, List.length_nil, Named.wt] at hwI ⊢; omega⟩, hi⟩ (by simp; omega)
    · dsimp only
      repeat' first | exact SubL.nil | (refine SubL.mk rfl ?_ ?_) | rfl | (simp; omega) | (simp <;> fail)
    · dsimp only
      (repeat' first | (exact Sel.refl _) | (refine Sel.cons 0 rfl rfl ?_) | (refine Sel.cons 1 rfl rfl ?_) | (refine Sel.cons 2 rfl rfl ?_) | (refine Sel.cons 3 rfl rfl ?_) | (refine Sel.drop ?_))
  · skip
    repeat' first
      | (refine kStore ?_ ; first | (refine LOps.storeH tT_ok 3 hh rfl rfl rfl rfl rfl rfl rfl rfl rfl ?_ ; intro s hh))
      | (refine kOps ?_; first | (refine LOps.nil ?_) | (refine LOps.ev tT_ok rfl ?_) | (refine kLoad ?_; first | (refine LOps.ans (AnsL.loadH tT_ok 2 hh rfl rfl rfl rfl) ?_)))
      | (refine kWL ?_; first | (refine WL.seq ?_) | (refine WL.region (by kernel_rfl) ?_) | (refine WL.exit ?_) | (refine WL.ret ?_) | (refine kCond ?_; first | (refine WL.condF' rfl ?_ ?_; (focus (first | (exact decide_eq_false (by assumption)))))))
      | (refine lthen_n ?_)
      | (refine lthen_e ?_)
      | (refine lblock_e ?_)
      | (refine lbackH_e ?_)
      | (refine' LPost.r1 (r := .cell 2 33) (.inl rfl) ?_ ?_; rotate_left 1; (focus (first | exact Res1.cellH 0 tT_ok hh rfl rfl rfl rfl | exact Res1.cellH 1 tT_ok hh rfl rfl rfl rfl | exact Res1.cellH 2 tT_ok hh rfl rfl rfl rfl | exact Res1.cellH 3 tT_ok hh rfl rfl rfl rfl | exact Res1.cellH 4 tT_ok hh rfl rfl rfl rfl | exact Res1.cellH 5 tT_ok hh rfl rfl rfl rfl | exact Res1.cellH 6 tT_ok hh rfl rfl rfl rfl | exact Res1.cellH 7 tT_ok hh rfl rfl rfl rfl | exact Res1.cellHW 0 tT_ok hh rfl rfl rfl rfl | exact Res1.cellHW 1 tT_ok hh rfl rfl rfl rfl | exact Res1.cellHW 2 tT_ok hh rfl rfl rfl rfl | exact Res1.cellHW 3 tT_ok hh rfl rfl rfl rfl | exact Res1.cellHW 4 tT_ok hh rfl rfl rfl rfl | exact Res1.cellHW 5 tT_ok hh rfl rfl rfl rfl | exact Res1.cellHW 6 tT_ok hh rfl rfl rfl rfl | exact Res1.cellHW 7 tT_ok hh rfl rfl rfl rfl)))
    apply Drw.fin (x := ⟨nm⟩) (hh := hh)
    case hv => simp [Scope.toV, V.forget, V.forgetL_eq, List.map_map, Function.comp_def]
    case hp => show slW Named.wt nm ≤ 60; omega
    case hi => exact hi
    case hs => (first | (refine Sel.cons 0 rfl rfl ?_) | (refine Sel.cons 1 rfl rfl ?_) | (refine Sel.cons 2 rfl rfl ?_)); (repeat' first | (exact Sel.refl _) | (refine Sel.drop ?_))
theorem times_count (l : List Int) (x : Int) : ∀ i, ((l.take i).filter (fun y => decide (y = x))).length ≤ i := fun i => Nat.le_trans (List.length_filter_le _ _) (by rw [List.length_take]; omega)

theorem mem_hits {α : Type} {p : α → Bool} {xs : List α} {k : Nat} (hk : k < xs.length) : ∀ n, ((k : Int) ∈ hits p xs n ↔ k < n ∧ p xs[k] = true)
  | 0 => by simp [hits]
  | n + 1 => by
    unfold hits
    rw [List.mem_append, mem_hits hk n]
    cases hx : xs[n]? with
    | none =>
      have hn : xs.length ≤ n := by simpa using hx
      constructor
      · rintro (h | h)
        · exact ⟨by omega, h.2⟩
        · cases h
      · rintro ⟨_, h⟩; exact .inl ⟨by omega, h⟩
    | some y =>
      obtain ⟨hn, rfl⟩ := List.getElem?_eq_some_iff.1 hx
      by_cases hp : p xs[n] = true
      · simp only [hp, if_true, List.mem_singleton]
        constructor
        · rintro (h | h)
          · exact ⟨by omega, h.2⟩
          · have : k = n := by omega
            subst this
            exact ⟨by omega, hp⟩
        · rintro ⟨h1, h2⟩
          by_cases e : k = n
          · exact .inr (by omega)
          · exact .inl ⟨by omega, h2⟩
      · simp only [hp, Bool.false_eq_true, if_false, List.not_mem_nil, or_false]
        constructor
        · rintro ⟨h1, h2⟩; exact ⟨by omega, h2⟩
        · rintro ⟨h1, h2⟩
          by_cases e : k = n
          · subst e; exact absurd h2 hp
          · exact ⟨by omega, h2⟩

end Go.Proofs.Ytkdphhopgmjjcaa
