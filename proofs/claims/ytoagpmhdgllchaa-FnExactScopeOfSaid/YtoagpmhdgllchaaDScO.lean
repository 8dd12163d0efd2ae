/-
  Scopes of sources: the contracts of ScopeOf, and sources drawn. Own work; no condition.
-/
import Derived.Test.YtoagpmhdgllchaaDScP
import Derived.Test.YtoagpmhdgllchaaDOwn
namespace Go.Proofs.Ytoagpmhdgllchaa
open Go
set_option linter.unusedSimpArgs false
set_option linter.unusedVariables false

theorem specl8HasName_v (xs : List (List UInt8)) (q : List UInt8) (h : xs.length ≤ 1048576) (s : S) : VCalls Try.prog 34 [.sl 0 (xs.map sV), .str q] s (fun v s' => v = .bool (decide (q ∈ xs)) ∧ s' = s) := by
  refine LCalls.pure Try.func34 rfl (by kernel_rfl) (by simp) ?_
  repeat' first
    | (refine kOps ?_; first | (refine LOps.nil ?_) | (refine LOps.ev tT_ok rfl ?_))
    | (refine kWL ?_; first | (refine WL.seq ?_) | (refine WL.region (by kernel_rfl) ?_) | (refine WL.block ?_))
    | (refine lthen_n ?_)
  refine WL.loopD (fun i : Nat => xs.length - i) (fun i => [(0, .sl 0 (xs.map sV)), (1, .str q), (5, .int .i64 (i : Int))]) (fun i => [])
    (fun i => i ≤ xs.length ∧ decide (q ∈ xs) = decide (q ∈ xs.drop i)) 0 0 ⟨by simp, by simp⟩ (fun _ => rfl) ⟨rfl, rfl, rfl, trivial⟩ rfl (fun i hi => ?_) (fun i hi => ?_)
  · simp [UnderK, UnderX, Own.under, V.under, V.underL]
  obtain ⟨hi, hc⟩ := hi
  rcases Nat.lt_or_ge i xs.length with hlt | hge
  · rw [List.drop_eq_getElem_cons hlt] at hc
    have hga : (xs.map sV)[i]? = some (.str xs[i]) := by simp [hlt, sV]
    by_cases hp : q = xs[i]
    · rw [← hp] at hga
      repeat' first
        | (refine kOps ?_; first | (refine LOps.nil ?_) | (refine LOps.ev tT_ok rfl ?_) | (refine kLen ?_; first | (refine LOps.ans (AnsL.lenM tT_ok rfl rfl rfl) ?_)) | (refine kIdx ?_; first | (refine LOps.ans (AnsL.idx tT_ok rfl rfl rfl rfl rfl hga rfl rfl) ?_)))
        | (refine kWL ?_; first | (refine WL.seq ?_) | (refine WL.region (by kernel_rfl) ?_) | (refine WL.block ?_) | (refine WL.skip ?_) | (refine WL.ret ?_) | (refine kCond ?_; first | (refine WL.condT' rfl ?_ ?_; (focus (first | (simp only [decide_eq_true_eq, decide_eq_false_iff_not, Bool.not_eq_true', Bool.not_eq_false', Int.ofNat_lt, Int.ofNat_le, Int.ofNat_inj, not_true_eq_false, not_false_eq_true]; omega) | (simp <;> fail))))))
        | (refine lthen_n ?_)
        | (refine lthen_r ?_)
        | (refine lblock_r ?_)
        | (refine lbackD_r ?_)
        | (refine LPost.r1 (r := .tmp 4) (.inl rfl) (Res1.tmp rfl) ?_)
        | (refine PureR.mk ?_)
      simp [hc, hp]
    · have hp2 : ¬ xs[i] = q := fun e => hp e.symm
      generalize xs[i] = y at hga hp hp2 hc
      repeat' first
        | (refine kOps ?_; first | (refine LOps.nil ?_) | (refine LOps.ev tT_ok rfl ?_) | (refine kLen ?_; first | (refine LOps.ans (AnsL.lenM tT_ok rfl rfl rfl) ?_)) | (refine kBin ?_; first | (refine LOps.ans (AnsL.add rfl rfl ?_) ?_; (focus (constructor <;> omega)))) | (refine kIdx ?_; first | (refine LOps.ans (AnsL.idx tT_ok rfl rfl rfl rfl rfl hga rfl rfl) ?_)))
        | (refine kWL ?_; first | (refine WL.seq ?_) | (refine WL.region (by kernel_rfl) ?_) | (refine WL.block ?_) | (refine WL.skip ?_) | (refine kCond ?_; first | (refine WL.condT' rfl ?_ ?_; (focus (first | (simp only [decide_eq_true_eq, decide_eq_false_iff_not, Bool.not_eq_true', Bool.not_eq_false', Int.ofNat_lt, Int.ofNat_le, Int.ofNat_inj, not_true_eq_false, not_false_eq_true]; omega)))) | (refine WL.condF' rfl ?_ ?_; (focus (first | (exact decide_eq_false (by assumption)))))))
        | (refine lthen_n ?_)
        | (refine lblock_n ?_)
      all_goals
        refine lbackD.of (i + 1) ?_ ?_ ?_ ?_
        · first | omega | (refine ⟨?_, ?_⟩; (focus (first | omega | (simp; omega))); (first | omega | (simp_all [hc, hp] <;> fail) | (simp_all [hc, hp]; omega))) | (simp_all [hc, hp] <;> fail) | (simp_all [hc, hp]; omega)
        · first | omega | (simp; omega) | simp_all
        · repeat' first
            | exact SubL.nil
            | (refine SubL.mk rfl ?_ ?_)
            | rfl
            | (simp [hc, hp] <;> fail)
            | (simp [hc, hp]; omega)
        · first | rfl | (simp [hc, hp] <;> fail) | (simp [hc, hp]; omega)
  · rw [List.drop_of_length_le hge] at hc
    repeat' first
      | (refine kOps ?_; first | (refine LOps.nil ?_) | (refine LOps.ev tT_ok rfl ?_) | (refine kLen ?_; first | (refine LOps.ans (AnsL.lenM tT_ok rfl rfl rfl) ?_)))
      | (refine kWL ?_; first | (refine WL.seq ?_) | (refine WL.region (by kernel_rfl) ?_) | (refine WL.exit ?_) | (refine WL.ret ?_) | (refine kCond ?_; first | (refine WL.condF' rfl ?_ ?_; (focus (first | (simp only [decide_eq_true_eq, decide_eq_false_iff_not, Bool.not_eq_true', Bool.not_eq_false', Int.ofNat_lt, Int.ofNat_le, Int.ofNat_inj, not_true_eq_false, not_false_eq_true]; omega))))))
      | (refine lthen_n ?_)
      | (refine lthen_e ?_)
      | (refine lblock_e ?_)
      | (refine lbackD_e ?_)
      | (refine LPost.r1 (r := .tmp 4) (.inl rfl) (Res1.tmp rfl) ?_)
      | (refine PureR.mk ?_)
    simp [hc]
theorem specAliasOf_s (x : ESrc) (s : S) : VCalls Try.prog 14 [ESrc.v x] s (fun v s' => v = .str (srcAlias x) ∧ s' = s) := specAliasOf_v x s

def srcN (p : List UInt8 × List UInt8) : V := .agg [.str p.1, .str p.2, .nilsl]
theorem specl18Sources_d {b : V} (hb : Bytes b) : Drw Try.prog 31 b [] (fun r : List (List UInt8 × List UInt8) => .sl 0 ((r.map fun p => (⟨p.1, p.2, []⟩ : ESrc)).map ESrc.v)) (fun r => r.length ≤ 4 ∧ ∀ p ∈ r, p.1.length ≤ 8 ∧ p.2.length ≤ 8) := by
  intro s H l i h hi hh
  refine VCalls.forgetR ?_
  refine LCalls.body0 Try.func31 rfl (by kernel_rfl) ?_
  repeat' first
    | (refine kCallN 52 ?_ ; first | (refine LOps.drawH 0 rfl rfl ok52 hh rfl rfl ?_ (specl1Below_d hb (by omega)) ?_ ; (focus (first | assumption | omega)) ; intro s x i h hq hi hh ; try dsimp only))
    | (refine kOps ?_; first | (refine LOps.nil ?_) | (refine LOps.ev tT_ok rfl ?_) | (refine kBsl ?_; first | (refine LOps.bsl0 tT_ok rfl rfl rfl rfl rfl ?_)))
    | (refine kWL ?_; first | (refine WL.seq ?_) | (refine WL.region (by kernel_rfl) ?_) | (refine WL.block ?_))
    | (refine lthen_n ?_)
  refine WL.zfamH (t := 3) 3 rfl rfl hh (fun s id hh => ?_)
  replace hh := hh.toFac (i := 0) rfl rfl
  refine WL.loopH (fun y : List (List UInt8 × List UInt8) × Int × Int => (x - y.1.length).toNat) (fun y => [(0, .ptr l 0), (3, .sl id (y.1.map srcN)), (4, .int .i64 x), (5, .int .i64 (y.1.length : Int))])
    (fun y => .fac id 3 (y.1.map srcN) :: .cell l (curC b y.2.1 y.2.2) :: H)
    (fun y => ((y.1.length : Int) ≤ x ∧ ∀ p ∈ y.1, p.1.length ≤ 8 ∧ p.2.length ≤ 8) ∧ 0 ≤ y.2.1) ([], i, h) ⟨⟨by simp; omega, by simp⟩, hi⟩ ⟨rfl, rfl, rfl, rfl, trivial⟩ hh (Sel.refl _) (fun y s hI hh => ?_)
  obtain ⟨rs, i, h⟩ := y
  obtain ⟨⟨hI, hIp⟩, hi⟩ := hI
  dsimp only at hI hIp hi hh ⊢
  by_cases hlt : (rs.length : Int) < x
  · skip
    repeat' first
      | (refine kAlloc ?_ ; refine LOps.allocH tT_ok hh rfl rfl ?_ ; intro s n hh)
      | (refine kStore ?_ ; first | (refine LOps.storeH tT_ok 0 hh rfl rfl rfl rfl rfl rfl rfl rfl rfl ?_ ; intro s hh))
      | (refine kBsl ?_ ; refine' LOps.bslH tT_ok rfl rfl rfl rfl rfl rfl rfl rfl hh ?_ ?_ ?_ ; rotate_left 2 ; (focus ((repeat' first | (exact ConsL.pls rfl rfl)); done)) ; (focus ((repeat' first | (exact ElsH.of rfl)); done)) ; intro s n hh)
      | (refine kCallN 55 ?_ ; first | (refine LOps.drawH 2 rfl rfl ok55 hh rfl rfl ?_ (specl1Pick_d hb rfl (by simp)) ?_ ; (focus (first | assumption | omega)) ; intro s x i h hq hi hh ; try dsimp only))
      | (refine kCallN 56 ?_ ; first | (refine LOps.drawH 1 rfl rfl ok56 hh rfl rfl ?_ (specl1Once_d hb (by omega)) ?_ ; (focus (first | assumption | omega)) ; intro s x i h hq hi hh ; try dsimp only))
      | (refine kOps ?_; first | (refine LOps.nil ?_) | (refine LOps.ev tT_ok rfl ?_))
      | (refine kWL ?_; first | (refine WL.seq ?_) | (refine WL.region (by kernel_rfl) ?_) | (refine WL.block ?_) | (refine WL.skip ?_) | (refine kCond ?_; first | (refine WL.condT' rfl ?_ ?_; (focus (first | (exact decide_eq_true (by assumption)))))))
      | (refine lthen_n ?_)
    rename Bool => o
    rename List UInt8 => t1
    have ht1 : t1.length ≤ 8 := pick_len (n := 8) (by assumption) rfl
    cases o
    · skip
      repeat' first
        | (refine kBsl ?_ ; refine' LOps.bslH tT_ok rfl rfl rfl rfl rfl rfl rfl rfl hh ?_ ?_ ?_ ; rotate_left 2 ; (focus ((repeat' first | (exact ConsL.nil) | (exact Cons.pl rfl rfl) | (exact Cons.nilsl) | (refine' ConsL.cons ?_ ?_) | (refine' Cons.agg ?_)); done)) ; (focus ((repeat' first | (exact ElsH.of rfl)); done)) ; intro s n hh)
        | (refine kApp ?_ ; first | (refine' LOps.appF tT_ok 4 rfl rfl rfl rfl rfl rfl rfl rfl rfl rfl rfl hh ?_ (AppB.of ?_ rfl) ?_ ; (focus ((repeat' first | (exact Elems.of rfl)); done)) ; (focus (first | omega | (simp ; omega))) ; intro s hh))
        | (refine kOps ?_; first | (refine LOps.nil ?_) | (refine LOps.ev tT_ok rfl ?_) | (refine kLoad ?_; first | (refine LOps.ans (AnsL.loadH tT_ok 1 hh rfl rfl rfl rfl) ?_)) | (refine kBin ?_; first | (refine LOps.ans (AnsL.add rfl rfl ?_) ?_; (focus (constructor <;> omega)))))
        | (refine kWL ?_; first | (refine WL.region (by kernel_rfl) ?_) | (refine WL.skip ?_) | (refine kCond ?_; first | (refine WL.condF rfl ?_)))
        | (refine lthen_n ?_)
        | (refine lblock_n ?_)
      have hY : rs.map srcN ++ [.agg [.str t1, .str [], .nilsl]] = (rs ++ [(t1, [])]).map srcN := by simp [srcN]
      rw [hY] at hh
      refine lbackH.of (rs ++ [(t1, [])], i, h) ?_ hh ?_ ⟨⟨by simp; omega, fun p hp => by rcases List.mem_append.1 hp with hp | hp; (exact hIp p hp); (rw [List.mem_singleton.1 hp]; exact ⟨ht1, Nat.zero_le _⟩)⟩, hi⟩ (by simp; omega)
      · dsimp only
        rw [← hY]
        repeat' first | exact SubL.nil | (refine SubL.mk rfl ?_ ?_) | rfl | (simp; omega) | (simp <;> fail)
      · dsimp only
        (repeat' first | (exact Sel.refl _) | (refine Sel.cons 0 rfl rfl ?_) | (refine Sel.cons 1 rfl rfl ?_) | (refine Sel.cons 2 rfl rfl ?_) | (refine Sel.cons 3 rfl rfl ?_) | (refine Sel.cons 4 rfl rfl ?_) | (refine Sel.cons 5 rfl rfl ?_) | (refine Sel.drop ?_))
    · skip
      repeat' first
        | (refine kStore ?_ ; first | (refine LOps.storeH tT_ok 2 hh rfl rfl rfl rfl rfl rfl rfl rfl rfl ?_ ; intro s hh))
        | (refine kBsl ?_ ; refine' LOps.bslH tT_ok rfl rfl rfl rfl rfl rfl rfl rfl hh ?_ ?_ ?_ ; rotate_left 2 ; (focus ((repeat' first | (exact ConsL.nil) | (exact ConsL.pls rfl rfl) | (exact Cons.pl rfl rfl) | (exact Cons.nilsl) | (refine' ConsL.cons ?_ ?_) | (refine' Cons.agg ?_)); done)) ; (focus ((repeat' first | (exact ElsH.of rfl)); done)) ; intro s n hh)
        | (refine kApp ?_ ; first | (refine' LOps.appF tT_ok 5 rfl rfl rfl rfl rfl rfl rfl rfl rfl rfl rfl hh ?_ (AppB.of ?_ rfl) ?_ ; (focus ((repeat' first | (exact Elems.of rfl)); done)) ; (focus (first | omega | (simp ; omega))) ; intro s hh))
        | (refine kCallN 55 ?_ ; first | (refine LOps.drawH 1 rfl rfl ok55 hh rfl rfl ?_ (specl1Pick_d hb rfl (by simp)) ?_ ; (focus (first | assumption | omega)) ; intro s x i h hq hi hh ; try dsimp only))
        | (refine kOps ?_; first | (refine LOps.nil ?_) | (refine LOps.ev tT_ok rfl ?_) | (refine kLoad ?_; first | (refine LOps.ans (AnsL.loadH tT_ok 2 hh rfl rfl rfl rfl) ?_)) | (refine kBin ?_; first | (refine LOps.ans (AnsL.add rfl rfl ?_) ?_; (focus (constructor <;> omega)))))
        | (refine kWL ?_; first | (refine WL.region (by kernel_rfl) ?_) | (refine kCond ?_; first | (refine WL.condT rfl ?_)))
        | (refine lthen_n ?_)
        | (refine lblock_n ?_)
      have hY : rs.map srcN ++ [.agg [.str t1, .str x, .nilsl]] = (rs ++ [(t1, x)]).map srcN := by simp [srcN]
      rw [hY] at hh
      refine lbackH.of (rs ++ [(t1, x)], i, h) ?_ hh ?_ ⟨⟨by simp; omega, fun p hp => by rcases List.mem_append.1 hp with hp | hp; (exact hIp p hp); (rw [List.mem_singleton.1 hp]; exact ⟨ht1, pick_len (n := 8) (by assumption) rfl⟩)⟩, hi⟩ (by simp; omega)
      · dsimp only
        rw [← hY]
        repeat' first | exact SubL.nil | (refine SubL.mk rfl ?_ ?_) | rfl | (simp; omega) | (simp <;> fail)
      · dsimp only
        (repeat' first | (exact Sel.refl _) | (refine Sel.cons 0 rfl rfl ?_) | (refine Sel.cons 1 rfl rfl ?_) | (refine Sel.cons 2 rfl rfl ?_) | (refine Sel.cons 3 rfl rfl ?_) | (refine Sel.cons 4 rfl rfl ?_) | (refine Sel.cons 5 rfl rfl ?_) | (refine Sel.drop ?_))
  · skip
    repeat' first
      | (refine kOps ?_; first | (refine LOps.nil ?_) | (refine LOps.ev tT_ok rfl ?_))
      | (refine kWL ?_; first | (refine WL.seq ?_) | (refine WL.region (by kernel_rfl) ?_) | (refine WL.exit ?_) | (refine WL.ret ?_) | (refine kCond ?_; first | (refine WL.condF' rfl ?_ ?_; (focus (first | (exact decide_eq_false (by assumption)))))))
      | (refine lthen_n ?_)
      | (refine lthen_e ?_)
      | (refine lblock_e ?_)
      | (refine lbackH_e ?_)
      | (refine LPost.r1 (r := .tmp 2) (.inl rfl) (Res1.tmp rfl) ?_)
    apply Drw.fin (x := rs) (hh := hh)
    case hv => simp [V.forget, V.forgetL_eq, List.map_map, Function.comp_def, srcN, ESrc.v]
    case hp => exact ⟨by show rs.length ≤ 4; omega, hIp⟩
    case hi => exact hi
    case hs => (first | (refine Sel.cons 0 rfl rfl ?_) | (refine Sel.cons 1 rfl rfl ?_) | (refine Sel.cons 2 rfl rfl ?_)); (repeat' first | (exact Sel.refl _) | (refine Sel.drop ?_))

end Go.Proofs.Ytoagpmhdgllchaa
