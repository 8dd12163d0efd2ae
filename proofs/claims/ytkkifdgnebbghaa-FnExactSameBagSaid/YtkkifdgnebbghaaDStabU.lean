/-
  Rows copied and sorted by the program; both SameBag; the law. Own work; no condition.
-/
import Derived.Test.YtkkifdgnebbghaaDStabT
import Derived.Test.YtkkifdgnebbghaaDStabR
import Derived.Test.YtkkifdgnebbghaaVCap3
namespace Go.Proofs.Ytkkifdgnebbghaa
open Go
set_option linter.unusedSimpArgs false
set_option linter.unusedVariables false

theorem cloneRow_p (row : List Val) (h : row.length ≤ 1048576) (s : S) : VCalls Try.prog 28 [Val.toVS row] s (fun v t => v = Val.toVS row ∧ t = s) := by
  refine VCalls.pureOf (ds := [Val.toVS row]) (by simp [V.plainL, show (Val.toVS row).plain = true from plain_ValueS row]) (plain_ValueS row) (fun s => ?_) s
  refine LCalls.body Try.func28 rfl (by kernel_rfl) ?_
  repeat' first
    | (refine WL.regionNil tT_ok rfl rfl rfl rfl (fun b hb => ?_) ; cases b)
    | (refine kOps ?_; first | (refine LOps.nil ?_) | (refine LOps.ev tT_ok rfl ?_) | (refine kBsl ?_; first | (refine LOps.bsl0 tT_ok rfl rfl rfl rfl rfl ?_)) | (refine kApp ?_; first | (refine LOps.app0 tT_ok rfl rfl rfl rfl rfl rfl rfl rfl rfl rfl rfl ?_ (AppB.of ?_ rfl) ?_; (focus (first | exact Elems.of rfl | exact Elems.map fun _ => rfl | exact PE.els _ (fun _ => rfl) _ | exact EE.els _ (fun _ => rfl) _)); (focus (first | omega | (simp; omega))))))
    | (refine kWL ?_; first | (refine WL.seq ?_) | (refine WL.region (by kernel_rfl) ?_) | (refine WL.skip ?_) | (refine WL.ret ?_) | (refine kCond ?_; first | (refine WL.condT rfl ?_) | (refine WL.condF rfl ?_)))
    | (refine lthen_n ?_)
    | (refine lthen_r ?_)
    | (refine LPost.r1 (r := .tmp 2) (.inl rfl) (Res1.tmp rfl) ?_)
  · exact Own2.fam (f := Val.toV) (cs := row) (szf := 3) 3 (by simp [nthO]) (fun _ => rfl) (fun _ => rfl)
  · have hr : row = [] := by
      cases row with
      | nil => rfl
      | cons x r => exact absurd (hb rfl) (by simp)
    subst hr
    exact ⟨[], .nilsl, List.nodup_nil⟩
theorem flat_rows (xs : List (List Val)) : V.flat (xs.map Val.toVS) = xs.map Val.toVS := by
  induction xs with
  | nil => rfl
  | cons x xs ih => rw [List.map_cons, flat_cons, ih]; rfl
theorem rows_size (xs : List (List Val)) : ∀ v ∈ xs.map Val.toVS, v.cells.length = 1 := fun v hv => by
  obtain ⟨z, _, rfl⟩ := List.mem_map.1 hv
  rfl
theorem rows_plain (xs : List (List Val)) : V.plainL (xs.map Val.toVS) = true := by
  rw [V.plainL_eq, List.all_eq_true]
  intro v hv
  obtain ⟨z, _, rfl⟩ := List.mem_map.1 hv
  exact plain_ValueS z
structure CSt where
  i : Nat
  c : Nat
  lv : Nat
  rest : List V
def CSt.H (X : List (List Val)) (H : List BE) (y : CSt) : List BE := if y.i = 0 then H else .cell y.lv (V.flat ((X.take y.i).map Val.toVS) ++ y.rest) :: H
set_option maxHeartbeats 4000000 in
theorem copyRows_c (X : List (List Val)) (hw : X.length ≤ 1048576) (hrow : ∀ x ∈ X, x.length ≤ 1048576) {s : S} {H : List BE} (hh : Hold s s.next H) :
    VCalls Try.prog 23 [.sl 0 (X.map Val.toVS)] (s.ext []) (fun v t => ∃ (s' : S) (y : CSt), t = s'.ext [] ∧ v = .slm (.is y.c) y.lv 0 X.length ∧ y.i = X.length ∧ (X.length = 0 → y.c = 0 ∧ y.lv = 0) ∧ Hold s' s'.next (y.H X H)) := by
  have hml : (X.map Val.toVS).length = X.length := List.length_map ..
  refine LCalls.body0 Try.func23 rfl (by kernel_rfl) ?_
  repeat' first
    | (refine kBsl ?_ ; first | (refine LOps.ans (AnsL.bslN tT_ok rfl rfl rfl rfl rfl) ?_))
    | (refine kOps ?_; first | (refine LOps.nil ?_) | (refine LOps.ev tT_ok rfl ?_) | (refine kLen ?_; first | (refine LOps.ans (AnsL.lenM tT_ok rfl rfl rfl) ?_)))
    | (refine kWL ?_; first | (refine WL.seq ?_) | (refine WL.region (by kernel_rfl) ?_) | (refine WL.block ?_))
    | (refine lthen_n ?_)
  refine WL.loopH (fun y : CSt => X.length - y.i) (fun y => [(3, .slm (.is y.c) y.lv 0 y.i), (7, .sl 0 (X.map Val.toVS)), (8, .int .i64 (X.length : Int)), (9, .int .i64 (y.i : Int))]) (fun y => y.H X H)
    (fun y => y.i ≤ X.length ∧ (y.i = 0 → y.c = 0 ∧ y.lv = 0) ∧ (0 < y.i → y.rest.length = (y.c - y.i) * 1 ∧ y.i ≤ y.c)) ⟨0, 0, 0, []⟩ ⟨Nat.zero_le _, fun _ => ⟨rfl, rfl⟩, fun h => absurd h (Nat.lt_irrefl 0)⟩ ⟨rfl, rfl, by rw [← hml]; rfl, rfl, trivial⟩ hh (Sel.refl _) (fun y s hI hh => ?_)
  obtain ⟨i, c, lv, rest⟩ := y
  obtain ⟨g1, g2, g3⟩ := hI
  dsimp only at g1 g2 g3 hh ⊢
  rcases Nat.lt_or_ge i X.length with hlt | hge
  · have hgx : (X.map Val.toVS)[i]? = some (Val.toVS X[i]) := by simp [hlt]
    have hC := fun t => cloneRow_p X[i] (hrow _ (List.getElem_mem hlt)) t
    have hT : (X.take (i + 1)).map Val.toVS = (X.take i).map Val.toVS ++ [Val.toVS X[i]] := by rw [List.take_succ_eq_append_getElem hlt, List.map_append]; rfl
    generalize X[i] = x at hgx hC hT
    rcases Nat.eq_zero_or_pos i with h0 | h0
    · subst h0
      obtain ⟨rfl, rfl⟩ := g2 rfl
      have hh : Hold s s.next H := hh
      have hi' : ((0 : Nat) : Int) < (X.length : Int) := by omega
      have hbb : [Val.toVS x].length ≤ 1099511627776 := by simp
      repeat' first
        | (refine kBsl ?_ ; first | (refine LOps.ans (AnsL.bslE tT_ok rfl rfl rfl rfl rfl rfl rfl rfl ?_) ?_ ; (focus ((repeat' first | (exact ElsH.of rfl)); done))))
        | (refine kApp ?_ ; refine LOps.appZP tT_ok rfl (fun _ _ h => h) rfl rfl rfl rfl rfl rfl rfl hh (Elems.of rfl) (AppB.of hbb rfl) ?_ ; intro s c2 l2 rest2 hc2 hr2 hh)
        | (refine kOps ?_; first | (refine LOps.nil ?_) | (refine LOps.ev tT_ok rfl ?_) | (refine kBin ?_; first | (refine LOps.ans (AnsL.add rfl rfl ?_) ?_; (focus (constructor <;> omega)))) | (refine kIdx ?_; first | (refine LOps.ans (AnsL.idx tT_ok rfl rfl rfl rfl rfl hgx rfl rfl) ?_)) | (refine kCallN 28 ?_; first | (refine LOps.ans (AnsL.callP rfl rfl rfl (ok28) (hC _)) ?_)))
        | (refine kWL ?_; first | (refine WL.seq ?_) | (refine WL.region (by kernel_rfl) ?_) | (refine WL.block ?_) | (refine WL.skip ?_) | (refine kCond ?_; first | (refine WL.condT' rfl ?_ ?_; (focus (first | (exact decide_eq_true (by assumption)))))))
        | (refine lthen_n ?_)
        | (refine lblock_n ?_)
      refine lbackH.of ⟨1, c2, l2, rest2⟩ ⟨rfl, rfl, rfl, rfl, trivial⟩ hh ?_ ⟨by dsimp only; omega, fun h => absurd h (show ¬ (1 : Nat) = 0 by decide), fun _ => ⟨hr2, hc2⟩⟩ (by dsimp only; omega)
      have : (CSt.mk 1 c2 l2 rest2).H X H = .cell l2 (V.flat [Val.toVS x] ++ rest2) :: H := by
        unfold CSt.H
        rw [if_neg (show ¬ (1 : Nat) = 0 by decide)]
        dsimp only
        rw [hT]; rfl
      rw [this]
      exact Sel.refl _
    · obtain ⟨r1, r2⟩ := g3 h0
      have hH : (CSt.mk i c lv rest).H X H = .cell lv (V.flat ((X.take i).map Val.toVS) ++ rest) :: H := by
        unfold CSt.H
        rw [if_neg (show ¬ i = 0 by omega)]
      rw [hH] at hh
      have hun : ((X.take i).map Val.toVS).length = i := by rw [List.length_map, List.length_take]; omega
      have hus := rows_size (X.take i)
      have hi' : (i : Int) < (X.length : Int) := by omega
      have hbb : i + [Val.toVS x].length ≤ 1099511627776 := by simp only [List.length_cons, List.length_nil]; omega
      repeat' first
        | (refine kBsl ?_ ; first | (refine LOps.ans (AnsL.bslE tT_ok rfl rfl rfl rfl rfl rfl rfl rfl ?_) ?_ ; (focus ((repeat' first | (exact ElsH.of rfl)); done))))
        | (refine kApp ?_ ; refine LOps.appE (us := (X.take i).map Val.toVS) tT_ok 0 rfl rfl rfl rfl rfl rfl rfl rfl rfl rfl hh hun hus r1 r2 (Elems.of rfl) (AppB.of hbb rfl) ?_ ; intro s c2 l2 rest2 hc2 hr2 hh)
        | (refine kOps ?_; first | (refine LOps.nil ?_) | (refine LOps.ev tT_ok rfl ?_) | (refine kBin ?_; first | (refine LOps.ans (AnsL.add rfl rfl ?_) ?_; (focus (constructor <;> omega)))) | (refine kIdx ?_; first | (refine LOps.ans (AnsL.idx tT_ok rfl rfl rfl rfl rfl hgx rfl rfl) ?_)) | (refine kCallN 28 ?_; first | (refine LOps.ans (AnsL.callP rfl rfl rfl (ok28) (hC _)) ?_)))
        | (refine kWL ?_; first | (refine WL.seq ?_) | (refine WL.region (by kernel_rfl) ?_) | (refine WL.block ?_) | (refine WL.skip ?_) | (refine kCond ?_; first | (refine WL.condT' rfl ?_ ?_; (focus (first | (exact decide_eq_true (by assumption)))))))
        | (refine lthen_n ?_)
        | (refine lblock_n ?_)
      refine lbackH.of ⟨i + 1, c2, l2, rest2⟩ ⟨rfl, rfl, rfl, rfl, trivial⟩ hh ?_ ⟨by dsimp only; omega, fun h => absurd h (by dsimp only; omega), fun _ => ⟨hr2, hc2⟩⟩ (by dsimp only; omega)
      have : (CSt.mk (i + 1) c2 l2 rest2).H X H = .cell l2 (V.flat ((X.take i).map Val.toVS ++ [Val.toVS x]) ++ rest2) :: H := by
        unfold CSt.H
        rw [if_neg (show ¬ i + 1 = 0 by omega)]
        dsimp only
        rw [hT]
      rw [this]
      exact Sel.refl _
  · have hie : i = X.length := by omega
    have hz : ¬ (i : Int) < (X.length : Int) := by omega
    repeat' first
      | (refine kOps ?_; first | (refine LOps.nil ?_) | (refine LOps.ev tT_ok rfl ?_))
      | (refine kWL ?_; first | (refine WL.seq ?_) | (refine WL.region (by kernel_rfl) ?_) | (refine WL.exit ?_) | (refine WL.ret ?_) | (refine kCond ?_; first | (refine WL.condF' rfl ?_ ?_; (focus (first | (exact decide_eq_false (by assumption)))))))
      | (refine lthen_n ?_)
      | (refine lthen_e ?_)
      | (refine lblock_e ?_)
      | (refine lbackH_e ?_)
      | (refine LPost.r1 (r := .tmp 2) (.inl rfl) (Res1.tmp rfl) ?_)
    subst hie
    exact ⟨s, ⟨X.length, c, lv, rest⟩, rfl, rfl, rfl, g2, hh⟩
/-- Nothing to sort. -/
theorem insertion_0 {s : S} {H : List BE} (hh : Hold s s.next H) : VCalls Try.prog 32 [.slm (.is 0) 0 0 0, .int .i64 0, .int .i64 0, .fn 25 []] (s.ext []) (fun v t => v = .tup [] ∧ ∃ s' : S, t = s'.ext [] ∧ Hold s' s'.next H) := by
  refine LCalls.body0 Try.func32 rfl (by kernel_rfl) ?_
  repeat' first
    | (refine kOps ?_; first | (refine LOps.nil ?_) | (refine LOps.ev tT_ok rfl ?_) | (refine kBin ?_; first | (refine LOps.ans (AnsL.add rfl rfl ?_) ?_; (focus (constructor <;> omega)))))
    | (refine kWL ?_; first | (refine WL.seq ?_) | (refine WL.region (by kernel_rfl) ?_) | (refine WL.block ?_))
    | (refine lthen_n ?_)
  refine WL.loopH (fun _ : Unit => 0) (fun _ => [(2, .int .i64 0), (8, .int .i64 1)]) (fun _ => H) (fun _ => True) () trivial ⟨rfl, rfl, trivial⟩ hh (Sel.refl _) (fun _ s _ hh => ?_)
  repeat' first
    | (refine kOps ?_; first | (refine LOps.nil ?_) | (refine LOps.ev tT_ok rfl ?_))
    | (refine kWL ?_; first | (refine WL.seq ?_) | (refine WL.region (by kernel_rfl) ?_) | (refine WL.exit ?_) | (refine kCond ?_; first | (refine WL.condF rfl ?_)))
    | (refine lthen_n ?_)
    | (refine lthen_e ?_)
    | (refine lblock_e ?_)
    | (refine lbackH_e ?_)
  exact ⟨⟨[], fun σ _ => rfl, rfl, s, rfl, hh⟩⟩
theorem stable_0 {s : S} {H : List BE} (hh : Hold s s.next H) : VCalls Try.prog 29 [.slm (.is 0) 0 0 0, .int .i64 0, .fn 25 []] (s.ext []) (fun v t => v = .tup [] ∧ ∃ s' : S, t = s'.ext [] ∧ Hold s' s'.next H) := by
  refine LCalls.body0 Try.func29 rfl (by kernel_rfl) ?_
  repeat' first
    | (refine kOps ?_; first | (refine LOps.nil ?_) | (refine LOps.ev tT_ok rfl ?_))
    | (refine kWL ?_; first | (refine WL.seq ?_) | (refine WL.region (by kernel_rfl) ?_) | (refine WL.block ?_))
    | (refine lthen_n ?_)
  refine WL.loopH (fun _ : Unit => 0) (fun _ => [(0, .slm (.is 0) 0 0 0), (1, .int .i64 0), (2, .fn 25 []), (6, .int .i64 20), (7, .int .i64 0), (8, .int .i64 20)]) (fun _ => H) (fun _ => True) () trivial ⟨rfl, rfl, rfl, rfl, rfl, rfl, trivial⟩ hh (Sel.refl _) (fun _ s _ hh => ?_)
  repeat' first
    | (refine kCallN 32 ?_ ; refine LOps.call rfl rfl (appO_nil _) ok32 (insertion_0 hh) (fun v t hv => ?_) ; obtain ⟨rfl, s, rfl, hh⟩ := hv)
    | (refine kOps ?_; first | (refine LOps.nil ?_) | (refine LOps.ev tT_ok rfl ?_))
    | (refine kWL ?_; first | (refine WL.seq ?_) | (refine WL.region (by kernel_rfl) ?_) | (refine WL.block ?_) | (refine WL.exit ?_) | (refine kCond ?_; first | (refine WL.condF rfl ?_)))
    | (refine lthen_n ?_)
    | (refine lthen_e ?_)
    | (refine lblock_e ?_)
    | (refine lbackH_e ?_)
  refine WL.loopH (fun _ : Unit => 0) (fun _ => [(1, .int .i64 0), (6, .int .i64 20)]) (fun _ => H) (fun _ => True) () trivial ⟨rfl, rfl, trivial⟩ hh (Sel.refl _) (fun _ s _ hh => ?_)
  repeat' first
    | (refine kOps ?_; first | (refine LOps.nil ?_) | (refine LOps.ev tT_ok rfl ?_))
    | (refine kWL ?_; first | (refine WL.seq ?_) | (refine WL.region (by kernel_rfl) ?_) | (refine WL.exit ?_) | (refine kCond ?_; first | (refine WL.condF rfl ?_)))
    | (refine lthen_n ?_)
    | (refine lthen_e ?_)
    | (refine lblock_e ?_)
    | (refine lbackH_e ?_)
  exact ⟨⟨[], fun σ _ => rfl, rfl, s, rfl, hh⟩⟩
theorem sortStable_0 {s : S} {H : List BE} (hh : Hold s s.next H) : VCalls Try.prog 24 [.slm (.is 0) 0 0 0, .fn 25 []] (s.ext []) (fun v t => v = .tup [] ∧ ∃ s' : S, t = s'.ext [] ∧ Hold s' s'.next H) := by
  refine LCalls.body0 Try.func24 rfl (by kernel_rfl) ?_
  repeat' first
    | (refine kCallN 29 ?_ ; refine LOps.call rfl rfl (appO_nil _) ok29 (stable_0 hh) (fun v t hv => ?_) ; obtain ⟨rfl, s, rfl, hh⟩ := hv)
    | (refine kOps ?_; first | (refine LOps.nil ?_) | (refine LOps.ev tT_ok rfl ?_))
    | (refine kWL ?_; first | (refine WL.region (by kernel_rfl) ?_))
  exact ⟨⟨[], fun σ _ => rfl, rfl, s, rfl, hh⟩⟩
/-- What both SortRows do. -/
def SortC (P : Program) (g : FuncId) (X : List (List Val)) : Prop := ∀ (s : S) (H : List BE), Hold s s.next H → VCalls P g [.sl 0 (X.map Val.toVS)] (s.ext []) (fun v t => v = .sl 0 ((srtOf X).map Val.toVS) ∧ ∃ s' : S, t = s'.ext [] ∧ Hold s' s'.next H)
set_option maxHeartbeats 4000000 in
theorem implSortRows_b (X : List (List Val)) (hw : X.length ≤ 1048576) (hrow : ∀ x ∈ X, x.length ≤ 1048576) : SortC Try.prog 14 X := by
  intro s H hh
  refine VCalls.mono (VCalls.frzS (f := fun ys : List (List Val) => .sl 0 (ys.map Val.toVS)) (p := fun ys => ys = srtOf X) (H := fun _ => H) ?_) ?_
  · have hcp := copyRows_c X hw hrow hh
    refine LCalls.body0 Try.func14 rfl (by kernel_rfl) ?_
    repeat' first
      | (refine kCallN 23 ?_ ; refine LOps.call rfl rfl (appO_nil _) ok23 hcp (fun v t hv => ?_) ; obtain ⟨s, y, rfl, rfl, hyi, hy0, hh⟩ := hv)
      | (refine kOps ?_; first | (refine LOps.nil ?_) | (refine LOps.ev tT_ok rfl ?_))
      | (refine kWL ?_; first | (refine WL.seq ?_) | (refine WL.region (id := 0) (by kernel_rfl) ?_) | (refine WL.region (id := 1) (by kernel_rfl) ?_))
      | (refine lthen_n ?_)
    obtain ⟨i, c, lv, rest⟩ := y
    dsimp only at hyi hy0 hh ⊢
    subst hyi
    rcases Nat.eq_zero_or_pos X.length with h0 | h0
    · obtain ⟨rfl, rfl⟩ := hy0 h0
      have hX : X = [] := List.eq_nil_of_length_eq_zero h0
      subst hX
      have hh : Hold s s.next H := hh
      repeat' first
        | (refine kCallN 24 ?_ ; refine LOps.call rfl rfl (appO_nil _) ok24 (sortStable_0 hh) (fun v t hv => ?_) ; obtain ⟨rfl, s, rfl, hh⟩ := hv)
        | (refine kOps ?_; first | (refine LOps.nil ?_) | (refine LOps.ev tT_ok rfl ?_))
        | (refine kWL ?_; first | (refine WL.seq ?_) | (refine WL.region (by kernel_rfl) ?_) | (refine WL.ret ?_))
        | (refine lthen_n ?_)
        | (refine LPost.r1 (r := .tmp 2) (.inl rfl) (Res1.tmp rfl) ?_)
      exact ⟨[], s, srtOf_eq (.refl _) .nil, rfl, ⟨[], hh, rfl, fun _ _ _ => .slm0⟩⟩
    · have hH : (CSt.mk X.length c lv rest).H X H = .cell lv (rowV X rest) :: H := by
        unfold CSt.H
        rw [if_neg (show ¬ X.length = 0 by omega)]
        dsimp only
        rw [List.take_length, flat_rows]
      rw [hH] at hh
      have hS := @sortStable_c X c lv X.length rest rfl hw hrow
      repeat' first
        | (refine kCallN 24 ?_ ; refine LOps.call rfl rfl (appO_nil _) ok24 (hS _ _ hh) (fun v t hv => ?_) ; obtain ⟨rfl, ys, s, ⟨p1, w1⟩, rfl, hh⟩ := hv)
        | (refine kOps ?_; first | (refine LOps.nil ?_) | (refine LOps.ev tT_ok rfl ?_))
        | (refine kWL ?_; first | (refine WL.seq ?_) | (refine WL.region (by kernel_rfl) ?_) | (refine WL.ret ?_))
        | (refine lthen_n ?_)
        | (refine LPost.r1 (r := .tmp 2) (.inl rfl) (Res1.tmp rfl) ?_)
      exact ⟨ys, s, srtOf_eq p1 w1, rfl, FinS.cell (sz := 1) (by rw [flat_rows]; exact hh) (by rw [List.length_map, p1.length_eq]) (rows_size ys) (rows_plain ys)⟩
  · rintro v t ⟨ys, s', rfl, rfl, rfl, h⟩
    exact ⟨rfl, s', rfl, h⟩
theorem specSortRows_b (X : List (List Val)) (hw : X.length ≤ 1048576) (hrow : ∀ x ∈ X, x.length ≤ 1048576) : SortC Try.prog 11 X := fun s H hh => VCalls.forgetR (specSortRows_h X hw hrow hh)
theorem srt_has (X : List (List Val)) : ∃ ys : List (List Val), ys.Perm X ∧ Srt cRow ys := by
  induction X with
  | nil => exact ⟨[], .refl _, .nil⟩
  | cons x X ih =>
    obtain ⟨ys, h1, h2⟩ := ih
    -- x among the sorted others
    have : ∀ P Q : List (List Val), Srt cRow (P ++ Q) → (∀ p ∈ P, leF cRow p x) → ∃ zs : List (List Val), zs.Perm (x :: (P ++ Q)) ∧ Srt cRow zs := by
      intro P Q
      induction Q generalizing P with
      | nil => exact fun hs hp => ⟨P ++ x :: [], List.perm_middle, hs.ins cRow_ordr (fun q hq => by cases hq) hp⟩
      | cons q Q ihQ =>
        intro hs hp
        by_cases hc : cRow x q < 0
        · exact ⟨P ++ x :: q :: Q, List.perm_middle, hs.ins cRow_ordr (hs.right.headLe cRow_ordr (cRow_ordr.lt hc)) hp⟩
        · have hs' : Srt cRow ((P ++ [q]) ++ Q) := by simpa using hs
          obtain ⟨zs, z1, z2⟩ := ihQ (P ++ [q]) hs' (fun p hp' => by
            rcases List.mem_append.1 hp' with h | h
            · exact hp p h
            · rw [List.mem_singleton] at h; subst h; exact hc)
          exact ⟨zs, by simpa using z1, z2⟩
    obtain ⟨zs, z1, z2⟩ := this [] ys h2 (fun p hp => by cases hp)
    exact ⟨zs, z1.trans (h1.cons x), z2⟩
theorem srt_weight {X : List (List Val)} (h : ∃ ys : List (List Val), ys.Perm X ∧ Srt cRow ys) : slW (slW Val.wt) (srtOf X) = slW (slW Val.wt) X := by
  obtain ⟨ys, h1, h2⟩ := h
  rw [← srtOf_eq h1 h2]
  exact slW_perm _ h1
/-- What both SameBag do. -/
def BagC (P : Program) (g : FuncId) (X Y : List (List Val)) : Prop := ∀ (s : S) (H : List BE), Hold s s.next H → VCalls P g [.sl 0 (X.map Val.toVS), .sl 0 (Y.map Val.toVS)] (s.ext []) (fun v t => v = .bool (same rowEq (srtOf X) (srtOf Y)) ∧ ∃ s' : S, t = s'.ext [] ∧ Hold s' s'.next H)
theorem implSameBag_b {X Y : List (List Val)} (h1 : SortC Try.prog 14 X) (h2 : SortC Try.prog 14 Y) (w1 : slW (slW Val.wt) (srtOf X) ≤ 1048576) (w2 : slW (slW Val.wt) (srtOf Y) ≤ 1048576) : BagC Try.prog 7 X Y := by
  intro s H hh
  have hS := fun t => implSameRows_v (srtOf X) (srtOf Y) w1 w2 t
  refine LCalls.body0 Try.func7 rfl (by kernel_rfl) ?_
  repeat' first
    | (refine kCallN 14 ?_ ; (first | (refine LOps.call rfl rfl (appO_nil _) ok14 (h1 _ _ hh) (fun v t hv => ?_)) | (refine LOps.call rfl rfl (appO_nil _) ok14 (h2 _ _ hh) (fun v t hv => ?_))) ; obtain ⟨rfl, s, rfl, hh⟩ := hv)
    | (refine kOps ?_; first | (refine LOps.nil ?_) | (refine LOps.ev tT_ok rfl ?_) | (refine kCallN 13 ?_; first | (refine LOps.ans (AnsL.callP rfl rfl rfl (ok13) (hS _)) ?_)))
    | (refine kWL ?_; first | (refine WL.seq ?_) | (refine WL.region (by kernel_rfl) ?_) | (refine WL.ret ?_))
    | (refine lthen_n ?_)
    | (refine LPost.r1 (r := .tmp 4) (.inl rfl) (Res1.tmp rfl) ?_)
  all_goals first
    | rfl
    | exact ⟨s, rfl, hh⟩
    | exact ⟨rfl, s, rfl, hh⟩
theorem specSameBag_b {X Y : List (List Val)} (h1 : SortC Try.prog 11 X) (h2 : SortC Try.prog 11 Y) (w1 : slW (slW Val.wt) (srtOf X) ≤ 1048576) (w2 : slW (slW Val.wt) (srtOf Y) ≤ 1048576) : BagC Try.prog 5 X Y := by
  intro s H hh
  have hS := fun t => specSameRows_v (srtOf X) (srtOf Y) w1 w2 t
  refine LCalls.body0 Try.func5 rfl (by kernel_rfl) ?_
  repeat' first
    | (refine kCallN 11 ?_ ; (first | (refine LOps.call rfl rfl (appO_nil _) ok11 (h1 _ _ hh) (fun v t hv => ?_)) | (refine LOps.call rfl rfl (appO_nil _) ok11 (h2 _ _ hh) (fun v t hv => ?_))) ; obtain ⟨rfl, s, rfl, hh⟩ := hv)
    | (refine kOps ?_; first | (refine LOps.nil ?_) | (refine LOps.ev tT_ok rfl ?_) | (refine kCallN 10 ?_; first | (refine LOps.ans (AnsL.callP rfl rfl rfl (ok10) (hS _)) ?_)))
    | (refine kWL ?_; first | (refine WL.seq ?_) | (refine WL.region (by kernel_rfl) ?_) | (refine WL.ret ?_))
    | (refine lthen_n ?_)
    | (refine LPost.r1 (r := .tmp 4) (.inl rfl) (Res1.tmp rfl) ?_)
  all_goals first
    | rfl
    | exact ⟨s, rfl, hh⟩
    | exact ⟨rfl, s, rfl, hh⟩

end Go.Proofs.Ytkkifdgnebbghaa
