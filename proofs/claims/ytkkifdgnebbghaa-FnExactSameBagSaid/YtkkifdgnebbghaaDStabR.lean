/-
  The reference's SortRows and SameBag. Own work; no condition.
-/
import Derived.Test.YtkkifdgnebbghaaDStabC
import Derived.Test.YtkkifdgnebbghaaVStab2
import Derived.Test.YtkkifdgnebbghaaDOwn
import Derived.Test.YtkkifdgnebbghaaVSlc
namespace Go.Proofs.Ytkkifdgnebbghaa
open Go
set_option linter.unusedSimpArgs false
set_option linter.unusedVariables false

theorem sumW_perm {α : Type} (f : α → Nat) {a b : List α} (h : a.Perm b) : sumW f a = sumW f b := by
  unfold sumW
  exact (h.map f).sum_nat
theorem slW_perm {α : Type} (f : α → Nat) {a b : List α} (h : a.Perm b) : slW f a = slW f b := by
  unfold slW
  rw [h.length_eq, sumW_perm f h]
/-- Rows, sorted. -/
noncomputable def srtOf (xs : List (List Val)) : List (List Val) := open Classical in if h : ∃ ys : List (List Val), ys.Perm xs ∧ Srt cRow ys then h.choose else []
theorem srtOf_eq {xs ys : List (List Val)} (h1 : ys.Perm xs) (h2 : Srt cRow ys) : ys = srtOf xs := by
  have h : ∃ ys : List (List Val), ys.Perm xs ∧ Srt cRow ys := ⟨ys, h1, h2⟩
  unfold srtOf
  rw [dif_pos h]
  exact srt_uniq cRow_ordr (h1.trans h.choose_spec.1.symm) h2 h.choose_spec.2
theorem forget_row (x : List Val) : (Val.toVS x).forget = Val.toVS x := plain_forget _ (plain_ValueS x)
theorem forget_rows (xs : List (List Val)) (id : Nat) : (V.sl id (xs.map Val.toVS)).forget = .sl 0 (xs.map Val.toVS) := by
  simp only [V.forget, V.forgetL_eq, List.map_map]
  congr 1
  exact List.map_congr_left fun x _ => forget_row x
theorem l5Row_p (row : List Val) (h : row.length ≤ 1048576) (s : S) : VCalls Try.prog 19 [Val.toVS row] s (fun v t => v = Val.toVS row ∧ t = s) :=
  VCalls.pureOf (ds := [Val.toVS row]) (by simp [V.plainL, show (Val.toVS row).plain = true from plain_ValueS row]) (plain_ValueS row) (fun t => specl5Row_o row h t) s
set_option maxHeartbeats 4000000 in
theorem specSortRows_h (X : List (List Val)) (hw : X.length ≤ 1048576) (hrow : ∀ x ∈ X, x.length ≤ 1048576) {s : S} {H : List BE} (hh : Hold s s.next H) :
    VCalls Try.prog 11 [.sl 0 (X.map Val.toVS)] (s.ext []) (fun v t => v.forget = .sl 0 ((srtOf X).map Val.toVS) ∧ ∃ s' : S, t = s'.ext [] ∧ Hold s' s'.next H) := by
  have hml : (X.map Val.toVS).length = X.length := List.length_map ..
  refine LCalls.body0 Try.func11 rfl (by kernel_rfl) ?_
  repeat' first
    | (refine kOps ?_; first | (refine LOps.nil ?_) | (refine LOps.ev tT_ok rfl ?_) | (refine kBsl ?_; first | (refine LOps.bsl0 tT_ok rfl rfl rfl rfl rfl ?_)))
    | (refine kWL ?_; first | (refine WL.seq ?_) | (refine WL.region (by kernel_rfl) ?_) | (refine WL.block ?_))
    | (refine lthen_n ?_)
  refine WL.fgtV 3 rfl (d := .sl 0 (([] : List (List Val)).map Val.toVS)) rfl ?_
  refine WL.loopH (fun y : Nat × List (List Val) => X.length - y.1) (fun y => [(0, .sl 0 (X.map Val.toVS)), (3, .sl 0 (y.2.map Val.toVS)), (4, .int .i64 (y.1 : Int))]) (fun _ => H)
    (fun y => y.1 ≤ X.length ∧ y.2.Perm (X.take y.1) ∧ Srt cRow y.2) (0, []) ⟨Nat.zero_le _, .refl _, .nil⟩ ⟨rfl, rfl, rfl, trivial⟩ hh (by (repeat' first | (exact Sel.nil) | (exact Sel.refl _) | (refine' Sel.p ?_ ?_; rotate_left 1; (focus (((repeat' first | (exact Pick.here) | (refine' Pick.there ?_)); done)))))) (fun y s hI hh => ?_)
  obtain ⟨i, Y⟩ := y
  obtain ⟨g1, g2, g3⟩ := hI
  dsimp only at g1 g2 g3 hh ⊢
  have hYl := g2.length_eq
  rw [List.length_take] at hYl
  have hmY : (Y.map Val.toVS).length = Y.length := List.length_map ..
  rcases Nat.lt_or_ge i X.length with hlt | hge
  · have hgx : (X.map Val.toVS)[i]? = some (Val.toVS X[i]) := by simp [hlt]
    have hx := hrow X[i] (List.getElem_mem hlt)
    have hY : ∀ p ∈ Y, p.length ≤ 1048576 := fun p hp => hrow p (List.mem_of_mem_take (g2.subset hp))
    have hT : X.take (i + 1) = X.take i ++ [X[i]] := List.take_succ_eq_append_getElem hlt
    generalize X[i] = x at hgx hx hT
    have hC := fun t => l5Row_p x hx t
    repeat' first
      | (refine kOps ?_; first | (refine LOps.nil ?_) | (refine LOps.ev tT_ok rfl ?_) | (refine kLen ?_; first | (refine LOps.ans (AnsL.lenM tT_ok rfl rfl rfl) ?_)))
      | (refine kWL ?_; first | (refine WL.seq ?_) | (refine WL.region (by kernel_rfl) ?_) | (refine WL.block ?_) | (refine WL.skip ?_) | (refine kCond ?_; first | (refine WL.condT' rfl ?_ ?_; (focus (first | (simp only [decide_eq_true_eq, decide_eq_false_iff_not, Bool.not_eq_true', Bool.not_eq_false', Int.ofNat_lt, Int.ofNat_le, Int.ofNat_inj, not_true_eq_false, not_false_eq_true]; omega))))))
      | (refine lthen_n ?_)
    refine WL.loopH (fun k : Nat => k) (fun k => [(0, .sl 0 (X.map Val.toVS)), (3, .sl 0 (Y.map Val.toVS)), (4, .int .i64 (i : Int)), (5, .int .i64 (k : Int))]) (fun _ => H)
      (fun k => k ≤ Y.length ∧ ∀ q ∈ Y.drop k, leF cRow x q) Y.length ⟨Nat.le_refl _, by simp⟩ ⟨rfl, rfl, rfl, by rw [← hmY]; rfl, trivial⟩ hh (Sel.refl _) (fun k s hI hh => ?_)
    obtain ⟨k0, k1⟩ := hI
    -- where the row goes
    have hfin : ∀ (s : S) (id : Nat) (us : List V) (L : Kn), True → (∀ p ∈ Y.take k, leF cRow p x) → (Y.take k ++ x :: Y.drop k).Perm (X.take (i + 1)) ∧ Srt cRow (Y.take k ++ x :: Y.drop k) := by
      intro _ _ _ _ _ hp
      refine ⟨?_, ?_⟩
      · rw [hT]
        have e1 : (Y.take k ++ x :: Y.drop k).Perm (x :: (Y.take k ++ Y.drop k)) := List.perm_middle
        rw [List.take_append_drop] at e1
        exact e1.trans ((g2.cons x).trans (List.perm_append_singleton ..).symm)
      · have h3 := g3
        rw [← List.take_append_drop k Y] at h3
        exact h3.ins cRow_ordr k1 hp
    have hk3 : k ≤ (Y.map Val.toVS).length := by omega
    have y1 : (Y.map Val.toVS).take k = (Y.take k).map Val.toVS := (List.map_take ..).symm
    have y2 : (Y.map Val.toVS).drop k = (Y.drop k).map Val.toVS := (List.map_drop ..).symm
    have ySz : ∀ v ∈ Y.map Val.toVS, v.cells.length = 1 := fun v hv => by
      obtain ⟨z, _, rfl⟩ := List.mem_map.1 hv
      rfl
    have a1 : ((Y.take k).map Val.toVS).length = k := by rw [List.length_map, List.length_take]; omega
    have a2 : ((Y.drop k).map Val.toVS).length = Y.length - k := by rw [List.length_map, List.length_drop]
    have eU : (Y.take k).map Val.toVS ++ [Val.toVS x] ++ (Y.drop k).map Val.toVS = (Y.take k ++ x :: Y.drop k).map Val.toVS := by simp
    by_cases hgo : ∃ k', k = k' + 1 ∧ 0 < cRow (Y.getD k' []) x
    · obtain ⟨k', rfl, hc⟩ := hgo
      have hk' : k' < Y.length := by omega
      have ep : Y.getD k' [] = Y[k'] := by simp [List.getD, hk']
      have hp := hY Y[k'] (List.getElem_mem hk')
      have hgy : (Y.map Val.toVS)[(((k' + 1 : Nat) : Int) - 1).toNat]? = some (Val.toVS Y[k']) := by
        rw [show (((k' + 1 : Nat) : Int) - 1).toNat = k' by omega]
        simp [hk']
      have hE := fun t => specOrderRow_v Y[k'] x hp hx t
      rw [ep] at hc
      have hxp : leF cRow x Y[k'] := cRow_ordr.lt ((cVal_cmp.lex.anti x Y[k']).2 hc)
      have hd : Y.drop k' = Y[k'] :: Y.drop (k' + 1) := List.drop_eq_getElem_cons hk'
      generalize Y[k'] = p at hgy hE hc hxp hd
      generalize cRow p x = r at hE hc
      have hz : ((k' + 1 : Nat) : Int) > 0 := by omega
      have hz0 : (0 : Int) ≤ ((k' + 1 : Nat) : Int) - 1 := by omega
      have hz1 : ((k' + 1 : Nat) : Int) - 1 = (k' : Int) := by omega
      generalize hK : k' + 1 = K at *
      have hc' : r > 0 := hc
      repeat' first
        | (refine kOps ?_; first | (refine LOps.nil ?_) | (refine kG ?_; first | (refine LOps.gT rfl rfl rfl ?_)) | (refine LOps.ev tT_ok rfl ?_) | (refine kBin ?_; first | (refine LOps.ans (AnsL.sub rfl rfl ?_) ?_; (focus (constructor <;> omega)))) | (refine kCallN 18 ?_; first | (refine LOps.ans (AnsL.callP rfl rfl rfl (ok18) (hE _)) ?_)))
        | (refine kWL ?_; first | (refine WL.seq ?_) | (refine WL.region (by kernel_rfl) ?_) | (refine WL.drawn (id := 6) [0, 1, 2, 3, 4, 5, 6, 7, 8, 9, 10, 11, 12, 13, 14] [12] [[], [0], [0, 1], [0, 1, 2], [0, 1, 2], [0, 1, 2, 4], [0, 1, 2, 3, 4, 5], [0, 1, 2, 3, 4, 5, 6], [0, 1, 2], [0, 1, 2], [0, 1, 2, 8, 9], [0, 1, 2, 8, 9, 10], [0, 1, 2, 3, 4, 5, 6, 7, 8, 9, 10, 11], [0, 1, 2, 3, 4, 5, 6, 7, 8, 9, 10, 11, 12], [0, 1, 2, 3, 4, 5, 6, 7, 8, 9, 10, 11, 12, 13]] (by kernel_rfl) (by kernel_rfl) ?_) | (refine WL.block ?_) | (refine WL.skip ?_) | (refine kCond ?_; first | (refine WL.condT' rfl ?_ ?_; (focus (first | (exact decide_eq_true (by assumption)))))))
        | (refine kDr ?_; first | (refine LDr.nil ?_) | (refine LDr.fl rfl rfl (.ev tT_ok rfl) ?_) | (refine LDr.gT rfl rfl rfl rfl rfl (.ev tT_ok rfl) ?_) | (refine kDBin rfl ?_; first | (refine LDr.gT rfl rfl rfl rfl rfl (AnsL.sub rfl rfl ?_) ?_; (focus (constructor <;> omega)))) | (refine kDIdx rfl ?_; first | (refine LDr.gT rfl rfl rfl rfl rfl (AnsL.idxZ tT_ok rfl rfl rfl rfl rfl hz0 hgy rfl rfl) ?_) | (refine LDr.gT rfl rfl rfl rfl rfl (AnsL.idx tT_ok rfl rfl rfl rfl rfl hgx rfl rfl) ?_)) | (refine LDr.eff rfl rfl rfl ?_) | (refine LDr.gD true rfl rfl rfl rfl ?_ ?_; (focus (first | (exact decide_eq_true (by assumption))))))
        | (refine lthen_n ?_)
        | (refine lblock_n ?_)
        | (refine And.intro ?_ ?_)
        | (exact StsL.nil)
      refine lbackH.of k' ⟨rfl, rfl, rfl, ?_, trivial⟩ hh (Sel.refl _) ⟨by omega, ?_⟩ (by omega)
      · rw [← hz1]; rfl
      · rw [hd]
        intro q hq
        cases hq with
        | head => exact hxp
        | tail _ hq => exact k1 q hq
    · have hp : ∀ p ∈ Y.take k, leF cRow p x := by
        rcases Nat.eq_zero_or_pos k with h0 | h0
        · subst h0; simp
        · have hk' : k - 1 < Y.length := by omega
          have h1 : leF cRow Y[k - 1] x := by
            intro hc
            refine hgo ⟨k - 1, by omega, ?_⟩
            rw [show Y.getD (k - 1) [] = Y[k - 1] by simp [List.getD, hk']]
            exact (cVal_cmp.lex.anti _ _).1 hc
          have h2 : ∀ p ∈ Y.take (k - 1 + 1), leF cRow p Y[k - 1] := take_all fun j hj hjk => g3.at cRow_ordr hk' (by omega)
          rw [show k - 1 + 1 = k by omega] at h2
          exact fun p hp => cRow_ordr.trans _ _ _ (h2 p hp) h1
      obtain ⟨w1, w2⟩ := hfin s 0 [] [] trivial hp
      rcases Nat.eq_zero_or_pos k with h0 | h0
      · have hz : ¬ (k : Int) > 0 := by omega
        repeat' first
          | (refine kOps ?_; first | (refine LOps.nil ?_) | (refine kG ?_; first | (refine LOps.gF rfl rfl rfl ?_)) | (refine LOps.ev tT_ok rfl ?_) | (refine kBsl ?_; first | (refine LOps.bsl0 tT_ok rfl rfl rfl rfl rfl ?_) | (refine LOps.bsl tT_ok rfl rfl rfl rfl rfl rfl rfl rfl rfl rfl rfl ?_)) | (refine kApp ?_; first | (refine LOps.app tT_ok rfl rfl rfl rfl rfl rfl rfl rfl rfl rfl rfl ?_ ?_ (AppB.of ?_ rfl) ?_; (focus (first | rfl | (simp <;> fail))); (focus (first | exact Elems.of rfl | exact Elems.map fun _ => rfl | exact PE.els _ (fun _ => rfl) _ | exact EE.els _ (fun _ => rfl) _)); (focus (first | omega | (simp; omega)))) | (refine LOps.app0 tT_ok rfl rfl rfl rfl rfl rfl rfl rfl rfl rfl rfl ?_ (AppB.of ?_ rfl) ?_; (focus (first | exact Elems.of rfl | exact Elems.map fun _ => rfl | exact PE.els _ (fun _ => rfl) _ | exact EE.els _ (fun _ => rfl) _)); (focus (first | omega)))) | (refine kIdx ?_; first | (refine LOps.ans (AnsL.idx tT_ok rfl rfl rfl rfl rfl hgx rfl rfl) ?_)) | (refine kSlc ?_; first | (refine LOps.ans (AnsL.slcU (n := k) tT_ok rfl rfl rfl rfl rfl hk3 y1) ?_) | (refine LOps.ans (AnsL.slcD (n := k) tT_ok rfl rfl rfl rfl rfl rfl hk3 ySz y2) ?_)) | (refine kCallN 19 ?_; first | (refine LOps.ans (AnsL.callP rfl rfl rfl (ok19) (hC _)) ?_)))
          | (refine kWL ?_; first | (refine WL.seq ?_) | (refine WL.region (id := 8) (by kernel_rfl) ?_) | (refine WL.region (id := 9) (by kernel_rfl) ?_) | (refine WL.region (id := 10) (by kernel_rfl) ?_) | (refine WL.drawn (id := 6) [0, 1, 2, 3, 4, 5, 6, 7, 8, 9, 10, 11, 12, 13, 14] [12] [[], [0], [0, 1], [0, 1, 2], [0, 1, 2], [0, 1, 2, 4], [0, 1, 2, 3, 4, 5], [0, 1, 2, 3, 4, 5, 6], [0, 1, 2], [0, 1, 2], [0, 1, 2, 8, 9], [0, 1, 2, 8, 9, 10], [0, 1, 2, 3, 4, 5, 6, 7, 8, 9, 10, 11], [0, 1, 2, 3, 4, 5, 6, 7, 8, 9, 10, 11, 12], [0, 1, 2, 3, 4, 5, 6, 7, 8, 9, 10, 11, 12, 13]] (by kernel_rfl) (by kernel_rfl) ?_) | (refine WL.exit ?_) | (refine kCond ?_; first | (refine WL.condF rfl ?_)))
          | (refine kDr ?_; first | (refine LDr.nil ?_) | (refine LDr.fl rfl rfl (.ev tT_ok rfl) ?_) | (refine LDr.gF rfl rfl rfl rfl rfl ?_) | (refine LDr.eff rfl rfl rfl ?_) | (refine LDr.gD false rfl rfl rfl rfl ?_ ?_; (focus (first | (exact decide_eq_false (by assumption))))))
          | (refine lthen_n ?_)
          | (refine lthen_e ?_)
          | (refine lblock_n ?_)
          | (refine lblock_e ?_)
          | (refine lbackH_e ?_)
          | (refine And.intro ?_ ?_)
          | (exact StsL.nil)
        refine WL.fgtV 3 rfl (d := .sl 0 ((Y.take k ++ x :: Y.drop k).map Val.toVS)) (by rw [eU]; exact forget_rows _ _) ?_
        refine WL.toB hh (fun s hh => ?_)
        repeat' first
          | (refine kOps ?_; first | (refine LOps.nil ?_) | (refine LOps.ev tT_ok rfl ?_) | (refine kBin ?_; first | (refine LOps.ans (AnsL.add rfl rfl ?_) ?_; (focus (constructor <;> omega)))))
          | (refine kWL ?_; first | (refine WL.region (by kernel_rfl) ?_))
        exact lbackH.of (i + 1, Y.take k ++ x :: Y.drop k) ⟨rfl, rfl, rfl, trivial⟩ hh (Sel.refl _) ⟨by dsimp only; omega, w1, w2⟩ (by dsimp only; omega)
      · have hk' : k - 1 < Y.length := by omega
        have hgy : (Y.map Val.toVS)[((k : Int) - 1).toNat]? = some (Val.toVS Y[k - 1]) := by
          rw [show ((k : Int) - 1).toNat = k - 1 by omega]
          simp [hk']
        have hE := fun t => specOrderRow_v Y[k - 1] x (hY _ (List.getElem_mem hk')) hx t
        have hc : ¬ cRow Y[k - 1] x > 0 := fun hc => hgo ⟨k - 1, by omega, by
          rw [show Y.getD (k - 1) [] = Y[k - 1] by simp [List.getD, hk']]
          exact hc⟩
        generalize Y[k - 1] = p at hgy hE hc
        generalize cRow p x = r at hE hc
        have hz : (k : Int) > 0 := by omega
        have hz0 : (0 : Int) ≤ (k : Int) - 1 := by omega
        repeat' first
          | (refine kOps ?_; first | (refine LOps.nil ?_) | (refine kG ?_; first | (refine LOps.gT rfl rfl rfl ?_)) | (refine LOps.ev tT_ok rfl ?_) | (refine kBsl ?_; first | (refine LOps.bsl0 tT_ok rfl rfl rfl rfl rfl ?_) | (refine LOps.bsl tT_ok rfl rfl rfl rfl rfl rfl rfl rfl rfl rfl rfl ?_)) | (refine kApp ?_; first | (refine LOps.app tT_ok rfl rfl rfl rfl rfl rfl rfl rfl rfl rfl rfl ?_ ?_ (AppB.of ?_ rfl) ?_; (focus (first | rfl | (simp <;> fail))); (focus (first | exact Elems.of rfl | exact Elems.map fun _ => rfl | exact PE.els _ (fun _ => rfl) _ | exact EE.els _ (fun _ => rfl) _)); (focus (first | omega | (simp; omega)))) | (refine LOps.app0 tT_ok rfl rfl rfl rfl rfl rfl rfl rfl rfl rfl rfl ?_ (AppB.of ?_ rfl) ?_; (focus (first | exact Elems.of rfl | exact Elems.map fun _ => rfl | exact PE.els _ (fun _ => rfl) _ | exact EE.els _ (fun _ => rfl) _)); (focus (first | omega)))) | (refine kIdx ?_; first | (refine LOps.ans (AnsL.idx tT_ok rfl rfl rfl rfl rfl hgx rfl rfl) ?_)) | (refine kSlc ?_; first | (refine LOps.ans (AnsL.slcU (n := k) tT_ok rfl rfl rfl rfl rfl hk3 y1) ?_) | (refine LOps.ans (AnsL.slcD (n := k) tT_ok rfl rfl rfl rfl rfl rfl hk3 ySz y2) ?_)) | (refine kCallN 18 ?_; first | (refine LOps.ans (AnsL.callP rfl rfl rfl (ok18) (hE _)) ?_)) | (refine kCallN 19 ?_; first | (refine LOps.ans (AnsL.callP rfl rfl rfl (ok19) (hC _)) ?_)))
          | (refine kWL ?_; first | (refine WL.seq ?_) | (refine WL.region (id := 8) (by kernel_rfl) ?_) | (refine WL.region (id := 9) (by kernel_rfl) ?_) | (refine WL.region (id := 10) (by kernel_rfl) ?_) | (refine WL.drawn (id := 6) [0, 1, 2, 3, 4, 5, 6, 7, 8, 9, 10, 11, 12, 13, 14] [12] [[], [0], [0, 1], [0, 1, 2], [0, 1, 2], [0, 1, 2, 4], [0, 1, 2, 3, 4, 5], [0, 1, 2, 3, 4, 5, 6], [0, 1, 2], [0, 1, 2], [0, 1, 2, 8, 9], [0, 1, 2, 8, 9, 10], [0, 1, 2, 3, 4, 5, 6, 7, 8, 9, 10, 11], [0, 1, 2, 3, 4, 5, 6, 7, 8, 9, 10, 11, 12], [0, 1, 2, 3, 4, 5, 6, 7, 8, 9, 10, 11, 12, 13]] (by kernel_rfl) (by kernel_rfl) ?_) | (refine WL.exit ?_) | (refine kCond ?_; first | (refine WL.condF' rfl ?_ ?_; (focus (first | (exact decide_eq_false (by assumption)))))))
          | (refine kDr ?_; first | (refine LDr.nil ?_) | (refine LDr.fl rfl rfl (.ev tT_ok rfl) ?_) | (refine LDr.gT rfl rfl rfl rfl rfl (.ev tT_ok rfl) ?_) | (refine kDBin rfl ?_; first | (refine LDr.gT rfl rfl rfl rfl rfl (AnsL.sub rfl rfl ?_) ?_; (focus (constructor <;> omega)))) | (refine kDIdx rfl ?_; first | (refine LDr.gT rfl rfl rfl rfl rfl (AnsL.idxZ tT_ok rfl rfl rfl rfl rfl hz0 hgy rfl rfl) ?_) | (refine LDr.gT rfl rfl rfl rfl rfl (AnsL.idx tT_ok rfl rfl rfl rfl rfl hgx rfl rfl) ?_)) | (refine LDr.eff rfl rfl rfl ?_) | (refine LDr.gD true rfl rfl rfl rfl ?_ ?_; (focus (first | (exact decide_eq_true (by assumption))))))
          | (refine lthen_n ?_)
          | (refine lthen_e ?_)
          | (refine lblock_n ?_)
          | (refine lblock_e ?_)
          | (refine lbackH_e ?_)
          | (refine And.intro ?_ ?_)
          | (exact StsL.nil)
        refine WL.fgtV 3 rfl (d := .sl 0 ((Y.take k ++ x :: Y.drop k).map Val.toVS)) (by rw [eU]; exact forget_rows _ _) ?_
        refine WL.toB hh (fun s hh => ?_)
        repeat' first
          | (refine kOps ?_; first | (refine LOps.nil ?_) | (refine LOps.ev tT_ok rfl ?_) | (refine kBin ?_; first | (refine LOps.ans (AnsL.add rfl rfl ?_) ?_; (focus (constructor <;> omega)))))
          | (refine kWL ?_; first | (refine WL.region (by kernel_rfl) ?_))
        exact lbackH.of (i + 1, Y.take k ++ x :: Y.drop k) ⟨rfl, rfl, rfl, trivial⟩ hh (Sel.refl _) ⟨by dsimp only; omega, w1, w2⟩ (by dsimp only; omega)
  · have hie : i = X.length := by omega
    have hz : ¬ (i : Int) < (X.length : Int) := by omega
    rw [List.take_of_length_le hge] at g2
    have e := srtOf_eq g2 g3
    repeat' first
      | (refine kOps ?_; first | (refine LOps.nil ?_) | (refine LOps.ev tT_ok rfl ?_) | (refine kLen ?_; first | (refine LOps.ans (AnsL.lenM tT_ok rfl rfl rfl) ?_)))
      | (refine kWL ?_; first | (refine WL.seq ?_) | (refine WL.region (by kernel_rfl) ?_) | (refine WL.exit ?_) | (refine WL.ret ?_) | (refine kCond ?_; first | (refine WL.condF' rfl ?_ ?_; (focus (first | (exact decide_eq_false (by assumption)))))))
      | (refine lthen_n ?_)
      | (refine lthen_e ?_)
      | (refine lblock_e ?_)
      | (refine lbackH_e ?_)
      | (refine LPost.r1 (r := .tmp 2) (.inl rfl) (Res1.tmp rfl) ?_)
      | (refine And.intro ?_ ?_)
    all_goals first
      | exact ⟨s, rfl, hh⟩
      | (rw [← e]; exact forget_rows Y 0)

end Go.Proofs.Ytkkifdgnebbghaa
