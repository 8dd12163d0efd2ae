/-
  The law on what is free. Own work; no condition.
-/
import Derived.Test.YtolhegocbkckdaaDFreeP
import Derived.Test.YtolhegocbkckdaaDPFree2
import Derived.Test.YtolhegocbkckdaaDLift
import Derived.Test.YtolhegocbkckdaaDBig
import Derived.Test.YtolhegocbkckdaaDPd4
namespace Go.Proofs.Ytolhegocbkckdaa
open Go
set_option linter.unusedSimpArgs false
set_option linter.unusedVariables false

theorem implFreeIn_p (e : PE) (hw : wgt e.v ≤ 1048576) (u : Int) (s : S) : VCalls Try.prog 13 [e.v, .int .i64 u] s (fun v s' => v = .sl 0 ((freeTop e u).map Bind.toV) ∧ s' = s) :=
  VCalls.pureOf (plainL_cons (PE.plainv e) (plainL_cons rfl rfl)) (plain_BindS _) (fun t => implFreeIn_o e hw u t) s
theorem specFreeIn_p (e : PE) (hw : wgt e.v ≤ 1048576) (u : Int) (s : S) : VCalls Try.prog 16 [e.v, .int .i64 u] s (fun v s' => v = .sl 0 ((freeTop e u).map Bind.toV) ∧ s' = s) :=
  VCalls.pureOf (plainL_cons (PE.plainv e) (plainL_cons rfl rfl)) (plain_BindS _) (fun t => specFreeIn_o e hw u t) s
theorem implLifted_p (e : PE) (hw : wgt e.v ≤ 1048576) (u : Int) (s : S) : VCalls Try.prog 10 [e.v, .int .i64 u] s (fun v s' => v = (liftTop e u).v ∧ s' = s) :=
  VCalls.pureOf (plainL_cons (PE.plainv e) (plainL_cons rfl rfl)) (PE.plainv _) (fun t => implLifted_c e u hw t) s
theorem freeTop_len' (e : PE) (u : Int) : (freeTop e u).length ≤ 1 + wgt e.v := by
  unfold freeTop
  split
  · exact PE.col_len freeAt freeAt_len e u
  · simp
theorem fm_take {α β : Type} (g : α → Option β) {l : List α} {i : Nat} (h : i < l.length) : (l.take (i + 1)).filterMap g = (l.take i).filterMap g ++ (g l[i]).toList := by
  rw [List.take_succ_eq_append_getElem h, List.filterMap_append]
  cases hx : g l[i] <;> simp [hx]
theorem fm_at {α β : Type} (g : α → Option β) {l : List α} {i : Nat} (h : i < l.length) {y : β} (hy : g l[i] = some y) : (l.filterMap g)[((l.take i).filterMap g).length]? = some y := by
  have e : l = l.take (i + 1) ++ l.drop (i + 1) := (List.take_append_drop _ _).symm
  have e2 : l.filterMap g = (l.take i).filterMap g ++ (y :: (l.drop (i + 1)).filterMap g) := by
    conv => lhs; rw [e]
    rw [List.filterMap_append, fm_take g h, hy]
    simp
  rw [e2, List.getElem?_append_right (Nat.le_refl _)]
  simp

theorem lawFreeL_v {b : V} (hb : Bytes b) (s : S) : VCalls Try.prog 4 [b] s (fun v _ => v = .bool true) := by
  obtain ⟨c, hbig⟩ := big_v hb
  have hh : Hold s s.next [] := .start _ _
  refine LCalls.body Try.func4 rfl (by kernel_rfl) ?_
  cases c
  · skip
    repeat' first
      | (refine kAlloc ?_ ; refine LOps.allocH tT_ok hh rfl rfl ?_ ; intro s n hh)
      | (refine kStore ?_ ; first | (refine LOps.storeH tT_ok 0 hh rfl rfl rfl rfl rfl rfl rfl rfl rfl ?_ ; intro s hh))
      | (refine kCallN 15 ?_ ; refine LOps.drawAll rfl rfl ok15 hh ((specDrawFreeIn_d hb).wf) ?_ ; intro s x hq hh)
      | (refine kOps ?_; first | (refine LOps.nil ?_) | (refine kG ?_; first | (refine LOps.gT rfl rfl rfl ?_) | (refine LOps.gF rfl rfl rfl ?_) | (refine LOps.gC rfl rfl rfl (fun h => ?_) (fun h => ?_))) | (refine LOps.ev tT_ok rfl ?_) | (refine kLoad ?_; first | (refine LOps.ans (AnsL.loadH tT_ok 0 hh rfl rfl rfl rfl) ?_)) | (refine kLen ?_; first | (refine LOps.ans (AnsL.lenM tT_ok rfl rfl rfl) ?_)) | (refine kBin ?_; first | (refine LOps.ans (AnsL.arith rfl rfl rfl) ?_)) | (refine kCallN 13 ?_; first | (refine LOps.ans (AnsL.callP rfl rfl rfl (ok13) (implFreeIn_p _ ?_ _ _)) ?_; (focus (exact Nat.le_trans hq.1 (by decide))))) | (refine kCallN 16 ?_; first | (refine LOps.ans (AnsL.callP rfl rfl rfl (ok16) (specFreeIn_p _ ?_ _ _)) ?_; (focus (exact Nat.le_trans hq.1 (by decide))))) | (refine kCallN 8 ?_; first | (refine LOps.ans (AnsL.callP rfl rfl rfl (ok8) (hbig _)) ?_)))
      | (refine kWL ?_; first | (refine WL.seq ?_) | (refine WL.region (by kernel_rfl) ?_) | (refine WL.block ?_) | (refine WL.skip ?_) | (refine WL.ret ?_) | (refine kCond ?_; first | (refine WL.condT rfl ?_) | (refine WL.condF rfl ?_) | (refine WL.condF' rfl ?_ ?_; (focus (first | (simp <;> fail)))) | (refine WL.cond rfl (fun h => ?_) (fun h => ?_))))
      | (refine lthen_n ?_)
      | (refine lthen_r ?_)
      | (refine LPost.r1 (r := .tmp 2) (.inl rfl) (Res1.tmp rfl) ?_)
    · rfl
    · rfl
    rename_i h0
    have h1 := h
    clear h
    obtain ⟨e, u⟩ := x
    obtain ⟨hw0, hwf⟩ := hq
    dsimp only at hw0 hwf h0 h1 hh ⊢
    have hw : wgt e.v ≤ 1048576 := Nat.le_trans hw0 (by decide)
    have hwe : e.v.wf = true := by
      simp only [V.wf, V.wfL, Bool.and_eq_true] at hwf
      exact hwf.1
    simp only [decide_eq_false_iff_not] at h0 h1
    have hd : freeTop e (u + 1) = (freeTop e u).filterMap dnB := by
      unfold freeTop
      rw [if_pos ⟨by omega, by omega⟩, if_pos ⟨by omega, by omega⟩, free_dn]
    have hup : ∀ b ∈ freeTop e u, 0 ≤ b.up ∧ b.up ≤ 9223372036854775807 := by
      unfold freeTop
      rw [if_pos ⟨by omega, by omega⟩]
      exact free_up e u (by omega) hwe
    have hlen := freeTop_len' e u
    have hwr : IntKind.i64.wrap (u + 1) = u + 1 := by
      simp only [IntKind.wrap, IntKind.bits, IntKind.signed]
      simp
      omega
    rw [hwr, hd]
    generalize freeTop e u = r at hup hlen ⊢
    refine WL.loopH (fun i : Nat => r.length - i) (fun i => [(3, .ptr n 0), (5, .sl 0 (r.map Bind.toV)), (6, .sl 0 ((r.filterMap dnB).map Bind.toV)), (7, .int .i64 (((r.take i).filterMap dnB).length : Nat)), (8, .int .i64 (i : Int))]) (fun _ => [.cell n [.int .i64 e.kind, .int .i64 e.op, .bool e.nt, .int .i64 e.value.kind, .int .i64 e.value.num, .str e.value.text, .int .i64 e.up, .int .i64 e.pos, .sl 0 (e.kids.map PE.toV), .sl 0 (e.sub.map PE.planV)]])
      (fun i => i ≤ r.length) 0 (Nat.zero_le _) ⟨rfl, rfl, rfl, rfl, rfl, trivial⟩ hh (Sel.refl _) (fun i s hi hh => ?_)
    try dsimp only at hi hh ⊢
    have hfl := List.length_filterMap_le dnB r
    rcases Nat.lt_or_ge i r.length with hlt | hge
    · have hga : (r.map Bind.toV)[i]? = some (Bind.toV r[i]) := by simp [hlt]
      have hua := hup r[i] (List.getElem_mem hlt)
      have htk := fm_take dnB hlt
      have hat := fun y hy => fm_at (y := y) dnB hlt hy
      generalize r[i] = a at hga hua htk hat
      obtain ⟨up, pos, ty⟩ := a
      dsimp only at hua
      by_cases hz : 0 < up
      · have hy : dnB ⟨up, pos, ty⟩ = some ⟨up - 1, pos, 0⟩ := by unfold dnB; dsimp only; rw [if_pos hz]
        have hgb := hat _ hy
        rw [hy] at htk
        have hmb : ((r.take i).filterMap dnB).length < (r.filterMap dnB).length := by
          by_cases hm : ((r.take i).filterMap dnB).length < (r.filterMap dnB).length
          · exact hm
          · rw [List.getElem?_eq_none (by omega)] at hgb; cases hgb
        have htl : ((r.take (i + 1)).filterMap dnB).length = ((r.take i).filterMap dnB).length + 1 := by rw [htk]; simp
        have hgc : ((r.filterMap dnB).map Bind.toV)[((r.take i).filterMap dnB).length]? = some (Bind.toV ⟨up - 1, pos, 0⟩) := by rw [List.getElem?_map, hgb]; rfl
        generalize ((r.take i).filterMap dnB).length = m at hmb htl hgc ⊢
        repeat' first
          | (refine kOps ?_; first | (refine LOps.nil ?_) | (refine LOps.ev tT_ok rfl ?_) | (refine kLen ?_; first | (refine LOps.ans (AnsL.lenM tT_ok rfl rfl rfl) ?_)) | (refine kBin ?_; first | (refine LOps.ans (AnsL.add rfl rfl ?_) ?_; (focus (constructor <;> omega)))) | (refine kIdx ?_; first | (refine LOps.ans (AnsL.idx tT_ok rfl rfl rfl rfl rfl hga rfl rfl) ?_)))
          | (refine kWL ?_; first | (refine WL.seq ?_) | (refine WL.region (by kernel_rfl) ?_) | (refine WL.drawn (id := 15) [0, 1, 2, 3, 4, 5, 6, 7, 8, 9, 10, 11, 12, 13, 14, 15, 16, 17, 18, 19, 20, 21, 22, 23, 24, 25, 26, 27, 28, 29, 30] [] [[], [], [1], [0, 1, 2], [0, 1, 2, 3], [0, 1, 2, 3, 4], [0, 1, 2, 3, 4], [0, 1, 2, 3, 4, 5, 6], [0, 1, 2, 3, 4, 5, 6, 7], [0, 1, 2, 3, 4, 5, 6, 7, 8], [0, 1, 2, 3, 4], [0, 1, 2, 3, 4], [0, 1, 2, 3, 4, 10, 11], [0, 1, 2, 3, 4, 10, 11, 12], [0, 1, 2, 3, 4, 10, 11, 12, 13], [0, 1, 2, 3, 4, 10, 11, 12, 13, 14], [0, 1, 2, 3, 4, 5, 6, 7, 8, 9, 10, 11, 12, 13, 14, 15], [0, 1, 2, 3, 4, 5, 6, 7, 8, 9, 10, 11, 12, 13, 14, 15, 16], [0, 1, 2, 3, 4, 5, 6, 7, 8, 9, 10, 11, 12, 13, 14, 15, 16, 17], [0, 1, 2, 3, 4, 5, 6, 7, 8, 9, 10, 11, 12, 13, 14, 15, 16, 17, 18], [0, 1, 2, 3, 4, 5, 6, 7, 8, 9, 10, 11, 12, 13, 14, 15, 16, 17, 18], [0, 1, 2, 3, 4, 5, 6, 7, 8, 9, 10, 11, 12, 13, 14, 15, 16, 17, 18, 19, 20], [0, 1, 2, 3, 4, 5, 6, 7, 8, 9, 10, 11, 12, 13, 14, 15, 16, 17, 18, 19, 20, 21], [0, 1, 2, 3, 4, 5, 6, 7, 8, 9, 10, 11, 12, 13, 14, 15, 16, 17, 18, 19, 20, 21, 22], [0, 1, 2, 3, 4, 5, 6, 7, 8, 9, 10, 11, 12, 13, 14, 15, 16, 17, 18], [0, 1, 2, 3, 4, 5, 6, 7, 8, 9, 10, 11, 12, 13, 14, 15, 16, 17, 18], [0, 1, 2, 3, 4, 5, 6, 7, 8, 9, 10, 11, 12, 13, 14, 15, 16, 17, 18, 24, 25], [0, 1, 2, 3, 4, 5, 6, 7, 8, 9, 10, 11, 12, 13, 14, 15, 16, 17, 18, 24, 25, 26], [0, 1, 2, 3, 4, 5, 6, 7, 8, 9, 10, 11, 12, 13, 14, 15, 16, 17, 18, 24, 25, 26, 27], [0, 1, 2, 3, 4, 5, 6, 7, 8, 9, 10, 11, 12, 13, 14, 15, 16, 17, 18, 19, 20, 21, 22, 23, 24, 25, 26, 27, 28], [0, 1, 2, 3, 4, 5, 6, 7, 8, 9, 10, 11, 12, 13, 14, 15, 16, 17, 18, 19, 20, 21, 22, 23, 24, 25, 26, 27, 28, 29]] (by kernel_rfl) (by kernel_rfl) ?_) | (refine WL.block ?_) | (refine WL.skip ?_) | (refine WL.ret ?_) | (refine kCond ?_; first | (refine WL.condT rfl ?_) | (refine WL.condT' rfl ?_ ?_; (focus (first | (exact decide_eq_true (by assumption)) | (simp only [decide_eq_true_eq, decide_eq_false_iff_not, Bool.not_eq_true', Bool.not_eq_false', Int.ofNat_lt, Int.ofNat_le, Int.ofNat_inj, not_true_eq_false, not_false_eq_true]; omega)))) | (refine WL.condF' rfl ?_ ?_; (focus (first | (simp <;> fail))))))
          | (refine kDr ?_; first | (refine LDr.nil ?_) | (refine LDr.fl rfl rfl (.ev tT_ok rfl) ?_) | (refine LDr.gF rfl rfl rfl rfl rfl ?_) | (refine LDr.gT rfl rfl rfl rfl rfl (.ev tT_ok rfl) ?_) | (refine kDLen rfl ?_; first | (refine LDr.fl rfl rfl (AnsL.lenM tT_ok rfl rfl rfl) ?_)) | (refine kDBin rfl ?_; first | (refine LDr.gT rfl rfl rfl rfl rfl (AnsL.arith rfl rfl rfl) ?_)) | (refine kDIdx rfl ?_; first | (refine LDr.gT rfl rfl rfl rfl rfl (AnsL.idx tT_ok rfl rfl rfl rfl rfl hga rfl rfl) ?_) | (refine LDr.gT rfl rfl rfl rfl rfl (AnsL.idx tT_ok rfl rfl rfl rfl rfl hgc rfl rfl) ?_)) | (refine LDr.gD false rfl rfl rfl rfl ?_ ?_; (focus (first | (simp only [decide_eq_true_eq, decide_eq_false_iff_not, Bool.not_eq_true', Bool.not_eq_false', Int.ofNat_lt, Int.ofNat_le, Int.ofNat_inj, not_true_eq_false, not_false_eq_true]; omega)))) | (refine LDr.gC rfl rfl rfl rfl (fun h => ?_) (fun h => ?_)))
          | (refine lthen_n ?_)
          | (refine lthen_r ?_)
          | (refine lblock_n ?_)
          | (refine lblock_r ?_)
          | (refine lbackH_r ?_)
          | (refine LPost.r1 (r := .tmp 2) (.inl rfl) (Res1.tmp rfl) ?_)
        · exfalso
          have hwr2 : IntKind.i64.wrap (up - 1) = up - 1 := by
            simp only [IntKind.wrap, IntKind.bits, IntKind.signed]
            simp
            omega
          revert h
          dsimp only
          rw [hwr2]
          simp
        refine lbackH.of (i + 1) ?_ hh (Sel.refl _) hlt ?_
        · dsimp only
          rw [htl]
          exact ⟨rfl, rfl, rfl, rfl, rfl, trivial⟩
        · try dsimp only
          omega
      · have hy : dnB ⟨up, pos, ty⟩ = none := by unfold dnB; dsimp only; rw [if_neg hz]
        rw [hy] at htk
        have htl : ((r.take (i + 1)).filterMap dnB).length = ((r.take i).filterMap dnB).length := by rw [htk]; simp
        repeat' first
          | (refine kOps ?_; first | (refine LOps.nil ?_) | (refine LOps.ev tT_ok rfl ?_) | (refine kLen ?_; first | (refine LOps.ans (AnsL.lenM tT_ok rfl rfl rfl) ?_)) | (refine kBin ?_; first | (refine LOps.ans (AnsL.add rfl rfl ?_) ?_; (focus (constructor <;> omega)))) | (refine kIdx ?_; first | (refine LOps.ans (AnsL.idx tT_ok rfl rfl rfl rfl rfl hga rfl rfl) ?_)))
          | (refine kWL ?_; first | (refine WL.seq ?_) | (refine WL.region (by kernel_rfl) ?_) | (refine WL.block ?_) | (refine WL.skip ?_) | (refine kCond ?_; first | (refine WL.condT' rfl ?_ ?_; (focus (first | (simp only [decide_eq_true_eq, decide_eq_false_iff_not, Bool.not_eq_true', Bool.not_eq_false', Int.ofNat_lt, Int.ofNat_le, Int.ofNat_inj, not_true_eq_false, not_false_eq_true]; omega)))) | (refine WL.condF' rfl ?_ ?_; (focus (first | (exact decide_eq_false (by assumption)))))))
          | (refine lthen_n ?_)
          | (refine lblock_n ?_)
        refine lbackH.of (i + 1) ?_ hh (Sel.refl _) hlt ?_
        · dsimp only
          rw [htl]
          exact ⟨rfl, rfl, rfl, rfl, rfl, trivial⟩
        · try dsimp only
          omega
    · have he : i = r.length := by omega
      subst he
      rw [List.take_of_length_le (Nat.le_refl _)]
      have hF := fun t => implFreeIn_p e hw 0 t
      have hL := fun t => implLifted_p e hw 5 t
      have hS := fun t => implSamePExpr_c e e t
      rw [PE.eqB_refl] at hS
      have hz : freeTop e 0 = e.col freeAt 0 := if_pos ⟨by omega, by omega⟩
      rw [hz] at hF
      by_cases hn : e.col freeAt 0 = []
      · rw [lift_none e 5 hn] at hL
        rw [hn] at hF
        repeat' first
          | (refine kOps ?_; first | (refine LOps.nil ?_) | (refine LOps.ev tT_ok rfl ?_) | (refine kLen ?_; first | (refine LOps.ans (AnsL.lenM tT_ok rfl rfl rfl) ?_)))
          | (refine kWL ?_; first | (refine WL.seq ?_) | (refine WL.region (by kernel_rfl) ?_) | (refine WL.drawn (id := 18) [0, 1, 2, 3, 4, 5, 6, 7, 8, 9, 10, 11, 12, 13, 14, 15, 16] [] [[], [], [1], [0, 1, 2], [0, 1, 2, 3], [0, 1, 2, 3, 4], [0, 1, 2, 3, 4, 5], [0, 1, 2, 3, 4, 5, 6], [0, 1, 2, 3, 4, 5, 6, 7], [0, 1, 2, 3, 4, 5, 6, 7, 8], [0, 1, 2, 3, 4, 5, 6, 7, 8, 9], [0, 1, 2, 3, 4, 5, 6, 7, 8, 9, 10], [0, 1, 2, 3, 4, 5, 6, 7, 8, 9], [0, 1, 2, 3, 4, 5, 6, 7, 8, 9, 10, 11, 12], [0, 1, 2, 3, 4, 5, 6, 7, 8, 9, 10, 11, 12, 13], [0, 1, 2, 3, 4, 5, 6, 7, 8, 9, 10, 11, 12, 13, 14], [0, 1, 2, 3, 4, 5, 6, 7, 8, 9, 10, 11, 12, 13, 14, 15]] (by kernel_rfl) (by kernel_rfl) ?_) | (refine WL.exit ?_) | (refine WL.ret ?_) | (refine kCond ?_; first | (refine WL.condF' rfl ?_ ?_; (focus (first | (simp only [decide_eq_true_eq, decide_eq_false_iff_not, Bool.not_eq_true', Bool.not_eq_false', Int.ofNat_lt, Int.ofNat_le, Int.ofNat_inj, not_true_eq_false, not_false_eq_true]; omega))))))
          | (refine kDr ?_; first | (refine LDr.nil ?_) | (refine LDr.fl rfl rfl (.ev tT_ok rfl) ?_) | (refine LDr.gT rfl rfl rfl rfl rfl (.ev tT_ok rfl) ?_) | (refine kDLoad rfl ?_; first | (refine LDr.gT rfl rfl rfl rfl rfl (AnsL.loadH tT_ok 0 hh rfl rfl rfl rfl) ?_)) | (refine kDLen rfl ?_; first | (refine LDr.fl rfl rfl (AnsL.lenM tT_ok rfl rfl rfl) ?_) | (refine LDr.gT rfl rfl rfl rfl rfl (AnsL.lenM tT_ok rfl rfl rfl) ?_)) | (refine kDCallN 10 rfl ?_; first | (refine LDr.gT rfl rfl rfl rfl rfl (AnsL.callP rfl rfl rfl (ok10) (hL _)) ?_)) | (refine kDCallN 13 rfl ?_; first | (refine LDr.gT rfl rfl rfl rfl rfl (AnsL.callP rfl rfl rfl (ok13) (hF _)) ?_)) | (refine kDCallN 17 rfl ?_; first | (refine LDr.gT rfl rfl rfl rfl rfl (AnsL.callP rfl rfl rfl (ok17) (hS _)) ?_)) | (refine LDr.gD true rfl rfl rfl rfl ?_ ?_; (focus (first | (simp <;> fail)))))
          | (refine lthen_n ?_)
          | (refine lthen_e ?_)
          | (refine lblock_e ?_)
          | (refine lbackH_e ?_)
          | (refine LPost.r1 (r := .tmp 2) (.inl rfl) (Res1.tmp rfl) ?_)
        rfl
      · have hpos := List.length_pos_iff.2 hn
        repeat' first
          | (refine kOps ?_; first | (refine LOps.nil ?_) | (refine LOps.ev tT_ok rfl ?_) | (refine kLen ?_; first | (refine LOps.ans (AnsL.lenM tT_ok rfl rfl rfl) ?_)))
          | (refine kWL ?_; first | (refine WL.seq ?_) | (refine WL.region (by kernel_rfl) ?_) | (refine WL.drawn (id := 18) [0, 1, 2, 3, 4, 5, 6, 7, 8, 9, 10, 11, 12, 13, 14, 15, 16] [] [[], [], [1], [0, 1, 2], [0, 1, 2, 3], [0, 1, 2, 3, 4], [0, 1, 2, 3, 4, 5], [0, 1, 2, 3, 4, 5, 6], [0, 1, 2, 3, 4, 5, 6, 7], [0, 1, 2, 3, 4, 5, 6, 7, 8], [0, 1, 2, 3, 4, 5, 6, 7, 8, 9], [0, 1, 2, 3, 4, 5, 6, 7, 8, 9, 10], [0, 1, 2, 3, 4, 5, 6, 7, 8, 9], [0, 1, 2, 3, 4, 5, 6, 7, 8, 9, 10, 11, 12], [0, 1, 2, 3, 4, 5, 6, 7, 8, 9, 10, 11, 12, 13], [0, 1, 2, 3, 4, 5, 6, 7, 8, 9, 10, 11, 12, 13, 14], [0, 1, 2, 3, 4, 5, 6, 7, 8, 9, 10, 11, 12, 13, 14, 15]] (by kernel_rfl) (by kernel_rfl) ?_) | (refine WL.exit ?_) | (refine WL.ret ?_) | (refine kCond ?_; first | (refine WL.condF' rfl ?_ ?_; (focus (first | (simp only [decide_eq_true_eq, decide_eq_false_iff_not, Bool.not_eq_true', Bool.not_eq_false', Int.ofNat_lt, Int.ofNat_le, Int.ofNat_inj, not_true_eq_false, not_false_eq_true]; omega))))))
          | (refine kDr ?_; first | (refine LDr.nil ?_) | (refine LDr.fl rfl rfl (.ev tT_ok rfl) ?_) | (refine LDr.gF rfl rfl rfl rfl rfl ?_) | (refine LDr.gT rfl rfl rfl rfl rfl (.ev tT_ok rfl) ?_) | (refine kDLoad rfl ?_; first | (refine LDr.gT rfl rfl rfl rfl rfl (AnsL.loadH tT_ok 0 hh rfl rfl rfl rfl) ?_)) | (refine kDLen rfl ?_; first | (refine LDr.fl rfl rfl (AnsL.lenM tT_ok rfl rfl rfl) ?_) | (refine LDr.gT rfl rfl rfl rfl rfl (AnsL.lenM tT_ok rfl rfl rfl) ?_)) | (refine kDCallN 13 rfl ?_; first | (refine LDr.gT rfl rfl rfl rfl rfl (AnsL.callP rfl rfl rfl (ok13) (hF _)) ?_)) | (refine LDr.gD true rfl rfl rfl rfl ?_ ?_; (focus (first | (simp only [decide_eq_true_eq, decide_eq_false_iff_not, Bool.not_eq_true', Bool.not_eq_false', Int.ofNat_lt, Int.ofNat_le, Int.ofNat_inj, not_true_eq_false, not_false_eq_true]; omega) | (simp <;> fail)))))
          | (refine lthen_n ?_)
          | (refine lthen_e ?_)
          | (refine lblock_e ?_)
          | (refine lbackH_e ?_)
          | (refine LPost.r1 (r := .tmp 2) (.inl rfl) (Res1.tmp rfl) ?_)
        rfl
  · skip
    repeat' first
      | (refine kOps ?_; first | (refine LOps.nil ?_) | (refine LOps.ev tT_ok rfl ?_) | (refine kCallN 8 ?_; first | (refine LOps.ans (AnsL.callP rfl rfl rfl (ok8) (hbig _)) ?_)))
      | (refine kWL ?_; first | (refine WL.seq ?_) | (refine WL.region (by kernel_rfl) ?_) | (refine WL.ret ?_) | (refine kCond ?_; first | (refine WL.condT rfl ?_)))
      | (refine lthen_n ?_)
      | (refine lthen_r ?_)
      | (refine LPost.r1 (r := .tmp 2) (.inl rfl) (Res1.tmp rfl) ?_)
    rfl

end Go.Proofs.Ytolhegocbkckdaa
