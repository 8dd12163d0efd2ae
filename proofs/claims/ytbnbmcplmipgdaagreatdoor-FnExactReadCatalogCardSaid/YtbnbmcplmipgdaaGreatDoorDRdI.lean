/-
  Catalogs read, of the program: in new memory. Own work; no condition.
-/
import Derived.Test.YtbnbmcplmipgdaaGreatDoorDRdS
namespace Go.Proofs.YtbnbmcplmipgdaaGreatDoor
open Go
set_option linter.unusedSimpArgs false
set_option linter.unusedVariables false

set_option maxHeartbeats 16000000 in
theorem implReadCatalog_o (a : List UInt8) (s : S) : VCalls Tryz.prog 5 [.str a] s (fun v t => Own2 (.tup (rdU (readV numI tyI false a))) v t) := by
  refine VCalls.ownT rfl ?_
  have hh : Hold s s.next [] := .start _ _
  have hL := fun u => implLex_v a u
  have hw := lexT_wt numI a
  have hR : readV numI tyI false a = if 0 ≤ (lexT numI a).2 then none else rcP tyI false (lexT numI a).1 := rfl
  generalize readV numI tyI false a = R at hR ⊢
  generalize lexT numI a = r at hL hw hR
  obtain ⟨l, k⟩ := r
  dsimp only [lexU] at hL hw hR
  have hlen := tkW_len l
  have ht : ∀ t ∈ l, t.text.length ≤ 1048576 := fun t h => by have := tkW_mem h; omega
  have hl : l.length ≤ 1048576 := by omega
  by_cases hk : k ≥ 0
  · rw [if_pos hk] at hR
    subst hR
    refine LCalls.body Tryz.func5 rfl (by kernel_rfl) ?_
    repeat' first
      | (refine kAlloc ?_ ; refine LOps.allocH tT_ok hh rfl rfl ?_ ; intro s n hh)
      | (refine kStore ?_ ; first | (refine LOps.storeH tT_ok 0 hh rfl rfl rfl rfl rfl rfl rfl rfl rfl ?_ ; intro s hh))
      | (refine kOps ?_; first | (refine LOps.nil ?_) | (refine' LOps.ans (v := .agg _) (AnsL.buildZ tT_ok rfl rfl rfl rfl ?_) ?_; rotate_left 1; (focus ((repeat' first | (exact Fills.nil)); done))) | (refine LOps.ev tT_ok rfl ?_) | (refine kCallN 16 ?_; first | (refine LOps.ans (AnsL.callP rfl rfl rfl (ok16) (hL _)) ?_)))
      | (refine kWL ?_; first | (refine WL.seq ?_) | (refine WL.region (by kernel_rfl) ?_) | (refine WL.ret ?_) | (refine kCond ?_; first | (refine WL.condT' rfl ?_ ?_; (focus (first | (exact decide_eq_true (by assumption)))))))
      | (refine lthen_n ?_)
      | (refine lthen_r ?_)
      | (refine' LPost.r2 (r := .cell 2 24) (r' := .tmp 3) (.inl rfl) ?_ (Res1.tmp rfl) ?_; rotate_left 1; (focus (first | (exact Res1.cellH 0 tT_ok hh rfl rfl rfl rfl))))
    exact ⟨_, _, _, _, rfl, rfl, hh, by ((repeat' first | (exact ConsOL.nil) | (exact ConsO.scal rfl) | (exact ConsO.slm0) | (refine' ConsO.op ?_; ((repeat' first | (exact Pick.here) | (refine' Pick.there ?_)); done)) | (refine' ConsOL.cons ?_ ?_) | (refine' ConsO.agg ?_)); done)⟩
  rw [if_neg hk] at hR
  have hwt := readC_wt tyI false l
  unfold rcP at hR
  have hC : catP tyI false l (l.length + 2) (0, false) [] = readC tyI false l := rfl
  generalize readC tyI false l = C at hC hR hwt
  refine LCalls.body Tryz.func5 rfl (by kernel_rfl) ?_
  repeat' first
    | (refine kBox ?_ ; first | (refine LOps.boxH hh rfl rfl ?_ ; intro s n hh))
    | (refine kAlloc ?_ ; refine LOps.allocH tT_ok hh rfl rfl ?_ ; intro s n hh)
    | (refine kStore ?_ ; first | (refine LOps.storeH tT_ok 0 hh rfl rfl rfl rfl rfl rfl rfl rfl rfl ?_ ; intro s hh))
    | (refine kOps ?_; first | (refine LOps.nil ?_) | (refine' LOps.ans (v := .agg _) (AnsL.buildZ tT_ok rfl rfl rfl rfl ?_) ?_; rotate_left 1; (focus ((repeat' first | (exact Fills.nil) | (refine' Fills.cons rfl rfl rfl rfl ?_)); done))) | (refine LOps.ev tT_ok rfl ?_) | (refine kCallN 16 ?_; first | (refine LOps.ans (AnsL.callP rfl rfl rfl (ok16) (hL _)) ?_)))
    | (refine kWL ?_; first | (refine WL.seq ?_) | (refine WL.region (by kernel_rfl) ?_) | (refine WL.block ?_) | (refine WL.skip ?_) | (refine kCond ?_; first | (refine WL.condF' rfl ?_ ?_; (focus (first | (exact decide_eq_false (by assumption)))))))
    | (refine lthen_n ?_)
  rename_i n2 _ _ cn _ _ _
  obtain ⟨rn, rfl⟩ : ∃ rn, rn = n := ⟨n, rfl⟩
  replace hh := hh.nil0
  refine WL.loopH (fun y : (List Tab × Nat × Nat) × Pst × Nat => y.2.2) (fun y => [(2, .ptr n2 0), (4, .sl 0 (tkV l)), (6, .ptr cn 0), (7, .ptr rn 0), (8, .int .i64 (y.1.1.length : Int))])
    (fun y => [catO y.1, .cell cn [catS y.1], .cell rn (parV l y.2.1), .cell n2 [.nilsl]])
    (fun y => y.2.1.1 ≤ l.length ∧ (y.2.1.2 = false → l.length + 1 < y.2.2 + y.2.1.1) ∧ y.1.1.length + y.2.2 = l.length + 2 ∧ catP tyI false l y.2.2 y.2.1 y.1.1 = C)
    (([], 0, 0), (0, false), l.length + 2) ⟨Nat.zero_le _, fun _ => by dsimp only; omega, by simp, hC⟩ ⟨rfl, rfl, rfl, rfl, rfl, trivial⟩ hh (by dsimp only [catO, catS, parV]; (repeat' first | (exact Sel.nil) | (exact Sel.refl _) | (refine' Sel.p ?_ ?_; rotate_left 1; (focus (((repeat' first | (exact Pick.here) | (refine' Pick.there ?_)); done)))))) (fun y s hI hh => ?_)
  obtain ⟨⟨T, c0, l0⟩, p, f⟩ := y
  obtain ⟨i1, i2, i3, i4⟩ := hI
  dsimp only at i1 i2 i3 i4 hh ⊢
  obtain ⟨at0, bad⟩ := p
  dsimp only at i1 i2
  have hmL : (tkV l).length = l.length := List.length_map ..
  have hmT : (T.map Tab.toV).length = T.length := List.length_map ..
  have hBT : (T.map Tab.toV).length ≤ 1048576 := by omega
  by_cases hgo : bad = false ∧ at0 < l.length
  · obtain ⟨g1, g2⟩ := hgo
    subst g1
    have g2' : (at0 : Int) < (l.length : Int) := by omega
    cases f with
    | zero => have := i2 rfl; omega
    | succ f =>
      have i2' := i2 rfl
      unfold catP at i4
      rw [if_neg (by simp; omega)] at i4
      by_cases h0 : T.length = 0
      · have h0' : ¬ (T.length : Int) > 0 := by omega
        have hq0 : comQ l T.length (at0, false) = (at0, false) := if_pos h0
        rw [hq0] at i4
        replace hh : Hold s s.next [.own (.slm (.is c0) l0 0 T.length) (.sl 0 (T.map Tab.toV)), .cell cn [.slm (.is c0) l0 0 T.length], .cell rn (parV l (at0, false)), .cell n2 [.nilsl]] := hh
        have k1 := implmustKind_p l hl ht (at0, false) i1
        have k2 := implmustSign_p l hl [40] (nmP l (at0, false)) (nmP_le (l := l) (q := (at0, false)) i1)
        have q2 := tabQ_le (ty := tyI) (z := false) (l := l) (q := (at0, false)) i1
        have q3 := tabQ_lt (ty := tyI) (z := false) (l := l) (q := (at0, false)) i1
        have hTP : tabP tyI false l (at0, false) = colsP tyI l (l.length + 1) (sgP l [40] (nmP l (at0, false))) [] := rfl
        rw [tabX_mk] at i4
        unfold tabQ at i4 q2 q3
        generalize tabP tyI false l (at0, false) = tp at i4 q2 q3 hTP
        have hP1 := sgP_le (b := [40]) (nmP_le (l := l) (q := (at0, false)) i1)
        generalize nmX l (at0, false) = nm at k1 i4
        generalize sgP l [40] (nmP l (at0, false)) = p1 at k2 hTP hP1
        repeat' first
          | (refine kAlloc ?_ ; refine LOps.allocH tT_ok hh rfl rfl ?_ ; intro s n hh)
          | (refine kStore ?_ ; first | (refine LOps.storeH tT_ok 0 hh rfl rfl rfl rfl rfl rfl rfl rfl rfl ?_ ; intro s hh))
          | (refine kCallN 18 ?_ ; first | (refine LOps.ptrC 2 rfl rfl ok18 hh rfl rfl (k1) ?_ ; intro s hh))
          | (refine kCallN 17 ?_ ; first | (refine LOps.ptrC 1 rfl rfl ok17 hh rfl rfl (k2) ?_ ; intro s hh))
          | (refine kOps ?_; first | (refine LOps.nil ?_) | (refine kG ?_; first | (refine LOps.gT rfl rfl rfl ?_)) | (refine' LOps.ans (v := .agg _) (AnsL.buildZ tT_ok rfl rfl rfl rfl ?_) ?_; rotate_left 1; (focus ((repeat' first | (exact Fills.nil) | (refine' Fills.cons rfl rfl rfl rfl ?_)); done))) | (refine LOps.ev tT_ok rfl ?_) | (refine kLoad ?_; first | (refine LOps.ans (AnsL.loadH tT_ok 2 hh rfl rfl rfl rfl) ?_)) | (refine kLen ?_; first | (refine LOps.ans (AnsL.lenM tT_ok rfl rfl rfl) ?_)))
          | (refine kWL ?_; first | (refine WL.seq ?_) | (refine WL.region (by kernel_rfl) ?_) | (refine WL.block ?_) | (refine WL.skip ?_) | (refine kCond ?_; first | (refine WL.condT' rfl ?_ ?_; (focus (first | (exact decide_eq_true (by assumption))))) | (refine WL.condF' rfl ?_ ?_; (focus (first | (exact decide_eq_false (by assumption)))))))
          | (refine lthen_n ?_)
        obtain ⟨tn, rfl⟩ : ∃ tn, tn = n := ⟨n, rfl⟩
        replace hh := hh.nil0
        refine WL.loopH (fun y : (List Col × Nat × Nat) × Pst × Nat => l.length - y.2.1.1) (fun y => [(2, .ptr n2 0), (4, .sl 0 (tkV l)), (6, .ptr cn 0), (7, .ptr rn 0), (8, .int .i64 (T.length : Int)), (9, .ptr tn 0)])
          (fun y => [colO y.1, .cell rn (parV l y.2.1), .cell tn [.str nm, colS y.1], .own (.slm (.is c0) l0 0 T.length) (.sl 0 (T.map Tab.toV)), .cell cn [.slm (.is c0) l0 0 T.length], .cell n2 [.nilsl]])
          (fun y => y.2.1.1 ≤ l.length ∧ y.1.1.length ≤ y.2.1.1 ∧ l.length < y.2.2 + y.2.1.1 ∧ tp = colsP tyI l y.2.2 y.2.1 y.1.1)
          (([], 0, 0), p1, l.length + 1) ⟨hP1, Nat.zero_le _, by dsimp only; omega, hTP⟩ ⟨rfl, rfl, rfl, rfl, rfl, rfl, trivial⟩ hh (by dsimp only [colO, colS]; (repeat' first | (exact Sel.nil) | (exact Sel.refl _) | (refine' Sel.p ?_ ?_; rotate_left 1; (focus (((repeat' first | (exact Pick.here) | (refine' Pick.there ?_)); done)))))) (fun y s hI hh => ?_)
        obtain ⟨⟨cs, c1, l1⟩, p, g⟩ := y
        obtain ⟨j1, j2, j3, j4⟩ := hI
        dsimp only at j1 j2 j3 j4 hh ⊢
        cases g with
        | zero => omega
        | succ g =>
          unfold colsP at j4
          have hB : (cs.map Col.toV).length ≤ 1048576 := by rw [List.length_map]; omega
          have k4 := implmustKind_p l hl ht p j1
          have k5 := implmustKind_p l hl ht (nmP l p) (nmP_le j1)
          have k6 := impltakeSign_p l hl [44] (colQ l p) (colQ_le j1)
          have g1 := colQ_ge l p
          have g2 := colQ_le j1
          have kT := fun u => slicesIndex_v tyL (by decide) (nmX l (nmP l p)) u
          have hcol : colR tyI l p = ⟨nmX l p, idxI tyL (nmX l (nmP l p))⟩ := rfl
          have hq2 : nmP l (nmP l p) = colQ l p := rfl
          rw [hq2] at k5
          generalize nmX l p = x1 at k4 hcol
          generalize nmX l (nmP l p) = x2 at k5 kT hcol
          generalize nmP l p = pm at k4 k5
          generalize idxI tyL x2 = x3 at kT hcol
          generalize colR tyI l p = col at hcol j4
          subst hcol
          unfold tkP at k6
          cases hb2 : isTk l (colQ l p) 5 [44]
          · rw [hb2] at k6 j4
            rw [if_neg (by decide)] at k6 j4
            subst j4
            have k8 := implmustSign_p l hl [41] (colQ l p) g2
            dsimp only at i4 q2 q3
            generalize sgP l [41] (colQ l p) = pz at k8 i4 q2 q3
            generalize colQ l p = pc at k5 k6 k8
            repeat' first
              | (refine kStore ?_ ; first | (refine LOps.storeH tT_ok 2 hh rfl rfl rfl rfl rfl rfl rfl rfl rfl ?_ ; intro s hh) | (refine LOps.storeH tT_ok 3 hh rfl rfl rfl rfl rfl rfl rfl rfl rfl ?_ ; intro s hh))
              | (refine kBsl ?_ ; first | (refine LOps.ans (d := 51) (AnsL.bslF tT_ok rfl rfl rfl rfl rfl rfl rfl rfl rfl) ?_) | (refine LOps.ans (AnsL.bslE tT_ok rfl rfl rfl rfl rfl rfl rfl rfl ?_) ?_ ; (focus ((repeat' first | (exact ElsH.of rfl)); done))))
              | (refine kApp ?_ ; first | (refine' LOps.appW tT_ok 1 rfl rfl rfl rfl rfl rfl rfl rfl rfl rfl hh ?_ ?_ ?_ (AppB.of ?_ rfl) ?_ ; rotate_left 2 ; (focus (first | (intro x hx; obtain ⟨y, _, rfl⟩ := List.mem_map.1 hx; first | rfl | exact PE.cells_len _ | exact PE.planV_len _ | exact EE.cells_len _ | exact EE.queryV_len _))) ; (focus ((repeat' first | (exact ConsOL.nil) | (exact ConsO.scal rfl) | (refine' ConsOL.cons ?_ ?_) | (refine' ConsO.agg ?_)); done)) ; (focus ((repeat' first | (exact Elems.of rfl)); done)) ; (focus (first | omega | (simp ; omega))) ; intro s c n hh) | (refine' LOps.appW tT_ok 3 rfl rfl rfl rfl rfl rfl rfl rfl rfl rfl hh ?_ ?_ ?_ (AppB.of ?_ rfl) ?_ ; rotate_left 2 ; (focus (first | (intro x hx; obtain ⟨y, _, rfl⟩ := List.mem_map.1 hx; first | rfl | exact PE.cells_len _ | exact PE.planV_len _ | exact EE.cells_len _ | exact EE.queryV_len _))) ; (focus ((repeat' first | (exact ConsOL.nil) | (exact ConsO.scal rfl) | (refine' ConsO.op ?_; ((repeat' first | (exact Pick.here) | (refine' Pick.there ?_)); done)) | (refine' ConsOL.cons ?_ ?_) | (refine' ConsO.agg ?_)); done)) ; (focus ((repeat' first | (exact Elems.of rfl)); done)) ; (focus (first | omega | (simp ; omega))) ; intro s c n hh))
              | (refine kCallN 18 ?_ ; first | (refine LOps.ptrC 1 rfl rfl ok18 hh rfl rfl (k4) ?_ ; intro s hh))
              | (refine kCallN 18 ?_ ; first | (refine LOps.ptrC 0 rfl rfl ok18 hh rfl rfl (k5) ?_ ; intro s hh))
              | (refine kCallN 20 ?_ ; first | (refine LOps.ptrC 1 rfl rfl ok20 hh rfl rfl (k6) ?_ ; intro s hh))
              | (refine kCallN 17 ?_ ; first | (refine LOps.ptrC 0 rfl rfl ok17 hh rfl rfl (k8) ?_ ; intro s hh))
              | (refine kOps ?_; first | (refine LOps.nil ?_) | (refine' LOps.ans (v := .agg _) (AnsL.buildZ tT_ok rfl rfl rfl rfl ?_) ?_; rotate_left 1; (focus ((repeat' first | (exact Fills.nil) | (refine' Fills.cons rfl rfl rfl rfl ?_)); done))) | (refine LOps.ev tT_ok rfl ?_) | (refine kLoad ?_; first | (refine LOps.ans (AnsL.loadH tT_ok 2 hh rfl rfl rfl rfl) ?_) | (refine LOps.ans (AnsL.loadH tT_ok 4 hh rfl rfl rfl rfl) ?_)) | (refine kBin ?_; first | (refine LOps.ans (AnsL.add rfl rfl ?_) ?_; (focus (constructor <;> omega)))) | (refine kCallN 19 ?_; first | (refine LOps.ans (AnsL.callP rfl rfl rfl (ok19) (kT _)) ?_)))
              | (refine kWL ?_; first | (refine WL.seq ?_) | (refine WL.region (by kernel_rfl) ?_) | (refine WL.block ?_) | (refine WL.exit ?_) | (refine kCond ?_; first | (refine WL.condT rfl ?_)))
              | (refine lthen_n ?_)
              | (refine lblock_n ?_)
              | (refine lblock_e ?_)
              | (refine lblock_o rfl ?_)
              | (refine lbackH_e ?_)
            simp only [List.length_map, List.length_cons, List.length_nil, Nat.zero_add] at hh
            have e1 : T.length + 1 = (T ++ [Tab.mk nm (cs ++ [Col.mk x1 x3])]).length := by simp
            have e2 : T.map Tab.toV ++ [V.agg [.str nm, .sl 0 (cs.map Col.toV ++ [V.agg [.str x1, .int .i64 x3]])]] = (T ++ [Tab.mk nm (cs ++ [Col.mk x1 x3])]).map Tab.toV := by simp [Tab.toV, Col.toV]
            rw [e1, e2] at hh
            exact lbackH.of ((T ++ [Tab.mk nm (cs ++ [Col.mk x1 x3])], c, n), pz, f) ⟨rfl, rfl, rfl, rfl, by rw [← e1]; rfl, trivial⟩ hh (by dsimp only [catO, catS]; (repeat' first | (exact Sel.nil) | (exact Sel.refl _) | (refine' Sel.p ?_ ?_; rotate_left 1; (focus (((repeat' first | (exact Pick.here) | (refine' Pick.there ?_)); done)))))) ⟨q2, fun h => by have := q3 h; dsimp only at this ⊢; omega, by rw [← e1]; dsimp only; omega, i4⟩ (by dsimp only; omega)
          · rw [hb2] at k6 j4
            rw [if_pos rfl] at k6 j4
            obtain ⟨hb3, hb4⟩ := isTk_lt hb2
            generalize colQ l p = pc at k5 k6 j4 g1 g2 hb3 hb4
            repeat' first
              | (refine kStore ?_ ; first | (refine LOps.storeH tT_ok 2 hh rfl rfl rfl rfl rfl rfl rfl rfl rfl ?_ ; intro s hh))
              | (refine kBsl ?_ ; first | (refine LOps.ans (d := 51) (AnsL.bslF tT_ok rfl rfl rfl rfl rfl rfl rfl rfl rfl) ?_) | (refine LOps.ans (AnsL.bslE tT_ok rfl rfl rfl rfl rfl rfl rfl rfl ?_) ?_ ; (focus ((repeat' first | (exact ElsH.of rfl)); done))))
              | (refine kApp ?_ ; first | (refine' LOps.appW tT_ok 1 rfl rfl rfl rfl rfl rfl rfl rfl rfl rfl hh ?_ ?_ ?_ (AppB.of ?_ rfl) ?_ ; rotate_left 2 ; (focus (first | (intro x hx; obtain ⟨y, _, rfl⟩ := List.mem_map.1 hx; first | rfl | exact PE.cells_len _ | exact PE.planV_len _ | exact EE.cells_len _ | exact EE.queryV_len _))) ; (focus ((repeat' first | (exact ConsOL.nil) | (exact ConsO.scal rfl) | (refine' ConsOL.cons ?_ ?_) | (refine' ConsO.agg ?_)); done)) ; (focus ((repeat' first | (exact Elems.of rfl)); done)) ; (focus (first | omega | (simp ; omega))) ; intro s c n hh))
              | (refine kCallN 18 ?_ ; first | (refine LOps.ptrC 1 rfl rfl ok18 hh rfl rfl (k4) ?_ ; intro s hh))
              | (refine kCallN 18 ?_ ; first | (refine LOps.ptrC 0 rfl rfl ok18 hh rfl rfl (k5) ?_ ; intro s hh))
              | (refine kCallN 20 ?_ ; first | (refine LOps.ptrC 1 rfl rfl ok20 hh rfl rfl (k6) ?_ ; intro s hh))
              | (refine kOps ?_; first | (refine LOps.nil ?_) | (refine' LOps.ans (v := .agg _) (AnsL.buildZ tT_ok rfl rfl rfl rfl ?_) ?_; rotate_left 1; (focus ((repeat' first | (exact Fills.nil) | (refine' Fills.cons rfl rfl rfl rfl ?_)); done))) | (refine LOps.ev tT_ok rfl ?_) | (refine kLoad ?_; first | (refine LOps.ans (AnsL.loadH tT_ok 2 hh rfl rfl rfl rfl) ?_)) | (refine kCallN 19 ?_; first | (refine LOps.ans (AnsL.callP rfl rfl rfl (ok19) (kT _)) ?_)))
              | (refine kWL ?_; first | (refine WL.seq ?_) | (refine WL.region (by kernel_rfl) ?_) | (refine WL.block ?_) | (refine WL.skip ?_) | (refine kCond ?_; first | (refine WL.condF rfl ?_)))
              | (refine lthen_n ?_)
              | (refine lblock_n ?_)
            simp only [List.length_map, List.length_cons, List.length_nil, Nat.zero_add] at hh
            have e1 : cs.length + 1 = (cs ++ [Col.mk x1 x3]).length := by simp
            have e2 : cs.map Col.toV ++ [V.agg [.str x1, .int .i64 x3]] = (cs ++ [Col.mk x1 x3]).map Col.toV := by simp [Col.toV]
            rw [e1, e2] at hh
            exact lbackH.of ((cs ++ [Col.mk x1 x3], c, n), (pc.1 + 1, pc.2), g) ⟨rfl, rfl, rfl, rfl, rfl, rfl, trivial⟩ hh (by dsimp only [colO, colS]; (repeat' first | (exact Sel.nil) | (exact Sel.refl _) | (refine' Sel.p ?_ ?_; rotate_left 1; (focus (((repeat' first | (exact Pick.here) | (refine' Pick.there ?_)); done)))))) ⟨by dsimp only; omega, by rw [← e1]; dsimp only; omega, by dsimp only; omega, j4⟩ (by dsimp only; omega)
      · have h0' : (T.length : Int) > 0 := by omega
        have hq0 : comQ l T.length (at0, false) = sgP l [44] (at0, false) := if_neg h0
        rw [hq0] at i4
        have k0 := implmustSign_p l hl [44] (at0, false) i1
        have hq : (sgP l [44] (at0, false)).1 ≤ l.length := sgP_le i1
        have hqg : at0 ≤ (sgP l [44] (at0, false)).1 := sgP_ge l [44] (at0, false)
        generalize sgP l [44] (at0, false) = q at i4 k0 hq hqg
        replace hh : Hold s s.next [.own (.slm (.is c0) l0 0 T.length) (.sl 0 (T.map Tab.toV)), .cell cn [.slm (.is c0) l0 0 T.length], .cell rn (parV l (at0, false)), .cell n2 [.nilsl]] := hh
        have k1 := implmustKind_p l hl ht q hq
        have k2 := implmustSign_p l hl [40] (nmP l q) (nmP_le hq)
        have q2 := tabQ_le (ty := tyI) (z := false) (l := l) (q := q) hq
        have q3 := tabQ_lt (ty := tyI) (z := false) (l := l) (q := q) hq
        have hTP : tabP tyI false l q = colsP tyI l (l.length + 1) (sgP l [40] (nmP l q)) [] := rfl
        rw [tabX_mk] at i4
        unfold tabQ at i4 q2 q3
        generalize tabP tyI false l q = tp at i4 q2 q3 hTP
        have hP1 := sgP_le (b := [40]) (nmP_le hq)
        generalize nmX l q = nm at k1 i4
        generalize sgP l [40] (nmP l q) = p1 at k2 hTP hP1
        repeat' first
          | (refine kAlloc ?_ ; refine LOps.allocH tT_ok hh rfl rfl ?_ ; intro s n hh)
          | (refine kStore ?_ ; first | (refine LOps.storeH tT_ok 0 hh rfl rfl rfl rfl rfl rfl rfl rfl rfl ?_ ; intro s hh))
          | (refine kCallN 18 ?_ ; first | (refine LOps.ptrC 0 rfl rfl ok18 hh rfl rfl (k1) ?_ ; intro s hh))
          | (refine kCallN 17 ?_ ; first | (refine LOps.ptrC 1 rfl rfl ok17 hh rfl rfl (k2) ?_ ; intro s hh))
          | (refine kCallN 17 ?_ ; first | (refine LOps.ptrC 2 rfl rfl ok17 hh rfl rfl (k0) ?_ ; intro s hh))
          | (refine kOps ?_; first | (refine LOps.nil ?_) | (refine kG ?_; first | (refine LOps.gT rfl rfl rfl ?_)) | (refine' LOps.ans (v := .agg _) (AnsL.buildZ tT_ok rfl rfl rfl rfl ?_) ?_; rotate_left 1; (focus ((repeat' first | (exact Fills.nil) | (refine' Fills.cons rfl rfl rfl rfl ?_)); done))) | (refine LOps.ev tT_ok rfl ?_) | (refine kLoad ?_; first | (refine LOps.ans (AnsL.loadH tT_ok 2 hh rfl rfl rfl rfl) ?_)) | (refine kLen ?_; first | (refine LOps.ans (AnsL.lenM tT_ok rfl rfl rfl) ?_)))
          | (refine kWL ?_; first | (refine WL.seq ?_) | (refine WL.region (by kernel_rfl) ?_) | (refine WL.block ?_) | (refine WL.skip ?_) | (refine kCond ?_; first | (refine WL.condT' rfl ?_ ?_; (focus (first | (exact decide_eq_true (by assumption)))))))
          | (refine lthen_n ?_)
        obtain ⟨tn, rfl⟩ : ∃ tn, tn = n := ⟨n, rfl⟩
        replace hh := hh.nil0
        refine WL.loopH (fun y : (List Col × Nat × Nat) × Pst × Nat => l.length - y.2.1.1) (fun y => [(2, .ptr n2 0), (4, .sl 0 (tkV l)), (6, .ptr cn 0), (7, .ptr rn 0), (8, .int .i64 (T.length : Int)), (9, .ptr tn 0)])
          (fun y => [colO y.1, .cell rn (parV l y.2.1), .cell tn [.str nm, colS y.1], .own (.slm (.is c0) l0 0 T.length) (.sl 0 (T.map Tab.toV)), .cell cn [.slm (.is c0) l0 0 T.length], .cell n2 [.nilsl]])
          (fun y => y.2.1.1 ≤ l.length ∧ y.1.1.length ≤ y.2.1.1 ∧ l.length < y.2.2 + y.2.1.1 ∧ tp = colsP tyI l y.2.2 y.2.1 y.1.1)
          (([], 0, 0), p1, l.length + 1) ⟨hP1, Nat.zero_le _, by dsimp only; omega, hTP⟩ ⟨rfl, rfl, rfl, rfl, rfl, rfl, trivial⟩ hh (by dsimp only [colO, colS]; (repeat' first | (exact Sel.nil) | (exact Sel.refl _) | (refine' Sel.p ?_ ?_; rotate_left 1; (focus (((repeat' first | (exact Pick.here) | (refine' Pick.there ?_)); done)))))) (fun y s hI hh => ?_)
        obtain ⟨⟨cs, c1, l1⟩, p, g⟩ := y
        obtain ⟨j1, j2, j3, j4⟩ := hI
        dsimp only at j1 j2 j3 j4 hh ⊢
        cases g with
        | zero => omega
        | succ g =>
          unfold colsP at j4
          have hB : (cs.map Col.toV).length ≤ 1048576 := by rw [List.length_map]; omega
          have k4 := implmustKind_p l hl ht p j1
          have k5 := implmustKind_p l hl ht (nmP l p) (nmP_le j1)
          have k6 := impltakeSign_p l hl [44] (colQ l p) (colQ_le j1)
          have g1 := colQ_ge l p
          have g2 := colQ_le j1
          have kT := fun u => slicesIndex_v tyL (by decide) (nmX l (nmP l p)) u
          have hcol : colR tyI l p = ⟨nmX l p, idxI tyL (nmX l (nmP l p))⟩ := rfl
          have hq2 : nmP l (nmP l p) = colQ l p := rfl
          rw [hq2] at k5
          generalize nmX l p = x1 at k4 hcol
          generalize nmX l (nmP l p) = x2 at k5 kT hcol
          generalize nmP l p = pm at k4 k5
          generalize idxI tyL x2 = x3 at kT hcol
          generalize colR tyI l p = col at hcol j4
          subst hcol
          unfold tkP at k6
          cases hb2 : isTk l (colQ l p) 5 [44]
          · rw [hb2] at k6 j4
            rw [if_neg (by decide)] at k6 j4
            subst j4
            have k8 := implmustSign_p l hl [41] (colQ l p) g2
            dsimp only at i4 q2 q3
            generalize sgP l [41] (colQ l p) = pz at k8 i4 q2 q3
            generalize colQ l p = pc at k5 k6 k8
            repeat' first
              | (refine kStore ?_ ; first | (refine LOps.storeH tT_ok 2 hh rfl rfl rfl rfl rfl rfl rfl rfl rfl ?_ ; intro s hh) | (refine LOps.storeH tT_ok 3 hh rfl rfl rfl rfl rfl rfl rfl rfl rfl ?_ ; intro s hh))
              | (refine kBsl ?_ ; first | (refine LOps.ans (d := 51) (AnsL.bslF tT_ok rfl rfl rfl rfl rfl rfl rfl rfl rfl) ?_) | (refine LOps.ans (AnsL.bslE tT_ok rfl rfl rfl rfl rfl rfl rfl rfl ?_) ?_ ; (focus ((repeat' first | (exact ElsH.of rfl)); done))))
              | (refine kApp ?_ ; first | (refine' LOps.appW tT_ok 1 rfl rfl rfl rfl rfl rfl rfl rfl rfl rfl hh ?_ ?_ ?_ (AppB.of ?_ rfl) ?_ ; rotate_left 2 ; (focus (first | (intro x hx; obtain ⟨y, _, rfl⟩ := List.mem_map.1 hx; first | rfl | exact PE.cells_len _ | exact PE.planV_len _ | exact EE.cells_len _ | exact EE.queryV_len _))) ; (focus ((repeat' first | (exact ConsOL.nil) | (exact ConsO.scal rfl) | (refine' ConsOL.cons ?_ ?_) | (refine' ConsO.agg ?_)); done)) ; (focus ((repeat' first | (exact Elems.of rfl)); done)) ; (focus (first | omega | (simp ; omega))) ; intro s c n hh) | (refine' LOps.appW tT_ok 3 rfl rfl rfl rfl rfl rfl rfl rfl rfl rfl hh ?_ ?_ ?_ (AppB.of ?_ rfl) ?_ ; rotate_left 2 ; (focus (first | (intro x hx; obtain ⟨y, _, rfl⟩ := List.mem_map.1 hx; first | rfl | exact PE.cells_len _ | exact PE.planV_len _ | exact EE.cells_len _ | exact EE.queryV_len _))) ; (focus ((repeat' first | (exact ConsOL.nil) | (exact ConsO.scal rfl) | (refine' ConsO.op ?_; ((repeat' first | (exact Pick.here) | (refine' Pick.there ?_)); done)) | (refine' ConsOL.cons ?_ ?_) | (refine' ConsO.agg ?_)); done)) ; (focus ((repeat' first | (exact Elems.of rfl)); done)) ; (focus (first | omega | (simp ; omega))) ; intro s c n hh))
              | (refine kCallN 18 ?_ ; first | (refine LOps.ptrC 1 rfl rfl ok18 hh rfl rfl (k4) ?_ ; intro s hh))
              | (refine kCallN 18 ?_ ; first | (refine LOps.ptrC 0 rfl rfl ok18 hh rfl rfl (k5) ?_ ; intro s hh))
              | (refine kCallN 20 ?_ ; first | (refine LOps.ptrC 1 rfl rfl ok20 hh rfl rfl (k6) ?_ ; intro s hh))
              | (refine kCallN 17 ?_ ; first | (refine LOps.ptrC 0 rfl rfl ok17 hh rfl rfl (k8) ?_ ; intro s hh))
              | (refine kOps ?_; first | (refine LOps.nil ?_) | (refine' LOps.ans (v := .agg _) (AnsL.buildZ tT_ok rfl rfl rfl rfl ?_) ?_; rotate_left 1; (focus ((repeat' first | (exact Fills.nil) | (refine' Fills.cons rfl rfl rfl rfl ?_)); done))) | (refine LOps.ev tT_ok rfl ?_) | (refine kLoad ?_; first | (refine LOps.ans (AnsL.loadH tT_ok 2 hh rfl rfl rfl rfl) ?_) | (refine LOps.ans (AnsL.loadH tT_ok 4 hh rfl rfl rfl rfl) ?_)) | (refine kBin ?_; first | (refine LOps.ans (AnsL.add rfl rfl ?_) ?_; (focus (constructor <;> omega)))) | (refine kCallN 19 ?_; first | (refine LOps.ans (AnsL.callP rfl rfl rfl (ok19) (kT _)) ?_)))
              | (refine kWL ?_; first | (refine WL.seq ?_) | (refine WL.region (by kernel_rfl) ?_) | (refine WL.block ?_) | (refine WL.exit ?_) | (refine kCond ?_; first | (refine WL.condT rfl ?_)))
              | (refine lthen_n ?_)
              | (refine lblock_n ?_)
              | (refine lblock_e ?_)
              | (refine lblock_o rfl ?_)
              | (refine lbackH_e ?_)
            simp only [List.length_map, List.length_cons, List.length_nil, Nat.zero_add] at hh
            have e1 : T.length + 1 = (T ++ [Tab.mk nm (cs ++ [Col.mk x1 x3])]).length := by simp
            have e2 : T.map Tab.toV ++ [V.agg [.str nm, .sl 0 (cs.map Col.toV ++ [V.agg [.str x1, .int .i64 x3]])]] = (T ++ [Tab.mk nm (cs ++ [Col.mk x1 x3])]).map Tab.toV := by simp [Tab.toV, Col.toV]
            rw [e1, e2] at hh
            exact lbackH.of ((T ++ [Tab.mk nm (cs ++ [Col.mk x1 x3])], c, n), pz, f) ⟨rfl, rfl, rfl, rfl, by rw [← e1]; rfl, trivial⟩ hh (by dsimp only [catO, catS]; (repeat' first | (exact Sel.nil) | (exact Sel.refl _) | (refine' Sel.p ?_ ?_; rotate_left 1; (focus (((repeat' first | (exact Pick.here) | (refine' Pick.there ?_)); done)))))) ⟨q2, fun h => by have := q3 h; dsimp only at this ⊢; omega, by rw [← e1]; dsimp only; omega, i4⟩ (by dsimp only; omega)
          · rw [hb2] at k6 j4
            rw [if_pos rfl] at k6 j4
            obtain ⟨hb3, hb4⟩ := isTk_lt hb2
            generalize colQ l p = pc at k5 k6 j4 g1 g2 hb3 hb4
            repeat' first
              | (refine kStore ?_ ; first | (refine LOps.storeH tT_ok 2 hh rfl rfl rfl rfl rfl rfl rfl rfl rfl ?_ ; intro s hh))
              | (refine kBsl ?_ ; first | (refine LOps.ans (d := 51) (AnsL.bslF tT_ok rfl rfl rfl rfl rfl rfl rfl rfl rfl) ?_) | (refine LOps.ans (AnsL.bslE tT_ok rfl rfl rfl rfl rfl rfl rfl rfl ?_) ?_ ; (focus ((repeat' first | (exact ElsH.of rfl)); done))))
              | (refine kApp ?_ ; first | (refine' LOps.appW tT_ok 1 rfl rfl rfl rfl rfl rfl rfl rfl rfl rfl hh ?_ ?_ ?_ (AppB.of ?_ rfl) ?_ ; rotate_left 2 ; (focus (first | (intro x hx; obtain ⟨y, _, rfl⟩ := List.mem_map.1 hx; first | rfl | exact PE.cells_len _ | exact PE.planV_len _ | exact EE.cells_len _ | exact EE.queryV_len _))) ; (focus ((repeat' first | (exact ConsOL.nil) | (exact ConsO.scal rfl) | (refine' ConsOL.cons ?_ ?_) | (refine' ConsO.agg ?_)); done)) ; (focus ((repeat' first | (exact Elems.of rfl)); done)) ; (focus (first | omega | (simp ; omega))) ; intro s c n hh))
              | (refine kCallN 18 ?_ ; first | (refine LOps.ptrC 1 rfl rfl ok18 hh rfl rfl (k4) ?_ ; intro s hh))
              | (refine kCallN 18 ?_ ; first | (refine LOps.ptrC 0 rfl rfl ok18 hh rfl rfl (k5) ?_ ; intro s hh))
              | (refine kCallN 20 ?_ ; first | (refine LOps.ptrC 1 rfl rfl ok20 hh rfl rfl (k6) ?_ ; intro s hh))
              | (refine kOps ?_; first | (refine LOps.nil ?_) | (refine' LOps.ans (v := .agg _) (AnsL.buildZ tT_ok rfl rfl rfl rfl ?_) ?_; rotate_left 1; (focus ((repeat' first | (exact Fills.nil) | (refine' Fills.cons rfl rfl rfl rfl ?_)); done))) | (refine LOps.ev tT_ok rfl ?_) | (refine kLoad ?_; first | (refine LOps.ans (AnsL.loadH tT_ok 2 hh rfl rfl rfl rfl) ?_)) | (refine kCallN 19 ?_; first | (refine LOps.ans (AnsL.callP rfl rfl rfl (ok19) (kT _)) ?_)))
              | (refine kWL ?_; first | (refine WL.seq ?_) | (refine WL.region (by kernel_rfl) ?_) | (refine WL.block ?_) | (refine WL.skip ?_) | (refine kCond ?_; first | (refine WL.condF rfl ?_)))
              | (refine lthen_n ?_)
              | (refine lblock_n ?_)
            simp only [List.length_map, List.length_cons, List.length_nil, Nat.zero_add] at hh
            have e1 : cs.length + 1 = (cs ++ [Col.mk x1 x3]).length := by simp
            have e2 : cs.map Col.toV ++ [V.agg [.str x1, .int .i64 x3]] = (cs ++ [Col.mk x1 x3]).map Col.toV := by simp [Col.toV]
            rw [e1, e2] at hh
            exact lbackH.of ((cs ++ [Col.mk x1 x3], c, n), (pc.1 + 1, pc.2), g) ⟨rfl, rfl, rfl, rfl, rfl, rfl, trivial⟩ hh (by dsimp only [colO, colS]; (repeat' first | (exact Sel.nil) | (exact Sel.refl _) | (refine' Sel.p ?_ ?_; rotate_left 1; (focus (((repeat' first | (exact Pick.here) | (refine' Pick.there ?_)); done)))))) ⟨by dsimp only; omega, by rw [← e1]; dsimp only; omega, by dsimp only; omega, j4⟩ (by dsimp only; omega)
  · have hfin : catP tyI false l f (at0, bad) T = (T, (at0, bad)) := by
      cases f with
      | zero => rfl
      | succ f =>
        unfold catP
        refine if_pos ?_
        cases bad
        · have : ¬ at0 < l.length := fun h => hgo ⟨rfl, h⟩
          simp; omega
        · rfl
    rw [hfin] at i4
    subst i4
    dsimp only at hR hwt
    have hcw : Cat.wt ⟨T⟩ ≤ 1048576 := by simp only [Cat.wt]; omega
    have hO := fun t => implCatalogOk_v ⟨T⟩ hcw t
    replace hh : Hold s s.next [.own (.slm (.is c0) l0 0 T.length) (.sl 0 (T.map Tab.toV)), .cell cn [.slm (.is c0) l0 0 T.length], .cell rn (parV l (at0, bad)), .cell n2 [.nilsl]] := hh
    cases bad
    · have hge : ¬ (at0 : Int) < (l.length : Int) := fun h => hgo ⟨rfl, by omega⟩
      cases ok : catOk ⟨T⟩
      · rw [ok] at hO hR
        rw [if_pos (by simp)] at hR
        subst hR
        repeat' first
          | (refine kStore ?_ ; first | (refine LOps.storeH tT_ok 3 hh rfl rfl rfl rfl rfl rfl rfl rfl rfl ?_ ; intro s hh))
          | (refine kOps ?_; first | (refine LOps.nil ?_) | (refine kG ?_; first | (refine LOps.gT rfl rfl rfl ?_) | (refine LOps.gF rfl rfl rfl ?_)) | (refine' LOps.ans (v := .agg _) (AnsL.buildZ tT_ok rfl rfl rfl rfl ?_) ?_; rotate_left 1; (focus ((repeat' first | (exact Fills.nil)); done))) | (refine LOps.ev tT_ok rfl ?_) | (refine kLoad ?_; first | (refine LOps.ans (AnsL.loadH tT_ok 1 hh rfl rfl rfl rfl) ?_) | (refine LOps.ans (AnsL.loadH tT_ok 2 hh rfl rfl rfl rfl) ?_)) | (refine kLen ?_; first | (refine LOps.ans (AnsL.lenM tT_ok rfl rfl rfl) ?_)) | (refine kCall ?_; first | (refine LOps.ans (AnsL.callP rfl rfl rfl ok21 (VCalls.lookH rfl hh (.cons (.agg (.cons (.own (.head _)) .nil)) .nil) hO)) ?_)))
          | (refine kWL ?_; first | (refine WL.seq ?_) | (refine WL.region (by kernel_rfl) ?_) | (refine WL.exit ?_) | (refine WL.ret ?_) | (refine kCond ?_; first | (refine WL.condT rfl ?_) | (refine WL.condF' rfl ?_ ?_; (focus (first | (exact decide_eq_false (by assumption)))))))
          | (refine lthen_n ?_)
          | (refine lthen_r ?_)
          | (refine lthen_e ?_)
          | (refine lblock_e ?_)
          | (refine lbackH_e ?_)
          | (refine' LPost.r2 (r := .cell 2 24) (r' := .tmp 3) (.inl rfl) ?_ (Res1.tmp rfl) ?_; rotate_left 1; (focus (first | (exact Res1.cellH 3 tT_ok hh rfl rfl rfl rfl))))
        exact ⟨_, _, _, _, rfl, rfl, hh, by ((repeat' first | (exact ConsOL.nil) | (exact ConsO.scal rfl) | (exact ConsO.slm0) | (refine' ConsO.op ?_; ((repeat' first | (exact Pick.here) | (refine' Pick.there ?_)); done)) | (refine' ConsOL.cons ?_ ?_) | (refine' ConsO.agg ?_)); done)⟩
      · rw [ok] at hO hR
        have hTk := fun t => implcatalogTokens_o ⟨T⟩ (catOk_few ok) t
        have hSm := fun t => implSameTokens_v (tabsT 0 T) l (by
          obtain ⟨f1, f2⟩ := catOk_few ok
          have := tabsT_le T 0 f2
          dsimp only at f1
          omega) hl t
        cases sm : same tokEq (tabsT 0 T) l
        · rw [sm] at hSm hR
          rw [if_pos (by simp)] at hR
          subst hR
          repeat' first
            | (refine kStore ?_ ; first | (refine LOps.storeH tT_ok 3 hh rfl rfl rfl rfl rfl rfl rfl rfl rfl ?_ ; intro s hh))
            | (refine kOps ?_; first | (refine LOps.nil ?_) | (refine kG ?_; first | (refine LOps.gT rfl rfl rfl ?_)) | (refine' LOps.ans (v := .agg _) (AnsL.buildZ tT_ok rfl rfl rfl rfl ?_) ?_; rotate_left 1; (focus ((repeat' first | (exact Fills.nil)); done))) | (refine LOps.ev tT_ok rfl ?_) | (refine kLoad ?_; first | (refine LOps.ans (AnsL.loadH tT_ok 1 hh rfl rfl rfl rfl) ?_) | (refine LOps.ans (AnsL.loadH tT_ok 2 hh rfl rfl rfl rfl) ?_)) | (refine kLen ?_; first | (refine LOps.ans (AnsL.lenM tT_ok rfl rfl rfl) ?_)) | (refine kCall ?_; first | (refine LOps.ans (AnsL.callP rfl rfl rfl ok21 (VCalls.lookH rfl hh (.cons (.agg (.cons (.own (.head _)) .nil)) .nil) hO)) ?_) | (refine LOps.ans (AnsL.callP rfl rfl rfl ok23 (VCalls.pureLend hh (.cons (.agg (.cons (.own (.head _)) .nil)) .nil) (plainTk _) hTk)) ?_)) | (refine kCallN 22 ?_; first | (refine LOps.ans (AnsL.callP rfl rfl rfl (ok22) (hSm _)) ?_)))
            | (refine kWL ?_; first | (refine WL.seq ?_) | (refine WL.region (by kernel_rfl) ?_) | (refine WL.exit ?_) | (refine WL.ret ?_) | (refine kCond ?_; first | (refine WL.condT rfl ?_) | (refine WL.condF' rfl ?_ ?_; (focus (first | (exact decide_eq_false (by assumption)))))))
            | (refine lthen_n ?_)
            | (refine lthen_r ?_)
            | (refine lthen_e ?_)
            | (refine lblock_e ?_)
            | (refine lbackH_e ?_)
            | (refine' LPost.r2 (r := .cell 2 24) (r' := .tmp 3) (.inl rfl) ?_ (Res1.tmp rfl) ?_; rotate_left 1; (focus (first | (exact Res1.cellH 3 tT_ok hh rfl rfl rfl rfl))))
          exact ⟨_, _, _, _, rfl, rfl, hh, by ((repeat' first | (exact ConsOL.nil) | (exact ConsO.scal rfl) | (exact ConsO.slm0) | (refine' ConsO.op ?_; ((repeat' first | (exact Pick.here) | (refine' Pick.there ?_)); done)) | (refine' ConsOL.cons ?_ ?_) | (refine' ConsO.agg ?_)); done)⟩
        · rw [sm] at hSm hR
          rw [if_neg (by simp)] at hR
          subst hR
          repeat' first
            | (refine kStore ?_ ; first | (refine LOps.storeH tT_ok 3 hh rfl rfl rfl rfl rfl rfl rfl rfl rfl ?_ ; intro s hh))
            | (refine kOps ?_; first | (refine LOps.nil ?_) | (refine kG ?_; first | (refine LOps.gT rfl rfl rfl ?_)) | (refine LOps.ev tT_ok rfl ?_) | (refine kLoad ?_; first | (refine LOps.ans (AnsL.loadH tT_ok 1 hh rfl rfl rfl rfl) ?_) | (refine LOps.ans (AnsL.loadH tT_ok 2 hh rfl rfl rfl rfl) ?_)) | (refine kLen ?_; first | (refine LOps.ans (AnsL.lenM tT_ok rfl rfl rfl) ?_)) | (refine kCall ?_; first | (refine LOps.ans (AnsL.callP rfl rfl rfl ok21 (VCalls.lookH rfl hh (.cons (.agg (.cons (.own (.head _)) .nil)) .nil) hO)) ?_) | (refine LOps.ans (AnsL.callP rfl rfl rfl ok23 (VCalls.pureLend hh (.cons (.agg (.cons (.own (.head _)) .nil)) .nil) (plainTk _) hTk)) ?_)) | (refine kCallN 22 ?_; first | (refine LOps.ans (AnsL.callP rfl rfl rfl (ok22) (hSm _)) ?_)))
            | (refine kWL ?_; first | (refine WL.seq ?_) | (refine WL.region (by kernel_rfl) ?_) | (refine WL.exit ?_) | (refine WL.skip ?_) | (refine WL.ret ?_) | (refine kCond ?_; first | (refine WL.condF rfl ?_) | (refine WL.condF' rfl ?_ ?_; (focus (first | (exact decide_eq_false (by assumption)))))))
            | (refine lthen_n ?_)
            | (refine lthen_e ?_)
            | (refine lblock_e ?_)
            | (refine lbackH_e ?_)
            | (refine' LPost.r2 (r := .cell 2 24) (r' := .tmp 3) (.inl rfl) ?_ (Res1.tmp rfl) ?_; rotate_left 1; (focus (first | (exact Res1.cellH 3 tT_ok hh rfl rfl rfl rfl))))
          exact ⟨_, _, _, _, rfl, rfl, hh, by ((repeat' first | (exact ConsOL.nil) | (exact ConsO.scal rfl) | (exact ConsO.slm0) | (refine' ConsO.op ?_; ((repeat' first | (exact Pick.here) | (refine' Pick.there ?_)); done)) | (refine' ConsOL.cons ?_ ?_) | (refine' ConsO.agg ?_)); done)⟩
    · rw [if_pos (by simp)] at hR
      subst hR
      repeat' first
        | (refine kStore ?_ ; first | (refine LOps.storeH tT_ok 3 hh rfl rfl rfl rfl rfl rfl rfl rfl rfl ?_ ; intro s hh))
        | (refine kOps ?_; first | (refine LOps.nil ?_) | (refine kG ?_; first | (refine LOps.gF rfl rfl rfl ?_)) | (refine' LOps.ans (v := .agg _) (AnsL.buildZ tT_ok rfl rfl rfl rfl ?_) ?_; rotate_left 1; (focus ((repeat' first | (exact Fills.nil)); done))) | (refine LOps.ev tT_ok rfl ?_) | (refine kLoad ?_; first | (refine LOps.ans (AnsL.loadH tT_ok 2 hh rfl rfl rfl rfl) ?_)))
        | (refine kWL ?_; first | (refine WL.seq ?_) | (refine WL.region (by kernel_rfl) ?_) | (refine WL.exit ?_) | (refine WL.ret ?_) | (refine kCond ?_; first | (refine WL.condT rfl ?_) | (refine WL.condF rfl ?_)))
        | (refine lthen_n ?_)
        | (refine lthen_r ?_)
        | (refine lthen_e ?_)
        | (refine lblock_e ?_)
        | (refine lbackH_e ?_)
        | (refine' LPost.r2 (r := .cell 2 24) (r' := .tmp 3) (.inl rfl) ?_ (Res1.tmp rfl) ?_; rotate_left 1; (focus (first | (exact Res1.cellH 3 tT_ok hh rfl rfl rfl rfl))))
      exact ⟨_, _, _, _, rfl, rfl, hh, by ((repeat' first | (exact ConsOL.nil) | (exact ConsO.scal rfl) | (exact ConsO.slm0) | (refine' ConsO.op ?_; ((repeat' first | (exact Pick.here) | (refine' Pick.there ?_)); done)) | (refine' ConsOL.cons ?_ ?_) | (refine' ConsO.agg ?_)); done)⟩

end Go.Proofs.YtbnbmcplmipgdaaGreatDoor
