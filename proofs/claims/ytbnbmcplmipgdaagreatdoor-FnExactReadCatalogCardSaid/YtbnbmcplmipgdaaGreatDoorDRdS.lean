/-
  Catalogs read, of the reference: in new memory. Own work; no condition.
-/
import Derived.Test.YtbnbmcplmipgdaaGreatDoorDRcW
namespace Go.Proofs.YtbnbmcplmipgdaaGreatDoor
open Go
set_option linter.unusedSimpArgs false
set_option linter.unusedVariables false

/-- A call with lent arguments that answers new memory, taken as a plain value. -/
theorem VCalls.pureLend {P : Program} {f : FuncId} {vs ds : List V} {d : V} {s : S} {H : List BE} (hh : Hold s s.next H) (hrd : RdH H vs ds) (hd : d.plain = true) (h : ∀ t, VCalls P f ds t (fun v t' => Own2 d v t')) : VCalls P f vs (s.ext []) (fun v s' => v = d ∧ s' = s.ext []) := by
  refine VCalls.pure (plain_dat d hd) (VCalls.turn (VCalls.lend2 (hrd.rd hh) h) ?_)
  rintro v s' _ ⟨rfl, rfl⟩
  exact ⟨d, _, VTurn.thaw _ hd, plain_forget d hd, fun l hl => ext_vars_lt _ _ hl, fun l hl => ext_fams_lt _ _ hl⟩
abbrev catS (y : List Tab × Nat × Nat) : V := .slm (.is y.2.1) y.2.2 0 y.1.length
abbrev catO (y : List Tab × Nat × Nat) : BE := .own (catS y) (.sl 0 (y.1.map Tab.toV))
def rdU (R : Option Cat) : List V := [(R.getD ⟨[]⟩).toV, .bool R.isSome]
theorem tabX_mk (ty : List UInt8 → Int) (z : Bool) (l : List Token) (q : Pst) : tabX ty z l q = ⟨nmX l q, (tabP ty z l q).1⟩ := rfl
set_option maxHeartbeats 16000000 in
theorem specReadCatalog_o (a : List UInt8) (s : S) : VCalls Tryz.prog 4 [.str a] s (fun v t => Own2 (.tup (rdU (readV numS tyS true a))) v t) := by
  refine VCalls.ownT rfl ?_
  have hh : Hold s s.next [] := .start _ _
  have hL := fun u => specLex_v a u
  have hw := lexT_wt numS a
  have hR : readV numS tyS true a = if 0 ≤ (lexT numS a).2 then none else rcP tyS true (lexT numS a).1 := rfl
  generalize readV numS tyS true a = R at hR ⊢
  generalize lexT numS a = r at hL hw hR
  obtain ⟨l, k⟩ := r
  dsimp only [lexU] at hL hw hR
  have hlen := tkW_len l
  have ht : ∀ t ∈ l, t.text.length ≤ 1048576 := fun t h => by have := tkW_mem h; omega
  have hl : l.length ≤ 1048576 := by omega
  by_cases hk : k ≥ 0
  · rw [if_pos hk] at hR
    subst hR
    refine LCalls.body Tryz.func4 rfl (by kernel_rfl) ?_
    repeat' first
      | (refine kAlloc ?_ ; refine LOps.allocH tT_ok hh rfl rfl ?_ ; intro s n hh)
      | (refine kStore ?_ ; first | (refine LOps.storeH tT_ok 0 hh rfl rfl rfl rfl rfl rfl rfl rfl rfl ?_ ; intro s hh))
      | (refine kOps ?_; first | (refine LOps.nil ?_) | (refine' LOps.ans (v := .agg _) (AnsL.buildZ tT_ok rfl rfl rfl rfl ?_) ?_; rotate_left 1; (focus ((repeat' first | (exact Fills.nil)); done))) | (refine LOps.ev tT_ok rfl ?_) | (refine kCallN 9 ?_; first | (refine LOps.ans (AnsL.callP rfl rfl rfl (ok9) (hL _)) ?_)))
      | (refine kWL ?_; first | (refine WL.seq ?_) | (refine WL.region (by kernel_rfl) ?_) | (refine WL.ret ?_) | (refine kCond ?_; first | (refine WL.condT' rfl ?_ ?_; (focus (first | (exact decide_eq_true (by assumption)))))))
      | (refine lthen_n ?_)
      | (refine lthen_r ?_)
      | (refine' LPost.r2 (r := .cell 2 24) (r' := .tmp 3) (.inl rfl) ?_ (Res1.tmp rfl) ?_; rotate_left 1; (focus (first | (exact Res1.cellH 0 tT_ok hh rfl rfl rfl rfl))))
    exact ⟨_, _, _, _, rfl, rfl, hh, by ((repeat' first | (exact ConsOL.nil) | (exact ConsO.scal rfl) | (exact ConsO.slm0) | (refine' ConsO.op ?_; ((repeat' first | (exact Pick.here) | (refine' Pick.there ?_)); done)) | (refine' ConsOL.cons ?_ ?_) | (refine' ConsO.agg ?_)); done)⟩
  rw [if_neg hk] at hR
  have hwt := readC_wt tyS true l
  unfold rcP at hR
  have hC : catP tyS true l (l.length + 2) (0, false) [] = readC tyS true l := rfl
  generalize readC tyS true l = C at hC hR hwt
  refine LCalls.body Tryz.func4 rfl (by kernel_rfl) ?_
  repeat' first
    | (refine kBox ?_ ; first | (refine LOps.boxH hh rfl rfl ?_ ; intro s n hh))
    | (refine kAlloc ?_ ; refine LOps.allocH tT_ok hh rfl rfl ?_ ; intro s n hh)
    | (refine kStore ?_ ; first | (refine LOps.storeH tT_ok 0 hh rfl rfl rfl rfl rfl rfl rfl rfl rfl ?_ ; intro s hh))
    | (refine kOps ?_; first | (refine LOps.nil ?_) | (refine' LOps.ans (v := .agg _) (AnsL.buildZ tT_ok rfl rfl rfl rfl ?_) ?_; rotate_left 1; (focus ((repeat' first | (exact Fills.nil) | (refine' Fills.cons rfl rfl rfl rfl ?_)); done))) | (refine LOps.ev tT_ok rfl ?_) | (refine kCallN 9 ?_; first | (refine LOps.ans (AnsL.callP rfl rfl rfl (ok9) (hL _)) ?_)))
    | (refine kWL ?_; first | (refine WL.seq ?_) | (refine WL.region (by kernel_rfl) ?_) | (refine WL.block ?_) | (refine WL.skip ?_) | (refine kCond ?_; first | (refine WL.condF' rfl ?_ ?_; (focus (first | (exact decide_eq_false (by assumption)))))))
    | (refine lthen_n ?_)
  rename_i n2 _ _ rn _ _ _
  obtain ⟨cn, rfl⟩ : ∃ cn, cn = n := ⟨n, rfl⟩
  replace hh := hh.nil0
  refine WL.loopH (fun y : (List Tab × Nat × Nat) × Pst × Nat => y.2.2) (fun y => [(2, .ptr n2 0), (4, .sl 0 (tkV l)), (6, .ptr rn 0), (7, .ptr cn 0)])
    (fun y => [catO y.1, .cell cn [catS y.1], .cell rn (parV l y.2.1), .cell n2 [.nilsl]])
    (fun y => y.2.1.1 ≤ l.length ∧ (y.2.1.2 = false → l.length + 1 < y.2.2 + y.2.1.1) ∧ y.1.1.length + y.2.2 = l.length + 2 ∧ catP tyS true l y.2.2 y.2.1 y.1.1 = C)
    (([], 0, 0), (0, false), l.length + 2) ⟨Nat.zero_le _, fun _ => by dsimp only; omega, by simp, hC⟩ ⟨rfl, rfl, rfl, rfl, trivial⟩ hh (.cons 0 rfl rfl (.cons 0 rfl rfl (.cons 0 rfl rfl (.cons 0 rfl rfl .nil)))) (fun y s hI hh => ?_)
  obtain ⟨⟨T, c0, l0⟩, p, f⟩ := y
  obtain ⟨i1, i2, i3, i4⟩ := hI
  dsimp only at i1 i2 i3 i4 hh ⊢
  obtain ⟨at0, bad⟩ := p
  dsimp only at i1 i2
  have hmL : (tkV l).length = l.length := List.length_map ..
  have hmT : (T.map Tab.toV).length = T.length := List.length_map ..
  have hBT : (T.map Tab.toV).length ≤ 1048576 := by omega
  by_cases hgo : bad = false ∧ at0 < l.length
  · obtain ⟨g1, g2⟩ := hgo
    subst g1
    have g2' : (at0 : Int) < (l.length : Int) := by omega
    cases f with
    | zero => have := i2 rfl; omega
    | succ f =>
      have i2' := i2 rfl
      unfold catP at i4
      rw [if_neg (by simp; omega)] at i4
      by_cases h0 : T.length = 0
      · have h0' : ¬ (T.length : Int) > 0 := by omega
        have hq0 : comQ l T.length (at0, false) = (at0, false) := if_pos h0
        rw [hq0] at i4
        replace hh : Hold s s.next [.own (.slm (.is c0) l0 0 T.length) (.sl 0 (T.map Tab.toV)), .cell cn [.slm (.is c0) l0 0 T.length], .cell rn (parV l (at0, false)), .cell n2 [.nilsl]] := hh
        have kT := specl16Table_p l hl ht (at0, false) i1
        have q2 := tabQ_le (ty := tyS) (z := true) (l := l) (q := (at0, false)) i1
        have q3 := tabQ_lt (ty := tyS) (z := true) (l := l) (q := (at0, false)) i1
        have eX := tabX_mk tyS true l (at0, false)
        generalize tabX tyS true l (at0, false) = t at i4 eX
        generalize tabQ tyS true l (at0, false) = pz at kT i4 q2 q3
        generalize nmX l (at0, false) = nm at kT eX
        generalize (tabP tyS true l (at0, false)).1 = cs at kT eX
        subst eX
        repeat' first
          | (refine kStore ?_ ; first | (refine LOps.storeH tT_ok 2 hh rfl rfl rfl rfl rfl rfl rfl rfl rfl ?_ ; intro s hh))
          | (refine kApp ?_ ; first | (refine' LOps.appW tT_ok 2 rfl rfl rfl rfl rfl rfl rfl rfl rfl rfl hh ?_ ?_ ?_ (AppB.of ?_ rfl) ?_ ; rotate_left 2 ; (focus (first | (intro x hx; obtain ⟨y, _, rfl⟩ := List.mem_map.1 hx; first | rfl | exact PE.cells_len _ | exact PE.planV_len _ | exact EE.cells_len _ | exact EE.queryV_len _))) ; (focus ((repeat' first | (exact ConsOL.nil) | (exact ConsO.scal rfl) | (refine' ConsO.op ?_; ((repeat' first | (exact Pick.here) | (refine' Pick.there ?_)); done)) | (refine' ConsOL.cons ?_ ?_) | (refine' ConsO.agg ?_)); done)) ; (focus ((repeat' first | (exact Elems.of rfl)); done)) ; (focus (first | omega | (simp ; omega))) ; intro s c n hh))
          | (refine kCallN 12 ?_ ; first | (refine LOps.ptrB 2 rfl rfl ok12 hh (kT) .nil rfl rfl ?_ ; intro s y hq hh ; try dsimp only [List.cons_append, List.nil_append] at hh))
          | (refine kOps ?_; first | (refine LOps.nil ?_) | (refine kG ?_; first | (refine LOps.gT rfl rfl rfl ?_)) | (refine LOps.ev tT_ok rfl ?_) | (refine kLoad ?_; first | (refine LOps.ans (AnsL.loadH tT_ok 1 hh rfl rfl rfl rfl) ?_) | (refine LOps.ans (AnsL.loadH tT_ok 2 hh rfl rfl rfl rfl) ?_)) | (refine kLen ?_; first | (refine LOps.ans (AnsL.lenM tT_ok rfl rfl rfl) ?_)))
          | (refine kWL ?_; first | (refine WL.seq ?_) | (refine WL.region (by kernel_rfl) ?_) | (refine WL.drawn (id := 9) [0, 1, 2, 3, 4, 5, 6, 7] [3, 5, 7] [[], [0], [], [2], [2, 3], [0, 1, 2, 3, 4], [0, 1, 2, 3, 4, 5], [0, 1, 2, 3, 4, 5, 6]] (by kernel_rfl) (by kernel_rfl) ?_) | (refine WL.block ?_) | (refine WL.skip ?_) | (refine kCond ?_; first | (refine WL.condT' rfl ?_ ?_; (focus (first | (exact decide_eq_true (by assumption))))) | (refine WL.condF' rfl ?_ ?_; (focus (first | (exact decide_eq_false (by assumption)))))))
          | (refine kDr ?_; first | (refine LDr.nil ?_) | (refine LDr.fl rfl rfl (.ev tT_ok rfl) ?_) | (refine LDr.fl rfl rfl (AnsL.bslF tT_ok rfl rfl rfl rfl rfl rfl rfl rfl rfl) ?_) | (refine kDLoad rfl ?_; first | (refine LDr.fl rfl rfl (AnsL.loadH tT_ok 1 hh rfl rfl rfl rfl) ?_)) | (refine LDr.eff rfl rfl rfl ?_))
          | (refine lthen_n ?_)
          | (refine lblock_n ?_)
          | (refine And.intro ?_ ?_)
          | (exact StsL.nil)
          | (refine StsL.cons ?_ ?_)
          | (refine StL.fl rfl rfl (.ev tT_ok rfl))
          | (refine StL.fl rfl rfl (AnsL.loadH tT_ok 3 hh rfl rfl rfl rfl))
        simp only [List.length_map, List.length_cons, List.length_nil, Nat.zero_add] at hh
        have e1 : T.length + 1 = (T ++ [Tab.mk nm cs]).length := by simp
        have e2 : T.map Tab.toV ++ [V.agg [.str nm, .sl 0 (cs.map Col.toV)]] = (T ++ [Tab.mk nm cs]).map Tab.toV := by simp [Tab.toV]
        rw [e1, e2] at hh
        exact lbackH.of ((T ++ [Tab.mk nm cs], c, n), pz, f) ⟨rfl, rfl, rfl, rfl, trivial⟩ hh (by dsimp only [catO, catS]; (repeat' first | (exact Sel.nil) | (exact Sel.refl _) | (refine' Sel.p ?_ ?_; rotate_left 1; (focus (((repeat' first | (exact Pick.here) | (refine' Pick.there ?_)); done)))))) ⟨q2, fun h => by have := q3 h; dsimp only at this ⊢; omega, by rw [← e1]; dsimp only; omega, i4⟩ (by dsimp only; omega)
      · have h0' : (T.length : Int) > 0 := by omega
        have hq0 : comQ l T.length (at0, false) = sgP l [44] (at0, false) := if_neg h0
        rw [hq0] at i4
        have k1 := specl12Sign_p l hl [44] (at0, false) i1
        have k2 := specl12Step_p l hl (isTk l (at0, false) 5 [44]) (at0, false) i1
        rw [sgP_st] at k2
        have hq : (sgP l [44] (at0, false)).1 ≤ l.length := sgP_le i1
        have hqg : at0 ≤ (sgP l [44] (at0, false)).1 := sgP_ge l [44] (at0, false)
        generalize sgP l [44] (at0, false) = q at i4 k2 hq hqg
        generalize isTk l (at0, false) 5 [44] = b at k1 k2
        replace hh : Hold s s.next [.own (.slm (.is c0) l0 0 T.length) (.sl 0 (T.map Tab.toV)), .cell cn [.slm (.is c0) l0 0 T.length], .cell rn (parV l (at0, false)), .cell n2 [.nilsl]] := hh
        have kT := specl16Table_p l hl ht q hq
        have q2 := tabQ_le (ty := tyS) (z := true) (l := l) (q := q) hq
        have q3 := tabQ_lt (ty := tyS) (z := true) (l := l) (q := q) hq
        have eX := tabX_mk tyS true l q
        generalize tabX tyS true l q = t at i4 eX
        generalize tabQ tyS true l q = pz at kT i4 q2 q3
        generalize nmX l q = nm at kT eX
        generalize (tabP tyS true l q).1 = cs at kT eX
        subst eX
        repeat' first
          | (refine kStore ?_ ; first | (refine LOps.storeH tT_ok 2 hh rfl rfl rfl rfl rfl rfl rfl rfl rfl ?_ ; intro s hh))
          | (refine kApp ?_ ; first | (refine' LOps.appW tT_ok 2 rfl rfl rfl rfl rfl rfl rfl rfl rfl rfl hh ?_ ?_ ?_ (AppB.of ?_ rfl) ?_ ; rotate_left 2 ; (focus (first | (intro x hx; obtain ⟨y, _, rfl⟩ := List.mem_map.1 hx; first | rfl | exact PE.cells_len _ | exact PE.planV_len _ | exact EE.cells_len _ | exact EE.queryV_len _))) ; (focus ((repeat' first | (exact ConsOL.nil) | (exact ConsO.scal rfl) | (refine' ConsO.op ?_; ((repeat' first | (exact Pick.here) | (refine' Pick.there ?_)); done)) | (refine' ConsOL.cons ?_ ?_) | (refine' ConsO.agg ?_)); done)) ; (focus ((repeat' first | (exact Elems.of rfl)); done)) ; (focus (first | omega | (simp ; omega))) ; intro s c n hh))
          | (refine kCallN 11 ?_ ; first | (refine LOps.ptrC 2 rfl rfl ok11 hh rfl rfl (k1) ?_ ; intro s hh))
          | (refine kCallN 10 ?_ ; first | (refine LOps.ptrC 0 rfl rfl ok10 hh rfl rfl (k2) ?_ ; intro s hh))
          | (refine kCallN 12 ?_ ; first | (refine LOps.ptrB 0 rfl rfl ok12 hh (kT) .nil rfl rfl ?_ ; intro s y hq hh ; try dsimp only [List.cons_append, List.nil_append] at hh))
          | (refine kOps ?_; first | (refine LOps.nil ?_) | (refine kG ?_; first | (refine LOps.gT rfl rfl rfl ?_)) | (refine LOps.ev tT_ok rfl ?_) | (refine kLoad ?_; first | (refine LOps.ans (AnsL.loadH tT_ok 1 hh rfl rfl rfl rfl) ?_) | (refine LOps.ans (AnsL.loadH tT_ok 2 hh rfl rfl rfl rfl) ?_)) | (refine kLen ?_; first | (refine LOps.ans (AnsL.lenM tT_ok rfl rfl rfl) ?_)))
          | (refine kWL ?_; first | (refine WL.seq ?_) | (refine WL.region (by kernel_rfl) ?_) | (refine WL.drawn (id := 9) [0, 1, 2, 3, 4, 5, 6, 7] [3, 5, 7] [[], [0], [], [2], [2, 3], [0, 1, 2, 3, 4], [0, 1, 2, 3, 4, 5], [0, 1, 2, 3, 4, 5, 6]] (by kernel_rfl) (by kernel_rfl) ?_) | (refine WL.block ?_) | (refine WL.skip ?_) | (refine kCond ?_; first | (refine WL.condT' rfl ?_ ?_; (focus (first | (exact decide_eq_true (by assumption)))))))
          | (refine kDr ?_; first | (refine LDr.nil ?_) | (refine LDr.fl rfl rfl (.ev tT_ok rfl) ?_) | (refine LDr.fl rfl rfl (AnsL.bslF tT_ok rfl rfl rfl rfl rfl rfl rfl rfl rfl) ?_) | (refine kDLoad rfl ?_; first | (refine LDr.fl rfl rfl (AnsL.loadH tT_ok 2 hh rfl rfl rfl rfl) ?_)) | (refine LDr.eff rfl rfl rfl ?_))
          | (refine lthen_n ?_)
          | (refine lblock_n ?_)
          | (refine And.intro ?_ ?_)
          | (exact StsL.nil)
          | (refine StsL.cons ?_ ?_)
          | (refine StL.fl rfl rfl (.ev tT_ok rfl))
          | (refine StL.fl rfl rfl (AnsL.loadH tT_ok 3 hh rfl rfl rfl rfl))
        simp only [List.length_map, List.length_cons, List.length_nil, Nat.zero_add] at hh
        have e1 : T.length + 1 = (T ++ [Tab.mk nm cs]).length := by simp
        have e2 : T.map Tab.toV ++ [V.agg [.str nm, .sl 0 (cs.map Col.toV)]] = (T ++ [Tab.mk nm cs]).map Tab.toV := by simp [Tab.toV]
        rw [e1, e2] at hh
        exact lbackH.of ((T ++ [Tab.mk nm cs], c, n), pz, f) ⟨rfl, rfl, rfl, rfl, trivial⟩ hh (by dsimp only [catO, catS]; (repeat' first | (exact Sel.nil) | (exact Sel.refl _) | (refine' Sel.p ?_ ?_; rotate_left 1; (focus (((repeat' first | (exact Pick.here) | (refine' Pick.there ?_)); done)))))) ⟨q2, fun h => by have := q3 h; dsimp only at this ⊢; omega, by rw [← e1]; dsimp only; omega, i4⟩ (by dsimp only; omega)
  · have hfin : catP tyS true l f (at0, bad) T = (T, (at0, bad)) := by
      cases f with
      | zero => rfl
      | succ f =>
        unfold catP
        refine if_pos ?_
        cases bad
        · have : ¬ at0 < l.length := fun h => hgo ⟨rfl, h⟩
          simp; omega
        · rfl
    rw [hfin] at i4
    subst i4
    dsimp only at hR hwt
    have hcw : Cat.wt ⟨T⟩ ≤ 1048576 := by simp only [Cat.wt]; omega
    have hO := fun t => specCatalogOk_v ⟨T⟩ hcw t
    replace hh : Hold s s.next [.own (.slm (.is c0) l0 0 T.length) (.sl 0 (T.map Tab.toV)), .cell cn [.slm (.is c0) l0 0 T.length], .cell rn (parV l (at0, bad)), .cell n2 [.nilsl]] := hh
    cases bad
    · have hge : ¬ (at0 : Int) < (l.length : Int) := fun h => hgo ⟨rfl, by omega⟩
      cases ok : catOk ⟨T⟩
      · rw [ok] at hO hR
        rw [if_pos (by simp)] at hR
        subst hR
        repeat' first
          | (refine kStore ?_ ; first | (refine LOps.storeH tT_ok 3 hh rfl rfl rfl rfl rfl rfl rfl rfl rfl ?_ ; intro s hh))
          | (refine kOps ?_; first | (refine LOps.nil ?_) | (refine kG ?_; first | (refine LOps.gT rfl rfl rfl ?_) | (refine LOps.gF rfl rfl rfl ?_)) | (refine' LOps.ans (v := .agg _) (AnsL.buildZ tT_ok rfl rfl rfl rfl ?_) ?_; rotate_left 1; (focus ((repeat' first | (exact Fills.nil)); done))) | (refine LOps.ev tT_ok rfl ?_) | (refine kLoad ?_; first | (refine LOps.ans (AnsL.loadH tT_ok 1 hh rfl rfl rfl rfl) ?_) | (refine LOps.ans (AnsL.loadH tT_ok 2 hh rfl rfl rfl rfl) ?_)) | (refine kLen ?_; first | (refine LOps.ans (AnsL.lenM tT_ok rfl rfl rfl) ?_)) | (refine kCall ?_; first | (refine LOps.ans (AnsL.callP rfl rfl rfl ok13 (VCalls.lookH rfl hh (.cons (.agg (.cons (.own (.head _)) .nil)) .nil) hO)) ?_)))
          | (refine kWL ?_; first | (refine WL.seq ?_) | (refine WL.region (by kernel_rfl) ?_) | (refine WL.exit ?_) | (refine WL.ret ?_) | (refine kCond ?_; first | (refine WL.condT rfl ?_) | (refine WL.condF' rfl ?_ ?_; (focus (first | (exact decide_eq_false (by assumption)))))))
          | (refine lthen_n ?_)
          | (refine lthen_r ?_)
          | (refine lthen_e ?_)
          | (refine lblock_e ?_)
          | (refine lbackH_e ?_)
          | (refine' LPost.r2 (r := .cell 2 24) (r' := .tmp 3) (.inl rfl) ?_ (Res1.tmp rfl) ?_; rotate_left 1; (focus (first | (exact Res1.cellH 3 tT_ok hh rfl rfl rfl rfl))))
        exact ⟨_, _, _, _, rfl, rfl, hh, by ((repeat' first | (exact ConsOL.nil) | (exact ConsO.scal rfl) | (exact ConsO.slm0) | (refine' ConsO.op ?_; ((repeat' first | (exact Pick.here) | (refine' Pick.there ?_)); done)) | (refine' ConsOL.cons ?_ ?_) | (refine' ConsO.agg ?_)); done)⟩
      · rw [ok] at hO hR
        have hTk := fun t => specl16Tokens_o ⟨T⟩ (catOk_few ok) t
        have hSm := fun t => specSameTokens_v (tabsT 0 T) l (by
          obtain ⟨f1, f2⟩ := catOk_few ok
          have := tabsT_le T 0 f2
          dsimp only at f1
          omega) t
        cases sm : same tokEq (tabsT 0 T) l
        · rw [sm] at hSm hR
          rw [if_pos (by simp)] at hR
          subst hR
          repeat' first
            | (refine kStore ?_ ; first | (refine LOps.storeH tT_ok 3 hh rfl rfl rfl rfl rfl rfl rfl rfl rfl ?_ ; intro s hh))
            | (refine kOps ?_; first | (refine LOps.nil ?_) | (refine kG ?_; first | (refine LOps.gT rfl rfl rfl ?_)) | (refine' LOps.ans (v := .agg _) (AnsL.buildZ tT_ok rfl rfl rfl rfl ?_) ?_; rotate_left 1; (focus ((repeat' first | (exact Fills.nil)); done))) | (refine LOps.ev tT_ok rfl ?_) | (refine kLoad ?_; first | (refine LOps.ans (AnsL.loadH tT_ok 1 hh rfl rfl rfl rfl) ?_) | (refine LOps.ans (AnsL.loadH tT_ok 2 hh rfl rfl rfl rfl) ?_)) | (refine kLen ?_; first | (refine LOps.ans (AnsL.lenM tT_ok rfl rfl rfl) ?_)) | (refine kCall ?_; first | (refine LOps.ans (AnsL.callP rfl rfl rfl ok13 (VCalls.lookH rfl hh (.cons (.agg (.cons (.own (.head _)) .nil)) .nil) hO)) ?_) | (refine LOps.ans (AnsL.callP rfl rfl rfl ok15 (VCalls.pureLend hh (.cons (.agg (.cons (.own (.head _)) .nil)) .nil) (plainTk _) hTk)) ?_)) | (refine kCallN 14 ?_; first | (refine LOps.ans (AnsL.callP rfl rfl rfl (ok14) (hSm _)) ?_)))
            | (refine kWL ?_; first | (refine WL.seq ?_) | (refine WL.region (by kernel_rfl) ?_) | (refine WL.exit ?_) | (refine WL.ret ?_) | (refine kCond ?_; first | (refine WL.condT rfl ?_) | (refine WL.condF' rfl ?_ ?_; (focus (first | (exact decide_eq_false (by assumption)))))))
            | (refine lthen_n ?_)
            | (refine lthen_r ?_)
            | (refine lthen_e ?_)
            | (refine lblock_e ?_)
            | (refine lbackH_e ?_)
            | (refine' LPost.r2 (r := .cell 2 24) (r' := .tmp 3) (.inl rfl) ?_ (Res1.tmp rfl) ?_; rotate_left 1; (focus (first | (exact Res1.cellH 3 tT_ok hh rfl rfl rfl rfl))))
          exact ⟨_, _, _, _, rfl, rfl, hh, by ((repeat' first | (exact ConsOL.nil) | (exact ConsO.scal rfl) | (exact ConsO.slm0) | (refine' ConsO.op ?_; ((repeat' first | (exact Pick.here) | (refine' Pick.there ?_)); done)) | (refine' ConsOL.cons ?_ ?_) | (refine' ConsO.agg ?_)); done)⟩
        · rw [sm] at hSm hR
          rw [if_neg (by simp)] at hR
          subst hR
          repeat' first
            | (refine kStore ?_ ; first | (refine LOps.storeH tT_ok 3 hh rfl rfl rfl rfl rfl rfl rfl rfl rfl ?_ ; intro s hh))
            | (refine kOps ?_; first | (refine LOps.nil ?_) | (refine kG ?_; first | (refine LOps.gT rfl rfl rfl ?_)) | (refine LOps.ev tT_ok rfl ?_) | (refine kLoad ?_; first | (refine LOps.ans (AnsL.loadH tT_ok 1 hh rfl rfl rfl rfl) ?_) | (refine LOps.ans (AnsL.loadH tT_ok 2 hh rfl rfl rfl rfl) ?_)) | (refine kLen ?_; first | (refine LOps.ans (AnsL.lenM tT_ok rfl rfl rfl) ?_)) | (refine kCall ?_; first | (refine LOps.ans (AnsL.callP rfl rfl rfl ok13 (VCalls.lookH rfl hh (.cons (.agg (.cons (.own (.head _)) .nil)) .nil) hO)) ?_) | (refine LOps.ans (AnsL.callP rfl rfl rfl ok15 (VCalls.pureLend hh (.cons (.agg (.cons (.own (.head _)) .nil)) .nil) (plainTk _) hTk)) ?_)) | (refine kCallN 14 ?_; first | (refine LOps.ans (AnsL.callP rfl rfl rfl (ok14) (hSm _)) ?_)))
            | (refine kWL ?_; first | (refine WL.seq ?_) | (refine WL.region (by kernel_rfl) ?_) | (refine WL.exit ?_) | (refine WL.skip ?_) | (refine WL.ret ?_) | (refine kCond ?_; first | (refine WL.condF rfl ?_) | (refine WL.condF' rfl ?_ ?_; (focus (first | (exact decide_eq_false (by assumption)))))))
            | (refine lthen_n ?_)
            | (refine lthen_e ?_)
            | (refine lblock_e ?_)
            | (refine lbackH_e ?_)
            | (refine' LPost.r2 (r := .cell 2 24) (r' := .tmp 3) (.inl rfl) ?_ (Res1.tmp rfl) ?_; rotate_left 1; (focus (first | (exact Res1.cellH 3 tT_ok hh rfl rfl rfl rfl))))
          exact ⟨_, _, _, _, rfl, rfl, hh, by ((repeat' first | (exact ConsOL.nil) | (exact ConsO.scal rfl) | (exact ConsO.slm0) | (refine' ConsO.op ?_; ((repeat' first | (exact Pick.here) | (refine' Pick.there ?_)); done)) | (refine' ConsOL.cons ?_ ?_) | (refine' ConsO.agg ?_)); done)⟩
    · rw [if_pos (by simp)] at hR
      subst hR
      repeat' first
        | (refine kStore ?_ ; first | (refine LOps.storeH tT_ok 3 hh rfl rfl rfl rfl rfl rfl rfl rfl rfl ?_ ; intro s hh))
        | (refine kOps ?_; first | (refine LOps.nil ?_) | (refine kG ?_; first | (refine LOps.gF rfl rfl rfl ?_)) | (refine' LOps.ans (v := .agg _) (AnsL.buildZ tT_ok rfl rfl rfl rfl ?_) ?_; rotate_left 1; (focus ((repeat' first | (exact Fills.nil)); done))) | (refine LOps.ev tT_ok rfl ?_) | (refine kLoad ?_; first | (refine LOps.ans (AnsL.loadH tT_ok 2 hh rfl rfl rfl rfl) ?_)))
        | (refine kWL ?_; first | (refine WL.seq ?_) | (refine WL.region (by kernel_rfl) ?_) | (refine WL.exit ?_) | (refine WL.ret ?_) | (refine kCond ?_; first | (refine WL.condT rfl ?_) | (refine WL.condF rfl ?_)))
        | (refine lthen_n ?_)
        | (refine lthen_r ?_)
        | (refine lthen_e ?_)
        | (refine lblock_e ?_)
        | (refine lbackH_e ?_)
        | (refine' LPost.r2 (r := .cell 2 24) (r' := .tmp 3) (.inl rfl) ?_ (Res1.tmp rfl) ?_; rotate_left 1; (focus (first | (exact Res1.cellH 3 tT_ok hh rfl rfl rfl rfl))))
      exact ⟨_, _, _, _, rfl, rfl, hh, by ((repeat' first | (exact ConsOL.nil) | (exact ConsO.scal rfl) | (exact ConsO.slm0) | (refine' ConsO.op ?_; ((repeat' first | (exact Pick.here) | (refine' Pick.there ?_)); done)) | (refine' ConsOL.cons ?_ ?_) | (refine' ConsO.agg ?_)); done)⟩

end Go.Proofs.YtbnbmcplmipgdaaGreatDoor
