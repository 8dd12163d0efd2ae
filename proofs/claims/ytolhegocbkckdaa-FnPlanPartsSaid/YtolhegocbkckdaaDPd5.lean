/-
  Plans drawn from a string of bytes. Own work; no condition.
-/
import Derived.Test.YtolhegocbkckdaaDPd4
namespace Go.Proofs.Ytolhegocbkckdaa
open Go
set_option linter.unusedSimpArgs false
set_option linter.unusedVariables false

def f6 (a b c d e f : Nat × Nat) : Nat → Nat × Nat
  | 0 => a
  | 1 => b
  | 2 => c
  | 3 => d
  | 4 => e
  | _ => f
def wP : Nat := 64 + 6 * wE 3
theorem PL.lens {p : PL} {n : Nat} (h : wgt p.v ≤ n) : p.tables.length ≤ n ∧ p.on.length ≤ n ∧ p.wher.length ≤ n ∧ p.order.length ≤ n ∧ p.items.length ≤ n ∧ p.names.length ≤ n := by
  have e := PL.wgt_eq p
  have h1 := wgt_len iV p.tables
  have h2 := wgt_len PE.vS p.on
  have h3 := wgt_len PE.toV p.wher
  have h4 := wgt_len PE.sv p.order
  have h5 := wgt_len PE.toV p.items
  have h6 := wgt_len sV p.names
  omega
theorem DrwB.mono {P : Program} {g : FuncId} {b : V} {args : List V} {H0 : List BE} {β : Type} {F : β → V} {B : β → List BE} {p q : β → Prop} (h : DrwB P g b args H0 F B p) (hpq : ∀ y, p y → q y) : DrwB P g b args H0 F B q := fun s H l i c hi hh =>
  VCalls.mono (h s H l i c hi hh) fun v t ⟨y, s', i', h', h1, h2⟩ => ⟨y, s', i', h', hpq y h1, h2⟩
theorem specl19DrawPlan_d {b : V} (hb : Bytes b) : PL.D Try.prog 43 b [b] (fun p => wgt p.v ≤ wP + 2000) := by
  obtain ⟨n, hn2, hn4, hsz⟩ := specl1Size_v hb
  have hn0 : 0 < n := by omega
  have hp : ∀ deep : Int, 0 ≤ deep ∧ deep ≤ n - 1 → DrwB Try.prog 86 b [.int .i64 deep] [] PL.ov PL.ob (fun w => wgt w.1.v ≤ wP ∧ 0 < w.1.items.length ∧ w.1.tables.length ≤ 100000 ∧ w.1.on.length ≤ 100000 ∧ w.1.wher.length ≤ 100000 ∧ w.1.order.length ≤ 100000 ∧ w.1.items.length ≤ 100000 ∧ w.1.names.length ≤ 100000) := fun deep hd =>
    (specl19Plan_d hb (w := wE 3) (specl19Expr_d hb 3 deep (by omega) (by omega) (by omega)) ⟨by omega, by omega⟩).mono fun w hw => ⟨hw.1, hw.2, PL.lens (Nat.le_trans hw.1 (by decide))⟩
  intro s H l i h hi hh
  refine LCalls.body0 Try.func43 rfl (by kernel_rfl) ?_
  repeat' first
    | (refine kAlloc ?_ ; refine LOps.allocH tT_ok hh rfl rfl ?_ ; intro s n hh)
    | (refine kStore ?_ ; first | (refine LOps.storeH tT_ok 0 hh rfl rfl rfl rfl rfl rfl rfl rfl rfl ?_ ; intro s hh) | (refine LOps.storeH tT_ok 2 hh rfl rfl rfl rfl rfl rfl rfl rfl rfl ?_ ; intro s hh) | (refine LOps.storeH tT_ok 8 hh rfl rfl rfl rfl rfl rfl rfl rfl rfl ?_ ; intro s hh))
    | (refine kBsl ?_ ; first | (refine' LOps.bslO (d := 37) tT_ok rfl rfl rfl rfl rfl rfl rfl rfl hh ?_ ?_ ?_ ; rotate_left 2 ; (focus ((repeat' first | (exact ConsOL.nil) | (exact ConsO.scal rfl) | (exact ConsO.slm0) | (refine' ConsOL.cons ?_ ?_) | (refine' ConsO.agg ?_)); done)) ; (focus ((repeat' first | (exact ElsH.of rfl)); done)) ; intro s n hh) | (refine LOps.ans (AnsL.bslE tT_ok rfl rfl rfl rfl rfl rfl rfl rfl ?_) ?_ ; (focus ((repeat' first | (exact ElsH.of rfl)); done))))
    | (refine kApp ?_ ; first | (refine' LOps.appW tT_ok 2 rfl rfl rfl rfl rfl rfl rfl rfl rfl rfl hh ?_ ?_ ?_ (AppB.of ?_ rfl) ?_ ; rotate_left 2 ; (focus (first | (intro x hx; obtain ⟨y, _, rfl⟩ := List.mem_map.1 hx; first | rfl | exact PE.cells_len _ | exact PE.planV_len _))) ; (focus ((repeat' first | (exact ConsOL.nil) | (exact ConsO.scal rfl) | (refine' ConsOL.cons ?_ ?_)); done)) ; (focus ((repeat' first | (exact Elems.of rfl)); done)) ; (focus (first | omega | (simp ; omega))) ; intro s c n hh) | (refine' LOps.appW tT_ok 4 rfl rfl rfl rfl rfl rfl rfl rfl rfl rfl hh ?_ ?_ ?_ (AppB.of ?_ rfl) ?_ ; rotate_left 2 ; (focus (first | (intro x hx; obtain ⟨y, _, rfl⟩ := List.mem_map.1 hx; first | rfl | exact PE.cells_len _ | exact PE.planV_len _))) ; (focus ((repeat' first | (exact ConsOL.nil) | (exact ConsO.scal rfl) | (exact ConsO.slm0) | (refine' ConsO.op ?_; ((repeat' first | (exact Pick.here) | (refine' Pick.there ?_)); done)) | (refine' ConsOL.cons ?_ ?_) | (refine' ConsO.agg ?_)); done)) ; (focus ((repeat' first | (exact Elems.of rfl)); done)) ; (focus (first | omega | (simp ; omega))) ; intro s c n hh) | (refine' LOps.appW tT_ok 7 rfl rfl rfl rfl rfl rfl rfl rfl rfl rfl hh ?_ ?_ ?_ (AppB.of ?_ rfl) ?_ ; rotate_left 2 ; (focus (first | (intro x hx; obtain ⟨y, _, rfl⟩ := List.mem_map.1 hx; first | rfl | exact PE.cells_len _ | exact PE.planV_len _))) ; (focus ((repeat' first | (exact ConsOL.nil) | (exact ConsO.scal rfl) | (refine' ConsOL.cons ?_ ?_)); done)) ; (focus ((repeat' first | (exact Elems.of rfl)); done)) ; (focus (first | omega | (simp ; omega))) ; intro s c n hh))
    | (refine kCallN 59 ?_ ; first | (refine LOps.drawH 1 rfl rfl ok59 hh rfl rfl ?_ (specl1Below_d hb (by omega)) ?_ ; (focus (first | assumption | omega)) ; intro s x i h hq hi hh ; try dsimp only) | (refine LOps.drawH 7 rfl rfl ok59 hh rfl rfl ?_ (specl1Below_d hb (by omega)) ?_ ; (focus (first | assumption | omega)) ; intro s x i h hq hi hh ; try dsimp only))
    | (refine kCallN 87 ?_ ; first | (refine LOps.drawH 0 rfl rfl ok87 hh rfl rfl ?_ (specl1Whole_d hb) ?_ ; (focus (first | assumption | omega)) ; intro s x i h hq hi hh ; try dsimp only))
    | (refine kCallN 88 ?_ ; first | (refine LOps.drawH 0 rfl rfl ok88 hh rfl rfl ?_ (specl2Any_d hb) ?_ ; (focus (first | assumption | omega)) ; intro s x i h hq hi hh ; try dsimp only))
    | (refine kCallN 86 ?_ ; first | (refine LOps.drawB 0 rfl rfl ok86 hh (hp _ (by assumption)) .nil rfl rfl ?_ ?_ ; (focus (first | assumption | omega)) ; intro s y i h hq hi hh ; try dsimp only [List.cons_append, List.nil_append] at hh))
    | (refine kOps ?_; first | (refine LOps.nil ?_) | (refine' LOps.ans (v := .agg _) (AnsL.buildZ tT_ok rfl rfl rfl rfl ?_) ?_; rotate_left 1; (focus ((repeat' first | (exact Fills.nil)); done))) | (refine LOps.ev tT_ok rfl ?_) | (refine kLoad ?_; first | (refine LOps.ans (AnsL.loadH tT_ok 1 hh rfl rfl rfl rfl) ?_) | (refine LOps.ans (AnsL.loadH tT_ok 2 hh rfl rfl rfl rfl) ?_)) | (refine kCallN 60 ?_; first | (refine LOps.ans (AnsL.callP rfl rfl rfl (ok60) (hsz _)) ?_)))
    | (refine kWL ?_; first | (refine WL.seq ?_) | (refine WL.region (by kernel_rfl) ?_) | (refine WL.drawn (id := 4) [0, 1, 2, 3, 4, 5, 6, 7] [3, 5, 7] [[], [0], [], [2], [2, 3], [0, 1, 2, 3, 4], [0, 1, 2, 3, 4, 5], [0, 1, 2, 3, 4, 5, 6]] (by kernel_rfl) (by kernel_rfl) ?_) | (refine WL.drawn (id := 6) [0, 1, 2, 3, 4, 5, 6, 7] [3, 5, 7] [[], [0], [], [2], [2, 3], [0, 1, 2, 3, 4], [0, 1, 2, 3, 4, 5], [0, 1, 2, 3, 4, 5, 6]] (by kernel_rfl) (by kernel_rfl) ?_) | (refine WL.drawn (id := 12) [0, 1, 2, 3, 4, 5, 6, 7, 8] [3, 6, 8] [[], [0], [], [2], [2, 3], [2, 3, 4], [0, 1, 2, 3, 4, 5], [0, 1, 2, 3, 4, 5, 6], [0, 1, 2, 3, 4, 5, 6, 7]] (by kernel_rfl) (by kernel_rfl) ?_) | (refine WL.block ?_) | (refine WL.skip ?_) | (refine WL.ret ?_) | (refine kCond ?_; first | (refine WL.cond rfl (fun h => ?_) (fun h => ?_))))
    | (refine kDr ?_; first | (refine LDr.nil ?_) | (refine' LDr.fl (v := .agg _) rfl rfl (AnsL.buildZ tT_ok rfl rfl rfl rfl ?_) ?_; rotate_left 1; (focus ((repeat' first | (exact Fills.nil) | (refine' Fills.cons rfl rfl rfl rfl ?_)); done))) | (refine LDr.fl rfl rfl (.ev tT_ok rfl) ?_) | (refine LDr.fl rfl rfl (AnsL.bslF tT_ok rfl rfl rfl rfl rfl rfl rfl rfl rfl) ?_) | (refine kDLoad rfl ?_; first | (refine LDr.fl rfl rfl (AnsL.loadH tT_ok 1 hh rfl rfl rfl rfl) ?_)) | (refine LDr.eff rfl rfl rfl ?_))
    | (refine lthen_n ?_)
    | (refine lblock_n ?_)
    | (refine' LPost.r1 (r := .cell 4 44) (.inl rfl) ?_ ?_; rotate_left 1; (focus (first | exact Res1.cellH 0 tT_ok hh rfl rfl rfl rfl | exact Res1.cellH 1 tT_ok hh rfl rfl rfl rfl | exact Res1.cellH 2 tT_ok hh rfl rfl rfl rfl | exact Res1.cellH 3 tT_ok hh rfl rfl rfl rfl | exact Res1.cellH 4 tT_ok hh rfl rfl rfl rfl | exact Res1.cellH 5 tT_ok hh rfl rfl rfl rfl | exact Res1.cellH 6 tT_ok hh rfl rfl rfl rfl | exact Res1.cellH 7 tT_ok hh rfl rfl rfl rfl | exact Res1.cellH 8 tT_ok hh rfl rfl rfl rfl | exact Res1.cellH 9 tT_ok hh rfl rfl rfl rfl | exact Res1.cellH 10 tT_ok hh rfl rfl rfl rfl | exact Res1.cellH 11 tT_ok hh rfl rfl rfl rfl | exact Res1.cellHW 0 tT_ok hh rfl rfl rfl rfl | exact Res1.cellHW 1 tT_ok hh rfl rfl rfl rfl | exact Res1.cellHW 2 tT_ok hh rfl rfl rfl rfl | exact Res1.cellHW 3 tT_ok hh rfl rfl rfl rfl | exact Res1.cellHW 4 tT_ok hh rfl rfl rfl rfl | exact Res1.cellHW 5 tT_ok hh rfl rfl rfl rfl | exact Res1.cellHW 6 tT_ok hh rfl rfl rfl rfl | exact Res1.cellHW 7 tT_ok hh rfl rfl rfl rfl | exact Res1.cellHW 8 tT_ok hh rfl rfl rfl rfl | exact Res1.cellHW 9 tT_ok hh rfl rfl rfl rfl | exact Res1.cellHW 10 tT_ok hh rfl rfl rfl rfl | exact Res1.cellHW 11 tT_ok hh rfl rfl rfl rfl)))
    | (refine And.intro ?_ ?_)
    | (exact StsL.nil)
    | (refine StsL.cons ?_ ?_)
    | (refine StL.fl rfl rfl (.ev tT_ok rfl))
    | (refine StL.fl rfl rfl (AnsL.loadH tT_ok 1 hh rfl rfl rfl rfl))
  · have hw := (by assumption : wgt y.1.v ≤ wP ∧ 0 < y.1.items.length ∧ y.1.tables.length ≤ 100000 ∧ y.1.on.length ≤ 100000 ∧ y.1.wher.length ≤ 100000 ∧ y.1.order.length ≤ 100000 ∧ y.1.items.length ≤ 100000 ∧ y.1.names.length ≤ 100000)
    have e1 : ∀ v : V, (y.1.tables.map iV).length + [v].length = (y.1.tables ++ [x]).length := fun v => by simp
    have e2 : y.1.tables.map iV ++ [iV x] = (y.1.tables ++ [x]).map iV := by
      rw [List.map_append]
      rfl
    rw [e1, e2] at hh
    rw [e1]
    apply DrwB.fin (y := (⟨y.1.tables ++ [x], y.1.on, y.1.wher, y.1.order, y.1.items, y.1.names, y.1.distinct, y.1.limit⟩, f6 (c, n) (y.2 1) (y.2 2) (y.2 3) (y.2 4) (y.2 5))) (hh := hh)
    case hv => rfl
    case hi => assumption
    case hs =>
      dsimp only [PL.ob, f6, List.cons_append, List.nil_append]
      (repeat' first | (exact Sel.nil) | (exact Sel.refl _) | (refine' Sel.p ?_ ?_; rotate_left 1; (focus (((repeat' first | (exact Pick.here) | (refine' Pick.there ?_)); done)))))
      (repeat' first | (exact Sel.refl _) | (refine Sel.drop ?_))
    case hp =>
      dsimp only
      rw [PL.wgt_eq]
      have e3 := PL.wgt_eq y.1
      dsimp only
      rw [wgt_snoc]
      have e4 : wgt (iV (x)) ≤ 21 := by first | (simp [iV, sV, PE.vS, wgt, wgtL, PE.toV_eq, PE.v, PE.kids, PE.sub, PE.value]; done) | (simp [iV, sV, PE.vS, wgt, wgtL, PE.toV_eq, PE.v, PE.kids, PE.sub, PE.value]; omega)
      omega
  · have hw := (by assumption : wgt y.1.v ≤ wP ∧ 0 < y.1.items.length ∧ y.1.tables.length ≤ 100000 ∧ y.1.on.length ≤ 100000 ∧ y.1.wher.length ≤ 100000 ∧ y.1.order.length ≤ 100000 ∧ y.1.items.length ≤ 100000 ∧ y.1.names.length ≤ 100000)
    have e1 : ∀ v : V, (y.1.names.map sV).length + [v].length = (y.1.names ++ [x]).length := fun v => by simp
    have e2 : y.1.names.map sV ++ [V.str x] = (y.1.names ++ [x]).map sV := by
      rw [List.map_append]
      rfl
    rw [e1, e2] at hh
    rw [e1]
    apply DrwB.fin (y := (⟨y.1.tables, y.1.on, y.1.wher, y.1.order, y.1.items, y.1.names ++ [x], y.1.distinct, y.1.limit⟩, f6 (y.2 0) (y.2 1) (y.2 2) (y.2 3) (y.2 4) (c, n))) (hh := hh)
    case hv => rfl
    case hi => assumption
    case hs =>
      dsimp only [PL.ob, f6, List.cons_append, List.nil_append]
      (repeat' first | (exact Sel.nil) | (exact Sel.refl _) | (refine' Sel.p ?_ ?_; rotate_left 1; (focus (((repeat' first | (exact Pick.here) | (refine' Pick.there ?_)); done)))))
      (repeat' first | (exact Sel.refl _) | (refine Sel.drop ?_))
    case hp =>
      dsimp only
      rw [PL.wgt_eq]
      have e3 := PL.wgt_eq y.1
      dsimp only
      rw [wgt_snoc]
      have e4 : wgt (sV (x)) ≤ 21 := by first | (simp [iV, sV, PE.vS, wgt, wgtL, PE.toV_eq, PE.v, PE.kids, PE.sub, PE.value]; done) | (simp [iV, sV, PE.vS, wgt, wgtL, PE.toV_eq, PE.v, PE.kids, PE.sub, PE.value]; omega)
      omega
  · have hw := (by assumption : wgt y.1.v ≤ wP ∧ 0 < y.1.items.length ∧ y.1.tables.length ≤ 100000 ∧ y.1.on.length ≤ 100000 ∧ y.1.wher.length ≤ 100000 ∧ y.1.order.length ≤ 100000 ∧ y.1.items.length ≤ 100000 ∧ y.1.names.length ≤ 100000)
    have e1 : ∀ v : V, (y.1.on.map PE.vS).length + [v].length = (y.1.on ++ [[PE.mk 0 0 false ⟨0, 0, []⟩ 0 0 [] []]]).length := fun v => by simp
    have e2 : y.1.on.map PE.vS ++ [V.sl 0 [V.agg [.int .i64 0, .int .i64 0, .bool false, .int .i64 0, .int .i64 0, .str [], .int .i64 0, .int .i64 0, .sl 0 [], .sl 0 []]]] = (y.1.on ++ [[PE.mk 0 0 false ⟨0, 0, []⟩ 0 0 [] []]]).map PE.vS := by
      rw [List.map_append]
      simp [PE.vS, PE.toV_eq, PE.v, PE.kind, PE.op, PE.nt, PE.value, PE.up, PE.pos, PE.kids, PE.sub]
    rw [e1, e2] at hh
    rw [e1]
    apply DrwB.fin (y := (⟨y.1.tables, y.1.on ++ [[PE.mk 0 0 false ⟨0, 0, []⟩ 0 0 [] []]], y.1.wher, y.1.order, y.1.items, y.1.names, y.1.distinct, y.1.limit⟩, f6 (y.2 0) (c, n) (y.2 2) (y.2 3) (y.2 4) (y.2 5))) (hh := hh)
    case hv => rfl
    case hi => assumption
    case hs =>
      dsimp only [PL.ob, f6, List.cons_append, List.nil_append]
      (repeat' first | (exact Sel.nil) | (exact Sel.refl _) | (refine' Sel.p ?_ ?_; rotate_left 1; (focus (((repeat' first | (exact Pick.here) | (refine' Pick.there ?_)); done)))))
      (repeat' first | (exact Sel.refl _) | (refine Sel.drop ?_))
    case hp =>
      dsimp only
      rw [PL.wgt_eq]
      have e3 := PL.wgt_eq y.1
      dsimp only
      rw [wgt_snoc]
      have e4 : wgt (PE.vS ([PE.mk 0 0 false ⟨0, 0, []⟩ 0 0 [] []])) ≤ 21 := by first | (simp [iV, sV, PE.vS, wgt, wgtL, PE.toV_eq, PE.v, PE.kids, PE.sub, PE.value]; done) | (simp [iV, sV, PE.vS, wgt, wgtL, PE.toV_eq, PE.v, PE.kids, PE.sub, PE.value]; omega)
      omega
  · have hw := (by assumption : wgt y.1.v ≤ wP ∧ 0 < y.1.items.length ∧ y.1.tables.length ≤ 100000 ∧ y.1.on.length ≤ 100000 ∧ y.1.wher.length ≤ 100000 ∧ y.1.order.length ≤ 100000 ∧ y.1.items.length ≤ 100000 ∧ y.1.names.length ≤ 100000)
    obtain ⟨p, f⟩ := y
    dsimp only at hw hh
    obtain ⟨e, es, hit⟩ : ∃ e es, p.items = e :: es := by
      cases hp2 : p.items with
      | nil => rw [hp2] at hw; simp at hw
      | cons e es => exact ⟨e, es, rfl⟩
    have hmp : p.items.map PE.toV = [] ++ e.toV :: es.map PE.toV := by rw [hit]; rfl
    have hcl : ∀ x ∈ ([] : List V) ++ e.toV :: es.map PE.toV, x.cells.length = 10 := by
      rw [← hmp]
      intro x hx
      obtain ⟨y, _, rfl⟩ := List.mem_map.1 hx
      exact PE.cells_len y
    have hkl : 0 < p.items.length := hw.2.1
    have hwe : wgt e.v ≤ wP := by
      have h1 := PL.wgt_part (p := p) (k := e) (PlanOf.mem_items (by rw [hit]; simp))
      rw [PE.toV_eq] at h1
      omega
    rw [hmp] at hh
    obtain ⟨A, Z, u, rest, hA, hr, hnc, hn, hh⟩ := Hold.openO 10 (hh.sel (.cons 6 rfl rfl (Sel.refl _))) hcl
    have hA : (V.flat A).length = 0 * 10 := hA
    obtain ⟨w2, rfl, hh⟩ := PE.unown (hh.sel (.cons 1 rfl rfl (Sel.refl _)))
    dsimp only [PE.ob, List.cons_append, List.nil_append] at hh
    have hB := specl19Bent_d hb _ (e, w2) (Nat.lt_succ_self _) (Nat.le_trans hwe (by decide))
    repeat' first
      | (refine kCallN 61 ?_ ; first | (refine' LOps.drawB 3 rfl rfl ok61 hh (hB) ?_ ?_ ?_ ?_ ?_ ; rotate_left 4 ; (focus ((repeat' first | (exact Takes.nil) | (apply Takes.p; (focus (((repeat' first | (exact Pick.here)); done))))); done)) ; (focus rfl) ; (focus rfl) ; (focus (first | assumption | omega)) ; intro s y i h hq hi hh ; try dsimp only [List.cons_append, List.nil_append] at hh))
      | (refine kStore ?_ ; first | (refine LOps.storeHE (q := 0 * 10) tT_ok 3 0 hh rfl rfl hA rfl rfl rfl rfl rfl rfl rfl rfl rfl ?_ ; intro s hh))
      | (refine kOps ?_; first | (refine LOps.nil ?_) | (refine kLoad ?_; first | (refine LOps.ans (AnsL.loadH tT_ok 6 hh rfl rfl rfl rfl) ?_)))
      | (refine kWL ?_; first | (refine WL.seq ?_) | (refine WL.region (by kernel_rfl) ?_) | (refine WL.drawn (id := 10) [0, 1, 2, 3, 4, 5, 6, 7, 8, 9] [7, 9] [[], [0], [], [], [3], [3, 4], [3, 4, 5], [2, 3, 4, 5, 6], [0, 1, 2, 3, 4, 5, 6, 7], [0, 1, 2, 3, 4, 5, 6, 7, 8]] (by kernel_rfl) (by kernel_rfl) ?_))
      | (refine kDr ?_; first | (refine LDr.nil ?_) | (refine LDr.fl rfl rfl (.ev tT_ok rfl) ?_) | (refine kDLoad rfl ?_; first | (refine LDr.fl rfl rfl (AnsL.loadH tT_ok 6 hh rfl rfl rfl rfl) ?_) | (refine LDr.fl rfl rfl (AnsL.loadHE (q := 0 * 10) tT_ok 2 0 hh rfl rfl hA rfl rfl rfl rfl) ?_)) | (refine kDIdx rfl ?_; first | (refine LDr.fl rfl rfl (AnsL.idxO (j := 0) tT_ok rfl rfl rfl rfl rfl hkl) ?_)) | (refine LDr.eff rfl rfl rfl ?_))
      | (refine lthen_n ?_)
      | (refine lblock_n ?_)
      | (refine And.intro ?_ ?_)
      | (exact StsL.nil)
      | (refine StsL.cons ?_ ?_)
      | (refine StL.fl rfl rfl (.ev tT_ok rfl))
      | (refine StL.fl rfl rfl (AnsL.loadH tT_ok 6 hh rfl rfl rfl rfl))
    have h1 := PE.own (w := y) hh
    have h2 := h1.sel (.cons 2 rfl rfl (.cons 0 rfl rfl (.cons 1 rfl rfl (.cons 1 rfl rfl (Sel.refl _)))))
    have hnl : ([] : List V) ++ y.1.toV :: es.map PE.toV = (y.1 :: es).map PE.toV := rfl
    have h3 := Hold.shutO 10 h2 rfl (by
      rw [hnl]
      intro x hx
      obtain ⟨y, _, rfl⟩ := List.mem_map.1 hx
      exact PE.cells_len y) hr hnc (by rw [hn]; rfl)
    rw [hnl] at h3
    replace hh := h3
    have hl : p.items.length = (y.1 :: es).length := by rw [hit]; rfl
    have hwi : wgt (.sl 0 ((y.1 :: es).map PE.toV)) ≤ wgt (.sl 0 (p.items.map PE.toV)) + 1000 := by
      rw [hit]
      dsimp only at hq
      simp only [List.map_cons, PE.toV_eq, wgt, wgtL, List.length_cons]
      omega
    rw [hl] at hh ⊢
    clear h1 h2 h3 hnl hl
    repeat' first
      | (refine kStore ?_ ; first | (refine LOps.storeH tT_ok 8 hh rfl rfl rfl rfl rfl rfl rfl rfl rfl ?_ ; intro s hh))
      | (refine kOps ?_; first | (refine LOps.nil ?_))
      | (refine kWL ?_; first | (refine WL.ret ?_))
      | (refine lthen_n ?_)
      | (refine' LPost.r1 (r := .cell 4 44) (.inl rfl) ?_ ?_; rotate_left 1; (focus (first | exact Res1.cellH 0 tT_ok hh rfl rfl rfl rfl | exact Res1.cellH 1 tT_ok hh rfl rfl rfl rfl | exact Res1.cellH 2 tT_ok hh rfl rfl rfl rfl | exact Res1.cellH 3 tT_ok hh rfl rfl rfl rfl | exact Res1.cellH 4 tT_ok hh rfl rfl rfl rfl | exact Res1.cellH 5 tT_ok hh rfl rfl rfl rfl | exact Res1.cellH 6 tT_ok hh rfl rfl rfl rfl | exact Res1.cellH 7 tT_ok hh rfl rfl rfl rfl | exact Res1.cellH 8 tT_ok hh rfl rfl rfl rfl | exact Res1.cellH 9 tT_ok hh rfl rfl rfl rfl | exact Res1.cellH 10 tT_ok hh rfl rfl rfl rfl | exact Res1.cellH 11 tT_ok hh rfl rfl rfl rfl | exact Res1.cellHW 0 tT_ok hh rfl rfl rfl rfl | exact Res1.cellHW 1 tT_ok hh rfl rfl rfl rfl | exact Res1.cellHW 2 tT_ok hh rfl rfl rfl rfl | exact Res1.cellHW 3 tT_ok hh rfl rfl rfl rfl | exact Res1.cellHW 4 tT_ok hh rfl rfl rfl rfl | exact Res1.cellHW 5 tT_ok hh rfl rfl rfl rfl | exact Res1.cellHW 6 tT_ok hh rfl rfl rfl rfl | exact Res1.cellHW 7 tT_ok hh rfl rfl rfl rfl | exact Res1.cellHW 8 tT_ok hh rfl rfl rfl rfl | exact Res1.cellHW 9 tT_ok hh rfl rfl rfl rfl | exact Res1.cellHW 10 tT_ok hh rfl rfl rfl rfl | exact Res1.cellHW 11 tT_ok hh rfl rfl rfl rfl)))
    apply DrwB.fin (y := (⟨p.tables, p.on, p.wher, p.order, y.1 :: es, p.names, p.distinct, p.limit⟩, f6 (f 0) (f 1) (f 2) (f 3) (f 4) (f 5))) (hh := hh)
    case hv => rfl
    case hi => assumption
    case hs =>
      dsimp only [PL.ob, f6, List.cons_append, List.nil_append]
      (repeat' first | (exact Sel.nil) | (exact Sel.refl _) | (refine' Sel.p ?_ ?_; rotate_left 1; (focus (((repeat' first | (exact Pick.here) | (refine' Pick.there ?_)); done)))))
      (repeat' first | (exact Sel.refl _) | (refine Sel.drop ?_))
    case hp =>
      dsimp only
      rw [PL.wgt_eq]
      have e3 := PL.wgt_eq p
      dsimp only
      omega
  · have hw := (by assumption : wgt y.1.v ≤ wP ∧ 0 < y.1.items.length ∧ y.1.tables.length ≤ 100000 ∧ y.1.on.length ≤ 100000 ∧ y.1.wher.length ≤ 100000 ∧ y.1.order.length ≤ 100000 ∧ y.1.items.length ≤ 100000 ∧ y.1.names.length ≤ 100000)
    have e1 : ∀ v : V, (y.1.wher.map PE.toV).length + [v].length = (y.1.wher ++ [PE.mk x 0 false ⟨0, 0, []⟩ 0 0 [] []]).length := fun v => by simp
    have e2 : y.1.wher.map PE.toV ++ [V.agg [.int .i64 x, .int .i64 0, .bool false, .int .i64 0, .int .i64 0, .str [], .int .i64 0, .int .i64 0, .sl 0 [], .sl 0 []]] = (y.1.wher ++ [PE.mk x 0 false ⟨0, 0, []⟩ 0 0 [] []]).map PE.toV := by
      rw [List.map_append]
      simp [PE.vS, PE.toV_eq, PE.v, PE.kind, PE.op, PE.nt, PE.value, PE.up, PE.pos, PE.kids, PE.sub]
    rw [e1, e2] at hh
    rw [e1]
    apply DrwB.fin (y := (⟨y.1.tables, y.1.on, y.1.wher ++ [PE.mk x 0 false ⟨0, 0, []⟩ 0 0 [] []], y.1.order, y.1.items, y.1.names, y.1.distinct, y.1.limit⟩, f6 (y.2 0) (y.2 1) (c, n) (y.2 3) (y.2 4) (y.2 5))) (hh := hh)
    case hv => rfl
    case hi => assumption
    case hs =>
      dsimp only [PL.ob, f6, List.cons_append, List.nil_append]
      (repeat' first | (exact Sel.nil) | (exact Sel.refl _) | (refine' Sel.p ?_ ?_; rotate_left 1; (focus (((repeat' first | (exact Pick.here) | (refine' Pick.there ?_)); done)))))
      (repeat' first | (exact Sel.refl _) | (refine Sel.drop ?_))
    case hp =>
      dsimp only
      rw [PL.wgt_eq]
      have e3 := PL.wgt_eq y.1
      dsimp only
      rw [wgt_snoc]
      have e4 : wgt (PE.toV (PE.mk x 0 false ⟨0, 0, []⟩ 0 0 [] [])) ≤ 21 := by first | (simp [iV, sV, PE.vS, wgt, wgtL, PE.toV_eq, PE.v, PE.kids, PE.sub, PE.value]; done) | (simp [iV, sV, PE.vS, wgt, wgtL, PE.toV_eq, PE.v, PE.kids, PE.sub, PE.value]; omega)
      omega
  · have hw := (by assumption : wgt y.1.v ≤ wP ∧ 0 < y.1.items.length ∧ y.1.tables.length ≤ 100000 ∧ y.1.on.length ≤ 100000 ∧ y.1.wher.length ≤ 100000 ∧ y.1.order.length ≤ 100000 ∧ y.1.items.length ≤ 100000 ∧ y.1.names.length ≤ 100000)
    apply DrwB.fin (y := y) (hh := hh)
    case hv => rfl
    case hi => assumption
    case hs =>
      dsimp only [PL.ob, List.cons_append, List.nil_append]
      (repeat' first | (exact Sel.nil) | (exact Sel.refl _) | (refine' Sel.p ?_ ?_; rotate_left 1; (focus (((repeat' first | (exact Pick.here) | (refine' Pick.there ?_)); done)))))
      (repeat' first | (exact Sel.refl _) | (refine Sel.drop ?_))
    case hp => omega
theorem specDrawPartsOf_d {b : V} (hb : Bytes b) : DrwAll Try.prog 18 b (fun x : PL => x.v) (fun x => wgt x.v ≤ wP + 2000) := by
  refine DrwAll.ofO (f := fun x : PL => x.v) fun s H hh => ?_
  refine LCalls.body0 Try.func18 rfl (by kernel_rfl) ?_
  repeat' first
    | (refine kAlloc ?_ ; refine LOps.allocH tT_ok hh rfl rfl ?_ ; intro s n hh)
    | (refine kStore ?_ ; first | (refine LOps.storeH tT_ok 7 hh rfl rfl rfl rfl rfl rfl rfl rfl rfl ?_ ; intro s hh))
    | (refine kCallN 44 ?_ ; refine LOps.drawNew rfl rfl ok44 hh (specl1New_d hb) ?_ ; intro s m h hh)
    | (refine kCallN 43 ?_ ; first | (refine LOps.drawB 0 rfl rfl ok43 hh (specl19DrawPlan_d hb) .nil rfl rfl ?_ ?_ ; (focus (first | assumption | omega)) ; intro s y i h hq hi hh ; try dsimp only [List.cons_append, List.nil_append] at hh))
    | (refine kOps ?_; first | (refine LOps.nil ?_) | (refine LOps.ev tT_ok rfl ?_))
    | (refine kWL ?_; first | (refine WL.seq ?_) | (refine WL.region (by kernel_rfl) ?_) | (refine WL.ret ?_))
    | (refine lthen_n ?_)
    | (refine' LPost.r1 (r := .cell 2 44) (.inl rfl) ?_ ?_; rotate_left 1; (focus (first | exact Res1.cellH 0 tT_ok hh rfl rfl rfl rfl | exact Res1.cellH 1 tT_ok hh rfl rfl rfl rfl | exact Res1.cellH 2 tT_ok hh rfl rfl rfl rfl | exact Res1.cellH 3 tT_ok hh rfl rfl rfl rfl | exact Res1.cellH 4 tT_ok hh rfl rfl rfl rfl | exact Res1.cellH 5 tT_ok hh rfl rfl rfl rfl | exact Res1.cellH 6 tT_ok hh rfl rfl rfl rfl | exact Res1.cellH 7 tT_ok hh rfl rfl rfl rfl | exact Res1.cellHW 0 tT_ok hh rfl rfl rfl rfl | exact Res1.cellHW 1 tT_ok hh rfl rfl rfl rfl | exact Res1.cellHW 2 tT_ok hh rfl rfl rfl rfl | exact Res1.cellHW 3 tT_ok hh rfl rfl rfl rfl | exact Res1.cellHW 4 tT_ok hh rfl rfl rfl rfl | exact Res1.cellHW 5 tT_ok hh rfl rfl rfl rfl | exact Res1.cellHW 6 tT_ok hh rfl rfl rfl rfl | exact Res1.cellHW 7 tT_ok hh rfl rfl rfl rfl)))
  refine' DrwAll.finO y.1 hq hh ?hc ?hs
  case hc =>
    unfold PL.v
    ((repeat' first | (exact ConsOL.nil) | (exact ConsO.scal rfl) | (exact ConsO.slm0) | (refine' ConsO.op ?_; ((repeat' first | (exact Pick.here) | (refine' Pick.there ?_)); done)) | (refine' ConsOL.cons ?_ ?_) | (refine' ConsO.agg ?_)); done)
  case hs =>
    (repeat' first | (exact Sel.nil) | (exact Sel.refl _) | (refine' Sel.p ?_ ?_; rotate_left 1; (focus (((repeat' first | (exact Pick.here) | (refine' Pick.there ?_)); done)))))
    all_goals (repeat' first | (exact Sel.refl _) | (refine Sel.drop ?_))

end Go.Proofs.Ytolhegocbkckdaa
