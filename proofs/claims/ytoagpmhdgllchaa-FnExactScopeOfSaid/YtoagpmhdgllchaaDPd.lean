/-
  Plans' trees and plans drawn, in memory of one's own. Own work; no condition.
-/
import Derived.Test.YtoagpmhdgllchaaVCap
import Derived.Test.YtoagpmhdgllchaaDBig
import Derived.Test.YtoagpmhdgllchaaDPE
namespace Go.Proofs.Ytoagpmhdgllchaa
open Go
set_option linter.unusedSimpArgs false
set_option linter.unusedVariables false

theorem Val.agg_eq (a b : Int) (c : List UInt8) : V.agg [.int .i64 a, .int .i64 b, .str c] = Val.toV ⟨a, b, c⟩ := rfl
def strLe (n : Nat) : V → Bool
  | .str x => decide (x.length ≤ n)
  | _ => false
theorem pick_len {x : List UInt8} {vs : List V} {n : Nat} (h : V.str x ∈ vs) (ha : vs.all (strLe n) = true) : x.length ≤ n := by
  have := List.all_eq_true.1 ha _ h
  simpa [strLe] using this
theorem specl2Name_d {b : V} (hb : Bytes b) : Drw Try.prog 69 b [] V.str (fun x => x.length ≤ 6) := by
  intro s H l i h hi hh
  refine LCalls.body0 Try.func69 rfl (by kernel_rfl) ?_
  repeat' first
    | (refine kBsl ?_ ; refine' LOps.bslH tT_ok rfl rfl rfl rfl rfl rfl rfl rfl hh ?_ ?_ ?_ ; rotate_left 2 ; (focus ((repeat' first | (exact ConsL.pls rfl rfl)); done)) ; (focus ((repeat' first | (exact ElsH.of rfl)); done)) ; intro s n hh)
    | (refine kCallN 55 ?_ ; first | (refine LOps.drawH 1 rfl rfl ok55 hh rfl rfl ?_ (specl1Pick_d hb rfl (by simp)) ?_ ; (focus (first | assumption | omega)) ; intro s x i h hq hi hh ; try dsimp only))
    | (refine kCallN 56 ?_ ; first | (refine LOps.drawH 0 rfl rfl ok56 hh rfl rfl ?_ (specl1Once_d hb (by omega)) ?_ ; (focus (first | assumption | omega)) ; intro s x i h hq hi hh ; try dsimp only))
    | (refine kOps ?_; first | (refine LOps.nil ?_) | (refine LOps.ev tT_ok rfl ?_))
    | (refine kWL ?_; first | (refine WL.seq ?_) | (refine WL.region (by kernel_rfl) ?_) | (refine WL.skip ?_) | (refine WL.ret ?_) | (refine kCond ?_; first | (refine WL.cond rfl (fun h => ?_) (fun h => ?_))))
    | (refine lthen_n ?_)
    | (refine lthen_r ?_)
    | (refine LPost.r1 (r := .tmp 2) (.inl rfl) (Res1.tmp rfl) ?_)
  all_goals
    apply Drw.fin (hh := hh)
    case hv => first | exact Val.agg_eq _ _ _ | rfl
    case hs => (first | (refine Sel.cons 0 rfl rfl ?_) | (refine Sel.cons 1 rfl rfl ?_) | (refine Sel.cons 2 rfl rfl ?_) | (refine Sel.cons 3 rfl rfl ?_) | (refine Sel.cons 4 rfl rfl ?_) | (refine Sel.cons 5 rfl rfl ?_) | (refine Sel.cons 6 rfl rfl ?_) | (refine Sel.cons 7 rfl rfl ?_)); (repeat' first | (exact Sel.refl _) | (refine Sel.drop ?_))
    case hi => first | assumption | omega | (simp; omega)
    case hp => exact pick_len (by assumption) rfl

theorem PE.q_eq (x : PE) : V.agg [.int .i64 x.kind, .int .i64 x.op, .bool x.nt, .int .i64 x.value.kind, .int .i64 x.value.num, .str x.value.text, .int .i64 x.up, .int .i64 x.pos, .sl 0 (x.kids.map PE.toV), .sl 0 (x.sub.map PE.planV)] = x.toV := (PE.toV_eq x).symm
theorem PE.snoc (es : List PE) (x : PE) : es.map PE.toV ++ [V.agg [.int .i64 x.kind, .int .i64 x.op, .bool x.nt, .int .i64 x.value.kind, .int .i64 x.value.num, .str x.value.text, .int .i64 x.up, .int .i64 x.pos, .sl 0 (x.kids.map PE.toV), .sl 0 (x.sub.map PE.planV)]] = (es ++ [x]).map PE.toV := by
  rw [PE.q_eq, List.map_append, List.map_cons, List.map_nil]
theorem wgt_sl_le {α : Type} {f : α → V} {c : Nat} : ∀ l : List α, (∀ x ∈ l, wgt (f x) ≤ c) → wgt (.sl 0 (l.map f)) ≤ l.length * (c + 1)
  | [], _ => by simp [wgt, wgtL]
  | x :: l, h => by
    have h1 := h x (by simp)
    have h2 := wgt_sl_le l fun y hy => h y (by simp [hy])
    simp only [List.map_cons, wgt, wgtL, List.length_cons, List.length_map, Nat.add_mul] at h2 ⊢
    omega
def f2 (a b : Nat × Nat) : Nat → Nat × Nat
  | 0 => a
  | _ => b
/-- A plan's tree in memory of one's own. -/
abbrev PE.ov (w : PE × (Nat → Nat × Nat)) : V := .agg [.int .i64 w.1.kind, .int .i64 w.1.op, .bool w.1.nt, .int .i64 w.1.value.kind, .int .i64 w.1.value.num, .str w.1.value.text, .int .i64 w.1.up, .int .i64 w.1.pos, .slm (.is (w.2 0).1) (w.2 0).2 0 w.1.kids.length, .slm (.is (w.2 1).1) (w.2 1).2 0 w.1.sub.length]
abbrev PE.ob (w : PE × (Nat → Nat × Nat)) : List BE := [.own (.slm (.is (w.2 0).1) (w.2 0).2 0 w.1.kids.length) (.sl 0 (w.1.kids.map PE.toV)), .own (.slm (.is (w.2 1).1) (w.2 1).2 0 w.1.sub.length) (.sl 0 (w.1.sub.map PE.planV))]
abbrev PL.ov (w : PL × (Nat → Nat × Nat)) : V := .agg [.slm (.is (w.2 0).1) (w.2 0).2 0 w.1.tables.length, .slm (.is (w.2 1).1) (w.2 1).2 0 w.1.on.length, .slm (.is (w.2 2).1) (w.2 2).2 0 w.1.wher.length, .slm (.is (w.2 3).1) (w.2 3).2 0 w.1.order.length, .slm (.is (w.2 4).1) (w.2 4).2 0 w.1.items.length, .slm (.is (w.2 5).1) (w.2 5).2 0 w.1.names.length, .bool w.1.distinct, .int .i64 w.1.limit]
abbrev PL.ob (w : PL × (Nat → Nat × Nat)) : List BE := [.own (.slm (.is (w.2 0).1) (w.2 0).2 0 w.1.tables.length) (.sl 0 (w.1.tables.map iV)), .own (.slm (.is (w.2 1).1) (w.2 1).2 0 w.1.on.length) (.sl 0 (w.1.on.map PE.vS)), .own (.slm (.is (w.2 2).1) (w.2 2).2 0 w.1.wher.length) (.sl 0 (w.1.wher.map PE.toV)),
  .own (.slm (.is (w.2 3).1) (w.2 3).2 0 w.1.order.length) (.sl 0 (w.1.order.map PE.sv)), .own (.slm (.is (w.2 4).1) (w.2 4).2 0 w.1.items.length) (.sl 0 (w.1.items.map PE.toV)), .own (.slm (.is (w.2 5).1) (w.2 5).2 0 w.1.names.length) (.sl 0 (w.1.names.map sV))]
abbrev PE.D (P : Program) (g : FuncId) (b : V) (args : List V) (p : PE → Prop) : Prop := DrwB P g b args [] PE.ov PE.ob (fun w => p w.1)
abbrev PL.D (P : Program) (g : FuncId) (b : V) (args : List V) (p : PL → Prop) : Prop := DrwB P g b args [] PL.ov PL.ob (fun w => p w.1)
abbrev PE.KD (P : Program) (g : FuncId) (b : V) (args : List V) (p : List PE → Prop) : Prop := DrwB P g b args [] (fun w : List PE × Nat × Nat => .slm (.is w.2.1) w.2.2 0 w.1.length) (fun w => [.own (.slm (.is w.2.1) w.2.2 0 w.1.length) (.sl 0 (w.1.map PE.toV))]) (fun w => p w.1)


end Go.Proofs.Ytoagpmhdgllchaa
