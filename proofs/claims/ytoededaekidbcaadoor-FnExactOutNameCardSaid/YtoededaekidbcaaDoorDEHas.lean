/-
  What has a type of queries' trees is one. Own work; no condition.
-/
import Derived.Test.YtoededaekidbcaaDoorDEE
import Derived.Test.YtoededaekidbcaaDoorDFam2
import Derived.Test.YtoededaekidbcaaDoorDRow
namespace Go.Proofs.YtoededaekidbcaaDoor
open Go
set_option linter.unusedSimpArgs false
set_option linter.unusedVariables false

theorem Has.slLt {P : Program} {n : Nat} {t e : TypeId} {v : V} (ht : P.underlying t = some (.slice e)) (h : Has P n t v) : v = .nilsl ∨ ∃ k xs, k < n ∧ v = .sl 0 xs ∧ ∀ x ∈ xs, Has P k e x := by
  cases n with
  | zero => exact h.elim
  | succ n =>
    simp only [Has, ht] at h
    rcases h with h | ⟨xs, h⟩
    · exact .inl h
    · exact .inr ⟨n, xs, Nat.lt_succ_self n, h⟩
theorem Has.stLt {P : Program} {n : Nat} {t : TypeId} {fs : Array Field} {v : V} (ht : P.underlying t = some (.struct fs)) (h : Has P n t v) : ∃ k us, k < n ∧ v = .agg (V.flat us) ∧ AllHas (Has P k) (fs.toList.map (·.type)) us := by
  cases n with
  | zero => exact h.elim
  | succ n =>
    simp only [Has, ht] at h
    obtain ⟨us, h⟩ := h
    exact ⟨n, us, Nat.lt_succ_self n, h⟩
theorem slice_hasLt {α : Type} {f : α → V} {P : Program} {n : Nat} {t e : TypeId} {v : V} (ht : P.underlying t = some (.slice e)) (he : ∀ k, k < n → ∀ u, Has P k e u → ∃ x, u.forget = f x) (h : Has P n t v) : ∃ xs : List α, v.forget = .sl 0 (xs.map f) := by
  rcases Has.slLt ht h with rfl | ⟨m, us, hm, rfl, hu⟩
  · exact ⟨[], by simp [V.forget]⟩
  · obtain ⟨xs, hxs⟩ := list_has fun u hm' => he m hm u (hu u hm')
    exact ⟨xs, by simp only [V.forget, V.forgetL_eq, hxs]⟩
theorem flat_forget5 (us : List V) : (V.agg (V.flat us)).forget = .agg (us.flatMap fun u => u.forget.cells) := by
  simp only [V.forget, V.forgetL_eq]
  congr 1
  induction us with
  | nil => rfl
  | cons u us ih => rw [flat_cons, List.map_append, ih, List.flatMap_cons, V.forget_cells]
theorem EE.itemV_eqf : (EE.itemV : EItem → V) = EItem.v := funext EE.itemV_eq
theorem EE.srcV_eqf : (EE.srcV : ESrc → V) = ESrc.v := funext EE.srcV_eq
theorem EE.sortV_eqf : (EE.sortV : EE × Bool → V) = EE.sv := funext EE.sortV_eq

theorem ESrc_hasN {n : Nat} (ih : ∀ k, k < n → ∀ v, Has Tryd.prog k 37 v → ∃ x : EE, v.forget = x.toV) {v : V} (h : Has Tryd.prog n 105 v) : ∃ x : ESrc, v.forget = EE.srcV x := by
  obtain ⟨n1, us, hn, hv, h1⟩ := Has.stLt Tryd.underlying105 h
  subst hv
  obtain ⟨u0, _, rfl, e0, u1, _, rfl, e1, u2, _, rfl, e2, rfl⟩ := h1
  obtain ⟨a0, rfl⟩ := Has.str Tryd.underlying9 e0
  obtain ⟨a1, rfl⟩ := Has.str Tryd.underlying9 e1
  obtain ⟨a2, ha2⟩ := slice_hasLt (f := EE.toV) Tryd.underlying34 (fun k2 hk2 w hw => ih k2 (by omega) w hw) e2
  refine ⟨⟨a0, a1, a2⟩, ?_⟩
  rw [flat_forget5, EE.srcV_eq]
  simp only [List.flatMap_cons, List.flatMap_nil, ha2, V.forget, V.cells, List.append_nil, List.cons_append, List.nil_append, ESrc.v]
theorem EItem_hasN {n : Nat} (ih : ∀ k, k < n → ∀ v, Has Tryd.prog k 37 v → ∃ x : EE, v.forget = x.toV) {v : V} (h : Has Tryd.prog n 39 v) : ∃ x : EItem, v.forget = EE.itemV x := by
  obtain ⟨n1, us, hn, hv, h1⟩ := Has.stLt Tryd.underlying39 h
  subst hv
  obtain ⟨u0, _, rfl, e0, u1, _, rfl, e1, u2, _, rfl, e2, u3, _, rfl, e3, rfl⟩ := h1
  obtain ⟨a0, rfl⟩ := Has.bool Tryd.underlying4 e0
  obtain ⟨a1, rfl⟩ := Has.str Tryd.underlying9 e1
  obtain ⟨a2, ha2⟩ := ih n1 (by omega) u2 e2
  obtain ⟨a3, rfl⟩ := Has.str Tryd.underlying9 e3
  refine ⟨⟨a0, a1, a2, a3⟩, ?_⟩
  rw [flat_forget5]
  simp only [List.flatMap_cons, List.flatMap_nil, ha2, V.forget, V.cells, List.append_nil, List.cons_append, List.nil_append, EE.itemV]
theorem EQ_hasN {n : Nat} (ih : ∀ k, k < n → ∀ v, Has Tryd.prog k 37 v → ∃ x : EE, v.forget = x.toV) {v : V} (h : Has Tryd.prog n 79 v) : ∃ x : EQ, v.forget = EE.queryV x := by
  obtain ⟨n1, us, hn, hv, h1⟩ := Has.stLt Tryd.underlying79 h
  subst hv
  obtain ⟨u0, _, rfl, e0, u1, _, rfl, e1, u2, _, rfl, e2, u3, _, rfl, e3, u4, _, rfl, e4, u5, _, rfl, e5, rfl⟩ := h1
  obtain ⟨a0, rfl⟩ := Has.bool Tryd.underlying4 e0
  obtain ⟨a1, ha1⟩ := slice_hasLt (f := EE.itemV) Tryd.underlying75 (fun k hk u hu => EItem_hasN (fun k3 hk3 => ih k3 (by omega)) hu) e1
  obtain ⟨a2, ha2⟩ := slice_hasLt (f := EE.srcV) Tryd.underlying76 (fun k hk u hu => ESrc_hasN (fun k3 hk3 => ih k3 (by omega)) hu) e2
  obtain ⟨a3, ha3⟩ := slice_hasLt (f := EE.toV) Tryd.underlying34 (fun k2 hk2 w hw => ih k2 (by omega) w hw) e3
  obtain ⟨a4, ha4⟩ := slice_hasLt (f := EE.sortV) Tryd.underlying77 (fun k hk u hu => by
    obtain ⟨n2, ws, hn2, hv2, h2⟩ := Has.stLt Tryd.underlying108 hu
    subst hv2
    obtain ⟨w0, _, rfl, f0, w1, _, rfl, f1, rfl⟩ := h2
    obtain ⟨b0, hb0⟩ := ih n2 (by omega) w0 f0
    obtain ⟨b1, rfl⟩ := Has.bool Tryd.underlying4 f1
    refine ⟨(b0, b1), ?_⟩
    rw [flat_forget5]
    simp only [List.flatMap_cons, List.flatMap_nil, hb0, V.forget, V.cells, List.append_nil, EE.sortV]) e4
  obtain ⟨a5, rfl⟩ := Has.int Tryd.underlying3 e5
  refine ⟨⟨a0, a1, a2, a3, a4, a5⟩, ?_⟩
  rw [flat_forget5, EE.queryV_eq]
  simp only [List.flatMap_cons, List.flatMap_nil, ha1, ha2, ha3, ha4, V.forget, V.cells, List.append_nil, List.cons_append, List.nil_append, EQ.v]
  simp only [EE.itemV_eqf, EE.srcV_eqf, EE.sortV_eqf]
theorem EE_hasN : ∀ (n : Nat) (v : V), Has Tryd.prog n 37 v → ∃ x : EE, v.forget = x.toV := by
  intro n
  induction n using Nat.strongRecOn with
  | ind n ih =>
    intro v h
    obtain ⟨n1, us, hn, hv, h1⟩ := Has.stLt Tryd.underlying37 h
    subst hv
    obtain ⟨u0, _, rfl, e0, u1, _, rfl, e1, u2, _, rfl, e2, u3, _, rfl, e3, u4, _, rfl, e4, u5, _, rfl, e5, u6, _, rfl, e6, u7, _, rfl, e7, rfl⟩ := h1
    obtain ⟨a0, rfl⟩ := Has.int Tryd.underlying3 e0
    obtain ⟨a1, rfl⟩ := Has.int Tryd.underlying3 e1
    obtain ⟨a2, rfl⟩ := Has.bool Tryd.underlying4 e2
    obtain ⟨a3, ha3⟩ := Val_has e3
    obtain ⟨a4, rfl⟩ := Has.str Tryd.underlying9 e4
    obtain ⟨a5, rfl⟩ := Has.str Tryd.underlying9 e5
    obtain ⟨a6, ha6⟩ := slice_hasLt (f := EE.toV) Tryd.underlying34 (fun k2 hk2 w hw => ih k2 (by omega) w hw) e6
    obtain ⟨a7, ha7⟩ := slice_hasLt (f := EE.queryV) Tryd.underlying35 (fun k2 hk2 w hw => EQ_hasN (fun k3 hk3 => ih k3 (by omega)) hw) e7
    refine ⟨.mk a0 a1 a2 a3 a4 a5 a6 a7, ?_⟩
    rw [flat_forget5, EE.toV_eq]
    simp only [List.flatMap_cons, List.flatMap_nil, ha3, ha6, ha7, V.forget, V.cells, List.append_nil, List.cons_append, List.nil_append, EE.v, Val.toV, EE.kind, EE.op, EE.nt, EE.value, EE.qual, EE.name, EE.kids, EE.sub]
theorem Source_has {n : Nat} {v : V} (h : Has Tryd.prog n 105 v) : ∃ x : ESrc, v.forget = ESrc.v x := by
  obtain ⟨x, hx⟩ := ESrc_hasN (fun k _ => EE_hasN k) h
  exact ⟨x, by rw [hx, EE.srcV_eq]⟩
theorem Expr_has {n : Nat} {v : V} (h : Has Tryd.prog n 37 v) : ∃ x : EE, v.forget = x.v := by
  obtain ⟨x, hx⟩ := EE_hasN n v h
  exact ⟨x, by rw [hx, EE.toV_eq]⟩
theorem Item_has {n : Nat} {v : V} (h : Has Tryd.prog n 39 v) : ∃ x : EItem, v.forget = EItem.v x := by
  obtain ⟨x, hx⟩ := EItem_hasN (fun k _ => EE_hasN k) h
  exact ⟨x, by rw [hx, EE.itemV_eq]⟩
theorem SourceS_has {n : Nat} {v : V} (h : Has Tryd.prog n 76 v) : ∃ xs : List ESrc, v.forget = .sl 0 (xs.map ESrc.v) := by
  obtain ⟨xs, hx⟩ := slice_hasLt (f := EE.srcV) Tryd.underlying76 (fun k _ u hu => ESrc_hasN (fun k2 _ => EE_hasN k2) hu) h
  exact ⟨xs, by rw [hx]; simp only [EE.srcV_eqf]⟩

end Go.Proofs.YtoededaekidbcaaDoor
