/-
  A world that a call of the library's leaves behind, by the blocks that lie below: no state is told of more. Own work; no condition.
-/
import Derived.Test.YtpnabgllpgodmaaDoorVFac
import Derived.Below
namespace Go.Proofs.YtpnabgllpgodmaaDoor
open Go Go.RowKit
set_option linter.unusedSimpArgs false
set_option linter.unusedVariables false

theorem cell_at_heap {w w' : World} {g o : Nat} (h : w'.heap[g]? = w.heap[g]?) : w'.cell? ⟨g, o, none⟩ = w.cell? ⟨g, o, none⟩ := by
  unfold World.cell?
  simp only [h]
theorem RelS.below {E : Env} {s : S} (h : RelS E s) {w' : World} (hb : Below E.w.heap.size E.w w') : Step E s { E with w := w' } s ∧ RelS { E with w := w' } s := by
  have ev : Evolve E { E with w := w' } := ⟨fun _ _ i => i, fun g o' i => cell_at_heap (hb.block g (h.imm_lt i)), fun _ _ h => h, fun id F hF => ⟨F, hF, Nat.le_refl _, fun _ => rfl⟩⟩
  have hold : ∀ k, k < E.w.heap.size → w'.heap[k]? = E.w.heap[k]? := hb.block
  refine h.fin ⟨ev, hb.os, hb.tape, hb.output, hb.size, fun k hk _ => hold k hk, fun _ _ h => h, Nat.le_refl _⟩ ⟨fun l cs hl => ?_, h.varinj, fun id n sz hid => ?_, h.faminj, h.famvar, h.fresh, h.pos, fun g o' i => ?_⟩
  · obtain ⟨g, arr, e, fr, h1, h2⟩ := h.var l cs hl
    exact ⟨g, arr, e, fr, h1, h2.evolve ev (hold g (Array.getElem?_eq_some_iff.1 h2.heap).1) h2.imm⟩
  · obtain ⟨h00, F, h1, h2, h3, h4, h5, h6⟩ := h.fam id n sz hid
    refine ⟨h00, F, h1, h2, h3, h4, h5, fun g hg => ?_⟩
    obtain ⟨arr, e', fr', h7, h8, h9⟩ := h6 g hg
    exact ⟨arr, e', fr', (hold g (Array.getElem?_eq_some_iff.1 h7).1).trans h7, h8, h9⟩
  · obtain ⟨v, hv⟩ := h.imm g o' i
    exact ⟨v, (ev.cell g o' i).trans hv⟩

theorem RepL.strs {E : Env} : ∀ l : List (List UInt8), (∀ x ∈ l, x.length ≤ maxLen) → RepL E (l.map V.str) (l.map fun x => Value.string ⟨x.toArray⟩)
  | [], _ => .nil
  | x :: l, h => .cons (.str (h x (by simp))) (RepL.strs l fun y hy => h y (by simp [hy]))
theorem flat_strs (l : List (List UInt8)) : V.flat (l.map V.str) = l.map V.str := by
  induction l with
  | nil => rfl
  | cons x l ih => rw [List.map_cons, flat_cons, ih]; rfl
/-- Strings in a new block that nobody writes. -/
theorem RelS.newSl {E : Env} {s : S} (h : RelS E s) (l : List (List UInt8)) (e : TypeId) (hl : ∀ x ∈ l, x.length ≤ maxLen) (hm : l.length ≤ maxLen) :
    ∃ E' : Env, E'.w = E.w.alloc (.cells (l.map fun x => Value.string ⟨x.toArray⟩).toArray e) ∧ Step E s E' s ∧ RelS E' s ∧ RepV E' (.sl 0 (l.map V.str)) (.slice (some ⟨E.w.heap.size, 0, none⟩) l.length l.length) := by
  obtain ⟨k1, k2⟩ := step_lit h (l.map fun x => Value.string ⟨x.toArray⟩).toArray e l.length (by simp)
  refine ⟨_, rfl, k1, k2, ?_⟩
  have := RepV.sl (E := { E with w := E.w.alloc (.cells (l.map fun x => Value.string ⟨x.toArray⟩).toArray e), imm := fun g o => E.imm g o ∨ (g = E.w.heap.size ∧ o < l.length) }) (id := 0) (sz := 1) (xs := l.map V.str) (vals := l.map fun x => Value.string ⟨x.toArray⟩) (g := E.w.heap.size) (off := 0) (cap := l.length)
    (fun x hx => by obtain ⟨y, _, rfl⟩ := List.mem_map.1 hx; rfl) (by simp) hm (by rw [flat_strs]; exact RepL.strs l hl) (fun j x hj => ⟨.inr ⟨rfl, ?_⟩, ?_⟩) (.inl rfl)
  · rwa [List.length_map] at this
  · have := (List.getElem?_eq_some_iff.1 hj).1
    simp only [List.length_map] at this
    omega
  · show (E.w.alloc (.cells _ e)).cell? _ = _
    rw [World.cell?_alloc_new, Nat.zero_add]
    simpa using hj

end Go.Proofs.YtpnabgllpgodmaaDoor
