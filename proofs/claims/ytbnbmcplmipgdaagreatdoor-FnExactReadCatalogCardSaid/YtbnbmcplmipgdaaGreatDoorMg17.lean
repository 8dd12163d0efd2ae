/-
  A world that a call of the library's leaves behind, by the blocks that lie below: no state is told of more.
  strings.Split and strings.ReplaceAll by the library's contracts.
  Own work; no condition.
-/
import Derived.Test.YtbnbmcplmipgdaaGreatDoorMg13
import Derived.Below
import Derived.Test.YtbnbmcplmipgdaaGreatDoorMg8
import Derived.Shelf.Strings.Split
import Derived.Shelf.Strings.Replace
namespace Go.Proofs.YtbnbmcplmipgdaaGreatDoor
open Go Go.RowKit
set_option linter.unusedSimpArgs false
set_option linter.unusedVariables false

theorem cell_at_heap {w w' : World} {g o : Nat} (h : w'.heap[g]? = w.heap[g]?) : w'.cell? ⟨g, o, none⟩ = w.cell? ⟨g, o, none⟩ := by
  unfold World.cell?
  simp only [h]
theorem RelS.below {E : Env} {s : S} (h : RelS E s) {w' : World} (hb : Below E.w.heap.size E.w w') : Step E s { E with w := w' } s ∧ RelS { E with w := w' } s := by
  have ev : Evolve E { E with w := w' } := ⟨fun _ _ i => i, fun g o' i => cell_at_heap (hb.block g (h.imm_lt i)), fun _ _ h => h, fun id F hF => ⟨F, hF, Nat.le_refl _, fun _ => rfl⟩⟩
  have hold : ∀ k, k < E.w.heap.size → w'.heap[k]? = E.w.heap[k]? := hb.block
  refine h.fin ⟨ev, hb.os, hb.tape, hb.output, hb.size, fun k hk _ => hold k hk, fun _ _ h => h, Nat.le_refl _⟩ ⟨fun l cs hl => ?_, h.varinj, fun id n sz hid => ?_, h.faminj, h.famvar, h.fresh, h.pos, fun g o' i => ?_⟩
  · obtain ⟨g, arr, e, fr, h1, h2⟩ := h.var l cs hl
    exact ⟨g, arr, e, fr, h1, h2.evolve ev (hold g (Array.getElem?_eq_some_iff.1 h2.heap).1) h2.imm⟩
  · obtain ⟨h00, F, h1, h2, h3, h4, h5, h6⟩ := h.fam id n sz hid
    refine ⟨h00, F, h1, h2, h3, h4, h5, fun g hg => ?_⟩
    obtain ⟨arr, e', fr', h7, h8, h9⟩ := h6 g hg
    exact ⟨arr, e', fr', (hold g (Array.getElem?_eq_some_iff.1 h7).1).trans h7, h8, h9⟩
  · obtain ⟨v, hv⟩ := h.imm g o' i
    exact ⟨v, (ev.cell g o' i).trans hv⟩

theorem RepL.strs {E : Env} : ∀ l : List (List UInt8), (∀ x ∈ l, x.length ≤ maxLen) → RepL E (l.map V.str) (l.map fun x => Value.string ⟨x.toArray⟩)
  | [], _ => .nil
  | x :: l, h => .cons (.str (h x (by simp))) (RepL.strs l fun y hy => h y (by simp [hy]))
theorem flat_strs (l : List (List UInt8)) : V.flat (l.map V.str) = l.map V.str := by
  induction l with
  | nil => rfl
  | cons x l ih => rw [List.map_cons, flat_cons, ih]; rfl
/-- Strings in a new block that nobody writes. -/
theorem RelS.newSl {E : Env} {s : S} (h : RelS E s) (l : List (List UInt8)) (e : TypeId) (hl : ∀ x ∈ l, x.length ≤ maxLen) (hm : l.length ≤ maxLen) :
    ∃ E' : Env, E'.w = E.w.alloc (.cells (l.map fun x => Value.string ⟨x.toArray⟩).toArray e) ∧ Step E s E' s ∧ RelS E' s ∧ RepV E' (.sl 0 (l.map V.str)) (.slice (some ⟨E.w.heap.size, 0, none⟩) l.length l.length) := by
  obtain ⟨k1, k2⟩ := step_lit h (l.map fun x => Value.string ⟨x.toArray⟩).toArray e l.length (by simp)
  refine ⟨_, rfl, k1, k2, ?_⟩
  have := RepV.sl (E := { E with w := E.w.alloc (.cells (l.map fun x => Value.string ⟨x.toArray⟩).toArray e), imm := fun g o => E.imm g o ∨ (g = E.w.heap.size ∧ o < l.length) }) (id := 0) (sz := 1) (xs := l.map V.str) (vals := l.map fun x => Value.string ⟨x.toArray⟩) (g := E.w.heap.size) (off := 0) (cap := l.length)
    (fun x hx => by obtain ⟨y, _, rfl⟩ := List.mem_map.1 hx; rfl) (by simp) hm (by rw [flat_strs]; exact RepL.strs l hl) (fun j x hj => ⟨.inr ⟨rfl, ?_⟩, ?_⟩) (.inl rfl)
  · rwa [List.length_map] at this
  · have := (List.getElem?_eq_some_iff.1 hj).1
    simp only [List.length_map] at this
    omega
  · show (E.w.alloc (.cells _ e)).cell? _ = _
    rw [World.cell?_alloc_new, Nat.zero_add]
    simpa using hj

end Go.Proofs.YtbnbmcplmipgdaaGreatDoor

namespace Go.Proofs
open Go.Shelf
def Tryz.laysSplit_ren : Go.Shelf.Ren := ⟨fun | 146 => 99 | 221 => 104 | 268 => 108 | 138 => 109 | 143 => 67 | 195 => 116 | 197 => 117 | 218 => 118 | 219 => 86 | 260 => 123 | 217 => 84 | 225 => 96 | 224 => 97 | 267 => 98 | 266 => 95 | 314 => 103 | n => n, fun | 9 => 9 | 31 => 51 | 3 => 3 | 4 => 4 | 0 => 0 | 105 => 124 | 21 => 21 | 5 => 5 | 46 => 105 | 119 => 143 | 139 => 146 | 138 => 145 | 146 => 113 | 51 => 112 | n => n, fun | 1 => 0 | 3 => 3 | 4 => 4 | n => n⟩
theorem Tryz.laysSplit : Go.Proofs.Lays.n146 Tryz.prog Tryz.laysSplit_ren := {
  mixed := by kernel_rfl
  f138 := Tryz.func109.trans (congrArg some (by kernel_rfl))
  f143 := Tryz.func67.trans (congrArg some (by kernel_rfl))
  f146 := Tryz.func99.trans (congrArg some (by kernel_rfl))
  f195 := Tryz.func116.trans (congrArg some (by kernel_rfl))
  f197 := Tryz.func117.trans (congrArg some (by kernel_rfl))
  f217 := Tryz.func84.trans (congrArg some (by kernel_rfl))
  f218 := Tryz.func118.trans (congrArg some (by kernel_rfl))
  f219 := Tryz.func86.trans (congrArg some (by kernel_rfl))
  f221 := Tryz.func104.trans (congrArg some (by kernel_rfl))
  f224 := Tryz.func97.trans (congrArg some (by kernel_rfl))
  f225 := Tryz.func96.trans (congrArg some (by kernel_rfl))
  f260 := Tryz.func123.trans (congrArg some (by kernel_rfl))
  f266 := Tryz.func95.trans (congrArg some (by kernel_rfl))
  f267 := Tryz.func98.trans (congrArg some (by kernel_rfl))
  f268 := Tryz.func108.trans (congrArg some (by kernel_rfl))
  f314 := Tryz.func103.trans (congrArg some (by kernel_rfl))
  t0 := Tryz.underlying0
  a0 := Tryz.isAgg0
  z0 := Tryz.sizeOf0
  v0 := Tryz.zeroValue0
  t3 := Tryz.underlying3
  a3 := Tryz.isAgg3
  z3 := Tryz.sizeOf3
  v3 := Tryz.zeroValue3
  t4 := Tryz.underlying4
  a4 := Tryz.isAgg4
  z4 := Tryz.sizeOf4
  v4 := Tryz.zeroValue4
  t5 := Tryz.underlying5
  a5 := Tryz.isAgg5
  z5 := Tryz.sizeOf5
  v5 := Tryz.zeroValue5
  t9 := Tryz.underlying9
  a9 := Tryz.isAgg9
  z9 := Tryz.sizeOf9
  v9 := Tryz.zeroValue9
  t21 := Tryz.underlying21
  a21 := Tryz.isAgg21
  z21 := Tryz.sizeOf21
  v21 := Tryz.zeroValue21
  t31 := Tryz.underlying51
  a31 := Tryz.isAgg51
  z31 := Tryz.sizeOf51
  v31 := Tryz.zeroValue51
  t46 := Tryz.underlying105
  a46 := Tryz.isAgg105
  z46 := Tryz.sizeOf105
  v46 := Tryz.zeroValue105
  t51 := Tryz.underlying112
  a51 := Tryz.isAgg112
  z51 := Tryz.sizeOf112
  v51 := Tryz.zeroValue112
  t105 := Tryz.underlying124
  a105 := Tryz.isAgg124
  z105 := Tryz.sizeOf124
  v105 := Tryz.zeroValue124
  t119 := Tryz.underlying143
  a119 := Tryz.isAgg143
  z119 := Tryz.sizeOf143
  t138 := Tryz.underlying145
  a138 := Tryz.isAgg145
  z138 := Tryz.sizeOf145
  v138 := Tryz.zeroValue145
  t139 := Tryz.underlying146
  a139 := Tryz.isAgg146
  z139 := Tryz.sizeOf146
  v139 := Tryz.zeroValue146
  t146 := Tryz.underlying113
  a146 := Tryz.isAgg113
  z146 := Tryz.sizeOf113
  v146 := Tryz.zeroValue113
  g1 := by kernel_rfl
  g3 := by kernel_rfl
  g4 := by kernel_rfl }
end Go.Proofs
namespace Go.Proofs.YtbnbmcplmipgdaaGreatDoor
open Go Go.RowKit
set_option linter.unusedSimpArgs false
set_option linter.unusedVariables false

theorem RelS.maxLen {E : Env} {s : S} (h : RelS E s) : ∃ m : Int, E.w.cell? ⟨0, 0, none⟩ = some (.int .i64 m) := by
  obtain ⟨⟨m, h1⟩, _⟩ := h.tab 0 .num (.tail _ (.head _))
  exact ⟨m, h1⟩

/-! ### The keywords -/
def kwText : List UInt8 := [83, 69, 76, 69, 67, 84, 32, 68, 73, 83, 84, 73, 78, 67, 84, 32, 70, 82, 79, 77, 32, 74, 79, 73, 78, 32, 79, 78, 32, 87, 72, 69, 82, 69, 32, 79, 82, 68, 69, 82, 32, 66, 89, 32, 65, 83, 67, 32, 68, 69, 83, 67, 32, 76, 73, 77, 73, 84, 32, 65, 83, 32, 65, 78, 68, 32, 79, 82, 32, 78, 79, 84, 32, 73, 83, 32, 73, 78, 32, 66, 69, 84, 87, 69, 69, 78, 32, 69, 88, 73, 83, 84, 83, 32, 78, 85, 76, 76, 32, 84, 82, 85, 69, 32, 70, 65, 76, 83, 69, 32, 73, 78, 83, 69, 82, 84, 32, 73, 78, 84, 79, 32, 86, 65, 76, 85, 69, 83, 32, 85, 80, 68, 65, 84, 69, 32, 83, 69, 84, 32, 68, 69, 76, 69, 84, 69]
def kwords : List (List UInt8) := [[83, 69, 76, 69, 67, 84], [68, 73, 83, 84, 73, 78, 67, 84], [70, 82, 79, 77], [74, 79, 73, 78], [79, 78], [87, 72, 69, 82, 69], [79, 82, 68, 69, 82], [66, 89], [65, 83, 67], [68, 69, 83, 67], [76, 73, 77, 73, 84], [65, 83], [65, 78, 68], [79, 82], [78, 79, 84], [73, 83], [73, 78], [66, 69, 84, 87, 69, 69, 78], [69, 88, 73, 83, 84, 83], [78, 85, 76, 76], [84, 82, 85, 69], [70, 65, 76, 83, 69], [73, 78, 83, 69, 82, 84], [73, 78, 84, 79], [86, 65, 76, 85, 69, 83], [85, 80, 68, 65, 84, 69], [83, 69, 84], [68, 69, 76, 69, 84, 69]]
theorem kw_split : Lib.splitB ⟨#[32]⟩ 0 (Lib.countB ⟨kwText.toArray⟩ ⟨#[32]⟩) ⟨kwText.toArray⟩ = kwords.map fun x => ⟨x.toArray⟩ := by decide +kernel
theorem kw_count : Lib.countB ⟨kwText.toArray⟩ ⟨#[32]⟩ = 27 := by decide +kernel
theorem stringsSplit_v (s : S) : VCalls Tryz.prog 99 [.str kwText, .str [32]] s (fun v s' => v = .sl 0 (kwords.map V.str) ∧ s' = s) := by
  intro E vals h1 h2
  cases h2 with
  | cons hv ht =>
    cases ht with
    | cons hv2 ht =>
      cases ht
      cases hv
      cases hv2
      obtain ⟨m, hm⟩ := h1.maxLen
      refine (Any.strings_Split Tryz.laysSplit (by kernel_rfl) ⟨kwText.toArray⟩ ⟨#[32]⟩ m E.w (by decide +kernel) hm (by decide)).mono ?_
      rintro e w' ⟨rfl, rfl⟩
      obtain ⟨E1, e1, a1, b1, c1⟩ := h1.newSl kwords (Tryz.laysSplit_ren.t 9) (by decide +kernel) (le_maxLen (by decide))
      refine ⟨E1, _, _, s, rfl, ?_, ⟨rfl, rfl⟩, b1, ?_, a1⟩
      · rw [e1, kw_split, List.map_map]
        rfl
      · rw [kw_count]
        exact c1


end Go.Proofs.YtbnbmcplmipgdaaGreatDoor
