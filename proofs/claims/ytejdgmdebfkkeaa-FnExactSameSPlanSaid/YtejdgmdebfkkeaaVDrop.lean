/-
  A call that changes variables of others to plain data: what it made of its own is forgotten behind it. Own work; no condition.
-/
import Derived.Test.YtejdgmdebfkkeaaVDrawn4
namespace Go.Proofs.Ytejdgmdebfkkeaa
open Go

theorem VCalls.drop {P : Program} {f : FuncId} {args : List V} {s : S} {R : V → S → Prop}
    (h : VCalls P f args s (fun v s' => v.forget.dat = true ∧ ∃ t, R v.forget t ∧ t.next = s.next ∧ (∀ l, l < s.next → s'.vars l = t.vars l ∧ s'.fams l = t.fams l) ∧
      (∀ l cs, t.vars l = some cs → s.vars l = some cs ∨ (l < s.next ∧ cs.all V.dat = true)) ∧ ∀ id p, t.fams id = some p → s.fams id = some p ∨ id < s.next)) : VCalls P f args s R := by
  intro E vals h1 h2
  refine (h E vals h1 h2).mono fun e w' ⟨E1, v, val, s', a, b, ⟨c1, t, cR, cn, c2, cv, cf⟩, k, r, st⟩ => ?_
  let E' : Env := { w := E1.w, imm := E1.imm, loc := fun l => if l < s.next then E1.loc l else none, fam := fun l => if l < s.next then E1.fam l else none }
  have hrep : RepV E' v.forget val := r.forget.dat (E := E1) (E' := E') rfl rfl c1
  have hlt : ∀ l, (t.vars l).isSome = true → l < s.next := fun l hl => by
    obtain ⟨cs, hcs⟩ := Option.isSome_iff_exists.1 hl
    rcases cv l cs hcs with hs | hs
    · rcases Nat.lt_or_ge l s.next with h | h
      · exact h
      · rw [(h1.none_of_le h).1] at hs; cases hs
    · exact hs.1
  have hltf : ∀ l, (t.fams l).isSome = true → l < s.next := fun l hl => by
    obtain ⟨p, hp⟩ := Option.isSome_iff_exists.1 hl
    rcases cf l p hp with hs | hs
    · rcases Nat.lt_or_ge l s.next with h | h
      · exact h
      · rw [(h1.none_of_le h).2] at hs; cases hs
    · exact hs
  have hloc : ∀ l, l < s.next → E'.loc l = E1.loc l := fun l hl => by show (if l < s.next then E1.loc l else none) = _; rw [if_pos hl]
  have hfam : ∀ l, l < s.next → E'.fam l = E1.fam l := fun l hl => by show (if l < s.next then E1.fam l else none) = _; rw [if_pos hl]
  have hlt2 : ∀ l g, E.loc l = some g → l < s.next := fun l g hl => by
    rcases Nat.lt_or_ge l s.next with h | h
    · exact h
    · rw [(h1.fresh l h).1] at hl; cases hl
  have hltf2 : ∀ l F, E.fam l = some F → l < s.next := fun l g hl => by
    rcases Nat.lt_or_ge l s.next with h | h
    · exact h
    · rw [(h1.fresh l h).2] at hl; cases hl
  have ev : Evolve E E' := ⟨st.ev.imm, st.ev.cell, fun l g hl => (hloc l (hlt2 l g hl)).trans (st.ev.loc l g hl), fun id F hF => by rw [hfam id (hltf2 id F hF)]; exact st.ev.fam id F hF⟩
  have hvs : ∀ l, (t.vars l).isSome = true → (s'.vars l).isSome = true := fun l hl => by rw [(c2 l (hlt l hl)).1]; exact hl
  have hfs : ∀ l, (t.fams l).isSome = true → (s'.fams l).isSome = true := fun l hl => by rw [(c2 l (hltf l hl)).2]; exact hl
  refine ⟨E', v.forget, val, t, a, b, cR, ⟨fun l cs hl => ?_, fun l l' g hl hl' hg hg' => ?_, fun id n sz hid => ?_, fun id id' F F' g hid hid' hF hF' => ?_, fun l g id F hl hg hid hF => ?_, fun l hl => ?_, by rw [cn]; exact h1.pos, k.imm⟩, hrep,
    ⟨ev, st.os, st.tape, st.output, st.size, st.block, fun q hq ht => st.track q hq ?_, by rw [cn]; exact Nat.le_refl _⟩⟩
  · have hl0 := hlt l (by rw [hl]; rfl)
    obtain ⟨g, arr, e, fr, m3, m4⟩ := k.var l cs ((c2 l hl0).1.trans hl)
    have hnew : RepL E' cs (arr.toList.take cs.length) := by
      rcases cv l cs hl with hs | hs
      · obtain ⟨g0, arr0, e0, fr0, m1, m2⟩ := h1.var l cs hs
        have hbel := m2.rep.isBelow (n := s.next) (fun l hl => (h1.fresh l hl).1) (fun l hl => (h1.fresh l hl).2)
        exact RepL.restrict (E := E1) (E' := E') rfl rfl hloc hfam m4.rep hbel
      · exact m4.rep.dat (E := E1) (E' := E') rfl rfl hs.2
    exact ⟨g, arr, e, fr, (hloc l hl0).trans m3, ⟨m4.heap, hnew, m4.le, m4.free, m4.imm⟩⟩
  · rw [hloc l (hlt l hl)] at hg
    rw [hloc l' (hlt l' hl')] at hg'
    exact k.varinj l l' g (hvs l hl) (hvs l' hl') hg hg'
  · have hid0 := hltf id (by rw [hid]; rfl)
    obtain ⟨h00, F, m1, m2⟩ := k.fam id n sz ((c2 id hid0).2.trans hid)
    exact ⟨h00, F, (hfam id hid0).trans m1, m2⟩
  · rw [hfam id (hltf id hid)] at hF
    rw [hfam id' (hltf id' hid')] at hF'
    exact k.faminj id id' F F' g (hfs id hid) (hfs id' hid') hF hF'
  · rw [hloc l (hlt l hl)] at hg
    rw [hfam id (hltf id hid)] at hF
    exact k.famvar l g id F (hvs l hl) hg (hfs id hid) hF
  · constructor
    · show (if l < s.next then E1.loc l else none) = none
      rw [if_neg (by omega)]
    · show (if l < s.next then E1.fam l else none) = none
      rw [if_neg (by omega)]
  · rcases ht with ⟨l, hl, hg⟩ | ⟨id, F, hl, hF, hg⟩
    · rw [hloc l (hlt l hl)] at hg
      exact .inl ⟨l, hvs l hl, hg⟩
    · rw [hfam id (hltf id hl)] at hF
      exact .inr ⟨id, F, hfs id hl, hF, hg⟩

@[simp] theorem ext_ext (s : S) (xs ys : List Own) : (s.ext xs).ext ys = s.ext (xs ++ ys) := by
  have key : ∀ x, ¬ x < s.next → (x < s.next + xs.length ↔ x - s.next < xs.length) := fun x _ => by omega
  refine S.ext_eq (fun x => ?_) (fun x => ?_) (by simp [S.ext]; omega)
  all_goals
    simp only [S.ext]
    by_cases h : x < s.next
    · simp [h, show x < s.next + xs.length by omega]
    · by_cases h2 : x - s.next < xs.length
      · simp [h, (key x h).2 h2, List.getElem?_append_left h2]
      · have h3 : ¬ x < s.next + xs.length := fun e => h2 ((key x h).1 e)
        simp only [h, h3, if_false, List.getElem?_append_right (Nat.le_of_not_lt h2)]
        rw [show x - (s.next + xs.length) = x - s.next - xs.length by omega]

/-- One variable of another's was changed; what was made beside it is forgotten. -/
def DropR (s : S) (l : Nat) (R : V → S → Prop) (v : V) (s' : S) : Prop := v.forget.dat = true ∧ ∃ cs xs, s' = (s.setVar l cs).ext xs ∧ cs.all V.dat = true ∧ R v.forget (s.setVar l cs)
theorem DropR.mk {s : S} {l : Nat} {R : V → S → Prop} {v : V} {cs : List V} {xs : List Own} (h1 : v.forget.dat = true) (h2 : cs.all V.dat = true) (h3 : R v.forget (s.setVar l cs)) : DropR s l R v ((s.setVar l cs).ext xs) := ⟨h1, cs, xs, rfl, h2, h3⟩

theorem VCalls.dropVar {P : Program} {f : FuncId} {args : List V} {s : S} {R : V → S → Prop} {l : Nat} (hl : l < s.next) (h : VCalls P f args s (DropR s l R)) : VCalls P f args s R := by
  refine VCalls.drop (h.mono ?_)
  rintro v s' ⟨h1, cs, xs, rfl, h2, h3⟩
  refine ⟨h1, s.setVar l cs, h3, by simp, fun x hx => ⟨ext_vars_lt _ _ (by simpa using hx), ext_fams_lt _ _ (by simpa using hx)⟩, fun x c hx => ?_, fun id p hp => .inl hp⟩
  by_cases e : x = l
  · subst e
    rw [vars_setVar] at hx
    cases hx
    exact .inr ⟨hl, h2⟩
  · rw [vars_setVar_ne e] at hx
    exact .inl hx

end Go.Proofs.Ytejdgmdebfkkeaa
