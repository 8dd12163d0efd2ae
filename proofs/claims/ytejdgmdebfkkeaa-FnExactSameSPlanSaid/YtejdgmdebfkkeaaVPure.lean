/-
  Data at the value level: values that lead to no variable and to no slice that may be appended to; calls that only compute. Own work; no condition.
-/
import Derived.Test.YtejdgmdebfkkeaaVFun
namespace Go.Proofs.Ytejdgmdebfkkeaa
open Go

mutual
/-- No variable, no slice that may be appended to. -/
def V.dat : V → Bool
  | .agg cs => V.datL cs
  | .sl id xs => id == 0 && V.datL xs
  | .tup vs => V.datL vs
  | .fn _ cs => V.datL cs
  | .eptr cs _ => V.datL cs
  | .ptr _ _ => false
  | .slm _ _ _ _ => false
  | .int _ _ => true
  | .bool _ => true
  | .str _ => true
  | .nilp => true
  | .zsl => true
  | .nilsl => true
  | .und => true
  | .raw _ => true
def V.datL : List V → Bool
  | [] => true
  | v :: vs => V.dat v && V.datL vs
end

theorem V.datL_eq : ∀ vs : List V, V.datL vs = vs.all V.dat
  | [] => rfl
  | v :: vs => by simp [V.datL, V.datL_eq vs]

theorem V.dat_cells {v : V} (h : v.dat = true) : v.cells.all V.dat = true := by
  cases v <;> simp_all [V.dat, V.cells, V.datL_eq]

theorem V.dat_flat {xs : List V} (h : xs.all V.dat = true) : (V.flat xs).all V.dat = true := by
  rw [List.all_eq_true] at *
  intro c hc
  obtain ⟨x, hx, hcx⟩ := List.mem_flatMap.1 hc
  exact List.all_eq_true.1 (V.dat_cells (h x hx)) c hcx

/-- What a datum represents hangs on the world and on what is held for good alone. -/
theorem RepV.dat {E E' : Env} (hw : E'.w = E.w) (hi : E'.imm = E.imm) {v : V} {val : Value} (h : RepV E v val) (hd : v.dat = true) : RepV E' v val := by
  have hseg : ∀ {g off vals}, Seg E g off vals → Seg E' g off vals := fun h j v hj => by rw [hw, hi]; exact h j v hj
  refine RepV.rec (motive_1 := fun v val _ => v.dat = true → RepV E' v val) (motive_2 := fun vs vals _ => vs.all V.dat = true → RepL E' vs vals) ?_ ?_ ?_ ?_ ?_ ?_ ?_ ?_ ?_ ?_ ?_ ?_ ?_ ?_ ?_ ?_ ?_ ?_ h hd
  · intro k n a b _; exact .int a b
  · intro b _; exact .bool
  · intro s a _; exact .str a
  · intro cs vals _ a h; exact .agg (a (by simpa [V.dat, V.datL_eq] using h))
  · intro l off g a h; simp [V.dat] at h
  · intro cs vals g off k _ s a h; exact .eptr (a (by simpa [V.dat, V.datL_eq] using h)) (hseg s)
  · intro _; exact .nilp
  · intro id xs vals g off cap sz a b c _ s f r h
    simp only [V.dat, V.datL_eq, Bool.and_eq_true, beq_iff_eq] at h
    obtain ⟨rfl, h⟩ := h
    exact .sl a b c (r (V.dat_flat h)) (hseg s) (.inl rfl)
  · intro id a f h
    simp only [V.dat, V.datL_eq, Bool.and_eq_true, beq_iff_eq] at h
    obtain ⟨rfl, _⟩ := h
    exact .slz (.inl rfl)
  · intro a _; exact .zsl
  · intro _; exact .nilsl
  · intro ex l off len cap g a b c d h; simp [V.dat] at h
  · intro f caps vals _ a h; exact .fn (a (by simpa [V.dat, V.datL_eq] using h))
  · intro vs vals _ a h; exact .tup (a (by simpa [V.dat, V.datL_eq] using h))
  · intro _; exact .und
  · intro _ _; exact .raw
  · intro _; exact .nil
  · intro v vs val vals _ _ a b h
    simp only [List.all_cons, Bool.and_eq_true] at h
    exact .cons (a h.1) (b h.2)

theorem RepL.dat {E E' : Env} (hw : E'.w = E.w) (hi : E'.imm = E.imm) : ∀ {vs : List V} {vals : List Value}, RepL E vs vals → vs.all V.dat = true → RepL E' vs vals
  | _, _, .nil, _ => .nil
  | _, _, .cons h t, hd => by
    simp only [List.all_cons, Bool.and_eq_true] at hd
    exact .cons (h.dat hw hi hd.1) (RepL.dat hw hi t hd.2)

mutual
/-- All variables and slices that it names come before n. -/
def V.under (n : Nat) : V → Bool
  | .agg cs => V.underL n cs
  | .sl id xs => (id == 0 || decide (id < n)) && V.underL n xs
  | .tup vs => V.underL n vs
  | .fn _ cs => V.underL n cs
  | .eptr cs _ => V.underL n cs
  | .ptr l _ => decide (l < n)
  | .slm _ l _ _ => decide (l < n)
  | .int _ _ => true
  | .bool _ => true
  | .str _ => true
  | .nilp => true
  | .zsl => true
  | .nilsl => true
  | .und => true
  | .raw _ => true
def V.underL (n : Nat) : List V → Bool
  | [] => true
  | v :: vs => V.under n v && V.underL n vs
end

theorem V.underL_eq (n : Nat) : ∀ vs : List V, V.underL n vs = vs.all (V.under n)
  | [] => rfl
  | v :: vs => by simp [V.underL, V.underL_eq n vs]

theorem V.under_cells {n : Nat} (v : V) : v.cells.all (V.under n) = v.under n := by
  cases v <;> simp [V.under, V.cells, V.underL_eq]

theorem V.under_flat {n : Nat} (xs : List V) : (V.flat xs).all (V.under n) = xs.all (V.under n) := by
  induction xs with
  | nil => rfl
  | cons x xs ih =>
    have e : V.flat (x :: xs) = x.cells ++ V.flat xs := by simp [V.flat]
    rw [e, List.all_append, ih, V.under_cells]
    rfl

theorem RepV.isBelow {E : Env} {n : Nat} (hl : ∀ l, n ≤ l → E.loc l = none) (hf : ∀ l, n ≤ l → E.fam l = none) {v : V} {val : Value} (h : RepV E v val) : v.under n = true := by
  have hl' : ∀ l g, E.loc l = some g → l < n := fun l g h => by
    rcases Nat.lt_or_ge l n with h' | h'
    · exact h'
    · rw [hl l h'] at h; cases h
  have hf' : ∀ l g, E.fam l = some g → l < n := fun l g h => by
    rcases Nat.lt_or_ge l n with h' | h'
    · exact h'
    · rw [hf l h'] at h; cases h
  refine RepV.rec (motive_1 := fun v _ _ => v.under n = true) (motive_2 := fun vs _ _ => vs.all (V.under n) = true) ?_ ?_ ?_ ?_ ?_ ?_ ?_ ?_ ?_ ?_ ?_ ?_ ?_ ?_ ?_ ?_ ?_ ?_ h
  · intro k n a b; rfl
  · intro b; rfl
  · intro s a; rfl
  · intro cs vals _ a; simpa [V.under, V.underL_eq] using a
  · intro l off g a; simpa [V.under] using hl' l g a
  · intro cs vals g off k _ s a; simpa [V.under, V.underL_eq] using a
  · rfl
  · intro id xs vals g off cap sz a b c _ s f r
    rw [V.under_flat] at r
    simp only [V.under, V.underL_eq, r, Bool.and_true, Bool.or_eq_true, beq_iff_eq, decide_eq_true_eq]
    rcases f with f | ⟨F, hF, _⟩
    · exact .inl f
    · exact .inr (hf' id F hF)
  · intro id a f
    simp only [V.under, V.underL_eq, List.all_nil, Bool.and_true, Bool.or_eq_true, beq_iff_eq, decide_eq_true_eq]
    rcases f with f | ⟨F, hF, _⟩
    · exact .inl f
    · exact .inr (hf' id F hF)
  · intro a; rfl
  · rfl
  · intro ex l off len cap g a b c d; simpa [V.under] using hl' l g a
  · intro f caps vals _ a; simpa [V.under, V.underL_eq] using a
  · intro vs vals _ a; simpa [V.under, V.underL_eq] using a
  · rfl
  · intro _; rfl
  · rfl
  · intro v vs val vals _ _ a b; simp [a, b]

theorem RepL.isBelow {E : Env} {n : Nat} (hl : ∀ l, n ≤ l → E.loc l = none) (hf : ∀ l, n ≤ l → E.fam l = none) : ∀ {vs : List V} {vals : List Value}, RepL E vs vals → vs.all (V.under n) = true
  | _, _, .nil => rfl
  | _, _, .cons h t => by simp [h.isBelow hl hf, RepL.isBelow hl hf t]

theorem RepV.restrict {E E' : Env} {n : Nat} (hw : E'.w = E.w) (hi : E'.imm = E.imm) (hl : ∀ l, l < n → E'.loc l = E.loc l) (hf : ∀ l, l < n → E'.fam l = E.fam l) {v : V} {val : Value} (h : RepV E v val) (hd : v.under n = true) : RepV E' v val := by
  have hseg : ∀ {g off vals}, Seg E g off vals → Seg E' g off vals := fun h j v hj => by rw [hw, hi]; exact h j v hj
  refine RepV.rec (motive_1 := fun v val _ => v.under n = true → RepV E' v val) (motive_2 := fun vs vals _ => vs.all (V.under n) = true → RepL E' vs vals) ?_ ?_ ?_ ?_ ?_ ?_ ?_ ?_ ?_ ?_ ?_ ?_ ?_ ?_ ?_ ?_ ?_ ?_ h hd
  · intro k n a b _; exact .int a b
  · intro b _; exact .bool
  · intro s a _; exact .str a
  · intro cs vals _ a h; exact .agg (a (by simpa [V.under, V.underL_eq] using h))
  · intro l off g a h; exact .ptr ((hl l (by simpa [V.under] using h)).trans a)
  · intro cs vals g off k _ s a h; exact .eptr (a (by simpa [V.under, V.underL_eq] using h)) (hseg s)
  · intro _; exact .nilp
  · intro id xs vals g off cap sz a b c _ s f r h
    simp only [V.under, V.underL_eq, Bool.and_eq_true, Bool.or_eq_true, beq_iff_eq, decide_eq_true_eq] at h
    refine .sl a b c (r (by rw [V.under_flat]; exact h.2)) (hseg s) ?_
    rcases f with f | ⟨F, hF, hh⟩
    · exact .inl f
    · rcases h.1 with h1 | h1
      · exact .inl h1
      · exact .inr ⟨F, (hf id h1).trans hF, hh⟩
  · intro id a f h
    simp only [V.under, V.underL_eq, Bool.and_eq_true, Bool.or_eq_true, beq_iff_eq, decide_eq_true_eq] at h
    refine .slz ?_
    rcases f with f | ⟨F, hF, hh⟩
    · exact .inl f
    · rcases h.1 with h1 | h1
      · exact .inl h1
      · exact .inr ⟨F, (hf id h1).trans hF, hh⟩
  · intro a _; exact .zsl
  · intro _; exact .nilsl
  · intro ex l off len cap g a b c d h; exact .slm ((hl l (by simpa [V.under] using h)).trans a) b c d
  · intro f caps vals _ a h; exact .fn (a (by simpa [V.under, V.underL_eq] using h))
  · intro vs vals _ a h; exact .tup (a (by simpa [V.under, V.underL_eq] using h))
  · intro _; exact .und
  · intro _ _; exact .raw
  · intro _; exact .nil
  · intro v vs val vals _ _ a b h
    simp only [List.all_cons, Bool.and_eq_true] at h
    exact .cons (a h.1) (b h.2)

theorem RepL.restrict {E E' : Env} {n : Nat} (hw : E'.w = E.w) (hi : E'.imm = E.imm) (hl : ∀ l, l < n → E'.loc l = E.loc l) (hf : ∀ l, l < n → E'.fam l = E.fam l) : ∀ {vs : List V} {vals : List Value}, RepL E vs vals → vs.all (V.under n) = true → RepL E' vs vals
  | _, _, .nil, _ => .nil
  | _, _, .cons h t, hd => by
    simp only [List.all_cons, Bool.and_eq_true] at hd
    exact .cons (h.restrict hw hi hl hf hd.1) (RepL.restrict hw hi hl hf t hd.2)

theorem RelS.none_of_le {E : Env} {s : S} (h : RelS E s) {l : Nat} (hl : s.next ≤ l) : s.vars l = none ∧ s.fams l = none := by
  have hf := h.fresh l hl
  constructor
  · cases hc : s.vars l with
    | none => rfl
    | some cs => obtain ⟨g, arr, e, fr, h1, _⟩ := h.var _ _ hc; rw [hf.1] at h1; cases h1
  · cases hc : s.fams l with
    | none => rfl
    | some p => obtain ⟨_, F, h1, _⟩ := h.fam _ p.1 p.2 hc; rw [hf.2] at h1; cases h1

/-- A call that only computes: what it made of its own is forgotten behind it. -/
theorem VCalls.pure {P : Program} {f : FuncId} {args : List V} {s : S} {d : V} (hd : d.dat = true)
    (h : VCalls P f args s (fun v s' => v.forget = d ∧ (∀ l, l < s.next → s'.vars l = s.vars l) ∧ (∀ l, l < s.next → s'.fams l = s.fams l))) : VCalls P f args s (fun v s' => v = d ∧ s' = s) := by
  intro E vals h1 h2
  refine (h E vals h1 h2).mono fun e w' ⟨E1, v, val, s', a, b, ⟨c1, c2, c3⟩, k, r, st⟩ => ?_
  let E' : Env := { w := E1.w, imm := E1.imm, loc := fun l => if l < s.next then E1.loc l else none, fam := fun l => if l < s.next then E1.fam l else none }
  have hrep : RepV E' d val := by
    have := r.forget
    rw [c1] at this
    exact this.dat (E := E1) (E' := E') rfl rfl hd
  have hlt : ∀ l, (s.vars l).isSome = true → l < s.next := fun l hl => by
    rcases Nat.lt_or_ge l s.next with h | h
    · exact h
    · rw [(h1.none_of_le h).1] at hl; cases hl
  have hltf : ∀ l, (s.fams l).isSome = true → l < s.next := fun l hl => by
    rcases Nat.lt_or_ge l s.next with h | h
    · exact h
    · rw [(h1.none_of_le h).2] at hl; cases hl
  have hloc : ∀ l, l < s.next → E'.loc l = E1.loc l := fun l hl => by show (if l < s.next then E1.loc l else none) = _; rw [if_pos hl]
  have hfam : ∀ l, l < s.next → E'.fam l = E1.fam l := fun l hl => by show (if l < s.next then E1.fam l else none) = _; rw [if_pos hl]
  have hlt2 : ∀ l g, E.loc l = some g → l < s.next := fun l g hl => by
    rcases Nat.lt_or_ge l s.next with h | h
    · exact h
    · rw [(h1.fresh l h).1] at hl; cases hl
  have hltf2 : ∀ l F, E.fam l = some F → l < s.next := fun l g hl => by
    rcases Nat.lt_or_ge l s.next with h | h
    · exact h
    · rw [(h1.fresh l h).2] at hl; cases hl
  have ev : Evolve E E' := ⟨st.ev.imm, st.ev.cell, fun l g hl => (hloc l (hlt2 l g hl)).trans (st.ev.loc l g hl), fun id F hF => by rw [hfam id (hltf2 id F hF)]; exact st.ev.fam id F hF⟩
  have hvs : ∀ l, (s.vars l).isSome = true → (s'.vars l).isSome = true := fun l hl => by rw [c2 l (hlt l hl)]; exact hl
  have hfs : ∀ l, (s.fams l).isSome = true → (s'.fams l).isSome = true := fun l hl => by rw [c3 l (hltf l hl)]; exact hl
  refine ⟨E', d, val, s, a, b, ⟨rfl, rfl⟩, ⟨fun l cs hl => ?_, fun l l' g hl hl' hg hg' => ?_, fun id n sz hid => ?_, fun id id' F F' g hid hid' hF hF' => ?_, fun l g id F hl hg hid hF => ?_, fun l hl => ?_, h1.pos, k.imm⟩, hrep,
    ⟨ev, st.os, st.tape, st.output, st.size, st.block, fun q hq ht => st.track q hq ?_, Nat.le_refl _⟩⟩
  · have hl0 := hlt l (by rw [hl]; rfl)
    obtain ⟨g0, arr0, e0, fr0, m1, m2⟩ := h1.var l cs hl
    have hbel := m2.rep.isBelow (n := s.next) (fun l hl => (h1.fresh l hl).1) (fun l hl => (h1.fresh l hl).2)
    obtain ⟨g, arr, e, fr, m3, m4⟩ := k.var l cs ((c2 l hl0).trans hl)
    exact ⟨g, arr, e, fr, (hloc l hl0).trans m3, ⟨m4.heap, RepL.restrict (E := E1) (E' := E') rfl rfl hloc hfam m4.rep hbel, m4.le, m4.free, m4.imm⟩⟩
  · rw [hloc l (hlt l hl)] at hg
    rw [hloc l' (hlt l' hl')] at hg'
    exact k.varinj l l' g (hvs l hl) (hvs l' hl') hg hg'
  · have hid0 := hltf id (by rw [hid]; rfl)
    obtain ⟨h00, F, m1, m2⟩ := k.fam id n sz ((c3 id hid0).trans hid)
    exact ⟨h00, F, (hfam id hid0).trans m1, m2⟩
  · rw [hfam id (hltf id hid)] at hF
    rw [hfam id' (hltf id' hid')] at hF'
    exact k.faminj id id' F F' g (hfs id hid) (hfs id' hid') hF hF'
  · rw [hloc l (hlt l hl)] at hg
    rw [hfam id (hltf id hid)] at hF
    exact k.famvar l g id F (hvs l hl) hg (hfs id hid) hF
  · constructor
    · show (if l < s.next then E1.loc l else none) = none
      rw [if_neg (by omega)]
    · show (if l < s.next then E1.fam l else none) = none
      rw [if_neg (by omega)]
  · rcases ht with ⟨l, hl, hg⟩ | ⟨id, F, hl, hF, hg⟩
    · rw [hloc l (hlt l hl)] at hg
      exact .inl ⟨l, hvs l hl, hg⟩
    · rw [hfam id (hltf id hl)] at hF
      exact .inr ⟨id, F, hfs id hl, hF, hg⟩

end Go.Proofs.Ytejdgmdebfkkeaa
