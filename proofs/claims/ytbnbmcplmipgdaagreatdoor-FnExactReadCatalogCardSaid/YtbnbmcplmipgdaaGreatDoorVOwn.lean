/-
  Results made of new memory alone: what they look like in the world, and calls that lend their arguments.
  Data in variables: how many, that they read as the data, and calls on them.
  Data in variables, written over cell by cell: what is written, and the rules of the loop that does it.
  Behind a call that marked variables, what it made of its own is forgotten.
  Made slices as results of new memory.
  What answers new memory, seen as plain; marks of what is held by value.
  Own work; no condition.
-/
import Derived.Test.YtbnbmcplmipgdaaGreatDoorMg10
namespace Go.Proofs.YtbnbmcplmipgdaaGreatDoor
open Go
theorem flat_cons (y : V) (ys : List V) : V.flat (y :: ys) = y.cells ++ V.flat ys := by simp [V.flat]
theorem thwL_append : ∀ (a b : List V) (n : Nat), thwL n (a ++ b) = ((thwL n a).1 ++ (thwL (n + (thwL n a).2.length) b).1, (thwL n a).2 ++ (thwL (n + (thwL n a).2.length) b).2)
  | [], b, n => by simp [thwL]
  | x :: a, b, n => by
    simp only [List.cons_append, thwL, thwL_append a b]
    simp only [List.length_append, Nat.add_assoc, List.append_assoc]
theorem thw_cells' (x : V) (n : Nat) : (thw n x).1.cells = (thwL n x.cells).1 ∧ (thw n x).2 = (thwL n x.cells).2 := by
  have one : ∀ y : V, (thw n y).1.cells = [(thw n y).1] → y.cells = [y] → (thw n y).1.cells = (thwL n y.cells).1 ∧ (thw n y).2 = (thwL n y.cells).2 := fun y h1 h2 => by
    rw [h2, h1]
    simp [thwL]
  cases x with
  | agg cs => exact ⟨rfl, rfl⟩
  | raw v =>
    have : ∀ l : List Value, thwL n (l.map V.raw) = (l.map V.raw, []) := by
      intro l
      clear one
      induction l with
      | nil => rfl
      | cons a l ih =>
        simp only [List.map_cons, thwL, thw, List.length_nil, Nat.add_zero, ih, List.append_nil]
    simp only [thw, V.cells, this, and_self]
  | sl id xs =>
    refine one _ ?_ rfl
    unfold thw
    cases xs.isEmpty <;> rfl
  | _ => exact one _ rfl rfl
theorem thwL_flat' : ∀ (xs : List V) (n : Nat), V.flat (thwL n xs).1 = (thwL n (V.flat xs)).1 ∧ (thwL n xs).2 = (thwL n (V.flat xs)).2
  | [], n => ⟨rfl, rfl⟩
  | x :: xs, n => by
    obtain ⟨h1, h2⟩ := thw_cells' x n
    obtain ⟨h3, h4⟩ := thwL_flat' xs (n + (thw n x).2.length)
    rw [flat_cons, thwL_append]
    simp only [thwL, flat_cons]
    rw [h3, h4, h1, h2]
    exact ⟨rfl, rfl⟩
/-! ### In the world -/
mutual
/-- The value reads as d, and its slices lie each in a block of its own, the inner ones first. -/
inductive WT (w : World) : V → Value → List Nat → Prop
  | int {k n} : k.min ≤ n → n ≤ k.max → WT w (.int k n) (.int k n) []
  | bool {b} : WT w (.bool b) (.bool b) []
  | str {s} : s.length ≤ maxLen → WT w (.str s) (.string ⟨s.toArray⟩) []
  | nilp : WT w .nilp (.pointer none) []
  | und : WT w .und undef []
  | emp0 {a} : WT w (.sl 0 []) (.slice a 0 0) []
  | emp {g off cap} : cap ≤ maxLen → WT w (.sl 0 []) (.slice (some ⟨g, off, none⟩) 0 cap) []
  | sl {ds sz g cap arr e fr gs} : ds.isEmpty = false → (∀ x ∈ ds, x.cells.length = sz) → ds.length ≤ cap → cap ≤ maxLen → w.heap[g]? = some (.cells arr e fr) → (V.flat ds).length ≤ arr.size →
      (∀ o, o < (V.flat ds).length → ¬ (fr.1 ≤ o ∧ o < fr.2)) → WTL w (V.flat ds) (arr.toList.take (V.flat ds).length) gs → WT w (.sl 0 ds) (.slice (some ⟨g, 0, none⟩) ds.length cap) (gs ++ [g])
  | agg {cs vals gs} : WTL w cs vals gs → WT w (.agg cs) (.agg vals.toArray) gs
  | tup {cs vals gs} : WTL w cs vals gs → WT w (.tup cs) (.tuple vals.toArray) gs
inductive WTL (w : World) : List V → List Value → List Nat → Prop
  | nil : WTL w [] [] []
  | cons {d ds val vals a b} : WT w d val a → WTL w ds vals b → WTL w (d :: ds) (val :: vals) (a ++ b)
end
def VarIs (w : World) (E3 : Env) (g : Nat) (cs : List V) : Prop := ∃ arr e fr, w.heap[g]? = some (.cells arr e fr) ∧ RepL E3 cs (arr.toList.take cs.length) ∧ cs.length ≤ arr.size ∧ ∀ o, o < cs.length → ¬ (fr.1 ≤ o ∧ o < fr.2)
def Placed (E3 : Env) (n : Nat) (gs : List Nat) : Prop := ∀ j g, gs[j]? = some g → E3.loc (n + j) = some g
theorem Placed.left {E3 : Env} {n : Nat} {a b : List Nat} (h : Placed E3 n (a ++ b)) : Placed E3 n a := fun j g hj => h j g (by
  rw [List.getElem?_append_left (List.getElem?_eq_some_iff.1 hj).1]; exact hj)
theorem Placed.right {E3 : Env} {n : Nat} {a b : List Nat} (h : Placed E3 n (a ++ b)) : Placed E3 (n + a.length) b := fun j g hj => by
  have := h (a.length + j) g (by rw [List.getElem?_append_right (by omega), Nat.add_sub_cancel_left]; exact hj)
  rw [Nat.add_assoc]; exact this
def VarsAre (w : World) (E3 : Env) (gs : List Nat) (os : List (Nat × List V)) : Prop := ∀ (j g : Nat) (p : Nat × List V), gs[j]? = some g → os[j]? = some p → VarIs w E3 g p.2
theorem VarsAre.append {w : World} {E3 : Env} {a b : List Nat} {oa ob : List (Nat × List V)} (hl : oa.length = a.length) (h1 : VarsAre w E3 a oa) (h2 : VarsAre w E3 b ob) : VarsAre w E3 (a ++ b) (oa ++ ob) := by
  intro j g p hg hp
  by_cases h : j < a.length
  · rw [List.getElem?_append_left h] at hg
    rw [List.getElem?_append_left (by omega)] at hp
    exact h1 j g p hg hp
  · rw [List.getElem?_append_right (by omega)] at hg
    rw [List.getElem?_append_right (by omega), hl] at hp
    exact h2 _ g p hg hp
mutual
theorem WT.place {w : World} {E3 : Env} : ∀ {d : V} {val : Value} {gs : List Nat}, WT w d val gs → ∀ n, Placed E3 n gs → RepV E3 (thw n d).1 val ∧ (thw n d).2.length = gs.length ∧ VarsAre w E3 gs (thw n d).2
  | _, _, _, .int a b, n, _ => ⟨.int a b, rfl, fun j g p h => by simp at h⟩
  | _, _, _, .bool, n, _ => ⟨.bool, rfl, fun j g p h => by simp at h⟩
  | _, _, _, .str a, n, _ => ⟨.str a, rfl, fun j g p h => by simp at h⟩
  | _, _, _, .nilp, n, _ => ⟨.nilp, rfl, fun j g p h => by simp at h⟩
  | _, _, _, .und, n, _ => ⟨.und, rfl, fun j g p h => by simp at h⟩
  | _, _, _, .emp0, n, _ => ⟨.slz (.inl rfl), rfl, fun j g p h => by simp at h⟩
  | _, _, _, .emp (g := g) (off := off) a, n, _ => ⟨RepV.sl (xs := []) (vals := []) (sz := 0) (by simp) (by simp) a .nil (fun j v hj => by simp at hj) (.inl rfl), rfl, fun j g p h => by simp at h⟩
  | _, _, _, .agg (cs := cs) h, n, hp => by
    obtain ⟨a, b, c⟩ := WTL.place h n hp
    exact ⟨.agg a, b, c⟩
  | _, _, _, .tup h, n, hp => by
    obtain ⟨a, b, c⟩ := WTL.place h n hp
    exact ⟨.tup a, b, c⟩
  | _, _, _, .sl (ds := ds) (sz := sz) (g := g) (arr := arr) (e := e) (fr := fr) (gs := gs) h1 h2 h3 h4 h5 h6 h7 h8, n, hp => by
    obtain ⟨a, b, c⟩ := WTL.place h8 n hp.left
    obtain ⟨f1, f2⟩ := thwL_flat' ds n
    have hth : thw n (.sl 0 ds) = (.slm .un (n + gs.length) 0 ds.length, (thwL n (V.flat ds)).2 ++ [(0, (thwL n (V.flat ds)).1)]) := by
      unfold thw
      rw [h1]
      simp only [Bool.false_eq_true, if_false, f1, f2, b]
    rw [hth]
    refine ⟨.slm (hp.right 0 g rfl) h3 h4 trivial, by simp [b], VarsAre.append b c fun j g' p hg hpp => ?_⟩
    cases j with
    | succ j => simp at hg
    | zero =>
      simp only [List.getElem?_cons_zero, Option.some.injEq] at hg hpp
      subst hg hpp
      simp only
      refine ⟨arr, e, fr, h5, ?_, by rw [thwL_len]; exact h6, fun o ho => h7 o (by rw [thwL_len] at ho; exact ho)⟩
      rw [thwL_len]
      exact a
theorem WTL.place {w : World} {E3 : Env} : ∀ {ds : List V} {vals : List Value} {gs : List Nat}, WTL w ds vals gs → ∀ n, Placed E3 n gs → RepL E3 (thwL n ds).1 vals ∧ (thwL n ds).2.length = gs.length ∧ VarsAre w E3 gs (thwL n ds).2
  | _, _, _, .nil, n, _ => ⟨.nil, rfl, fun j g p h => by simp at h⟩
  | _, _, _, .cons (a := a) (b := b) h t, n, hp => by
    obtain ⟨a1, b1, c1⟩ := WT.place h n hp.left
    obtain ⟨a2, b2, c2⟩ := WTL.place t (n + a.length) hp.right
    simp only [thwL]
    rw [b1]
    exact ⟨.cons a1 a2, by simp [b1, b2], VarsAre.append b1 c1 c2⟩
end
/-! ### In a state -/
mutual
/-- The value reads as d, and its slices are new ones: each a whole slice that may be appended to, or a variable. -/
inductive Tr (t : S) : V → V → List (Bool × Nat) → Prop
  | scal {v} : v.scal = true → Tr t v v []
  | zsl : Tr t .zsl (.sl 0 []) []
  | nilsl : Tr t .nilsl (.sl 0 []) []
  | emp {id} : Tr t (.sl id []) (.sl 0 []) []
  | emp' {ex l o} : Tr t (.slm ex l o 0) (.sl 0 []) []
  | sl {id us ds sz sz' ls} : us.isEmpty = false → us.length = ds.length → (∀ x ∈ ds, x.cells.length = sz') → t.fams id = some (us.length, sz) → TrL t (V.flat us) (V.flat ds) ls → Tr t (.sl id us) (.sl 0 ds) (ls ++ [(false, id)])
  | slm {ex l n us ds sz' ls} : ds.isEmpty = false → n = ds.length → (∀ x ∈ ds, x.cells.length = sz') → t.vars l = some us → TrL t us (V.flat ds) ls → Tr t (.slm ex l 0 n) (.sl 0 ds) (ls ++ [(true, l)])
  | agg {cs ds ls} : TrL t cs ds ls → Tr t (.agg cs) (.agg ds) ls
  | tup {cs ds ls} : TrL t cs ds ls → Tr t (.tup cs) (.tup ds) ls
inductive TrL (t : S) : List V → List V → List (Bool × Nat) → Prop
  | nil : TrL t [] [] []
  | cons {v vs d ds a b} : Tr t v d a → TrL t vs ds b → TrL t (v :: vs) (d :: ds) (a ++ b)
end
/-- Where a new slice lies. -/
def Lies (E : Env) (t : S) (p : Bool × Nat) (g : Nat) : Prop :=
  (p.1 = true ∧ (t.vars p.2).isSome = true ∧ E.loc p.2 = some g) ∨ (p.1 = false ∧ (t.fams p.2).isSome = true ∧ ∃ F, E.fam p.2 = some F ∧ F.blk = some g)
inductive LiesL (E : Env) (t : S) : List (Bool × Nat) → List Nat → Prop
  | nil : LiesL E t [] []
  | cons {p ps g gs} : Lies E t p g → LiesL E t ps gs → LiesL E t (p :: ps) (g :: gs)
theorem LiesL.append {E : Env} {t : S} : ∀ {a : List (Bool × Nat)} {ga : List Nat} {b : List (Bool × Nat)} {gb : List Nat}, LiesL E t a ga → LiesL E t b gb → LiesL E t (a ++ b) (ga ++ gb)
  | _, _, _, _, .nil, k => k
  | _, _, _, _, .cons h r, k => .cons h (r.append k)
theorem Lies.inj {E : Env} {t : S} (hr : RelS E t) {p q : Bool × Nat} {g : Nat} (h : Lies E t p g) (k : Lies E t q g) : p = q := by
  obtain ⟨b, l⟩ := p
  obtain ⟨b', l'⟩ := q
  rcases h with ⟨rfl, h2, h3⟩ | ⟨rfl, h2, F, h3, h4⟩ <;> rcases k with ⟨rfl, k2, k3⟩ | ⟨rfl, k2, F', k3, k4⟩
  · simp only at h2 h3 k2 k3
    rw [hr.varinj l l' g h2 k2 h3 k3]
  · exact (hr.famvar l g l' F' h2 h3 k2 k3 k4).elim
  · exact (hr.famvar l' g l F k2 k3 h2 h3 h4).elim
  · simp only at h2 h3 k2 k3
    rw [hr.faminj l l' F F' g h2 k2 h3 k3 h4 k4]
theorem LiesL.mem {E : Env} {t : S} : ∀ {ps : List (Bool × Nat)} {gs : List Nat}, LiesL E t ps gs → ∀ {g}, g ∈ gs → ∃ p ∈ ps, Lies E t p g
  | _, _, .nil, g, h => by cases h
  | _, _, .cons h r, g, hg => by
    rcases List.mem_cons.1 hg with rfl | hg
    · exact ⟨_, by simp, h⟩
    · obtain ⟨p, hp, h2⟩ := LiesL.mem r hg
      exact ⟨p, by simp [hp], h2⟩
theorem LiesL.nodup {E : Env} {t : S} (hr : RelS E t) : ∀ {ps : List (Bool × Nat)} {gs : List Nat}, LiesL E t ps gs → ps.Nodup → gs.Nodup
  | _, _, .nil, _ => List.nodup_nil
  | _, _, .cons h r, hn => by
    rw [List.nodup_cons] at hn ⊢
    refine ⟨fun hg => ?_, LiesL.nodup hr r hn.2⟩
    obtain ⟨q, hq, h2⟩ := r.mem hg
    exact hn.1 (Lies.inj hr h h2 ▸ hq)
theorem TrL.len {t : S} : ∀ {vs ds : List V} {ls : List (Bool × Nat)}, TrL t vs ds ls → ds.length = vs.length
  | _, _, _, .nil => rfl
  | _, _, _, .cons _ r => by simp [TrL.len r]
mutual
theorem Tr.world {E : Env} {t : S} (hr : RelS E t) : ∀ {v d : V} {ls : List (Bool × Nat)}, Tr t v d ls → ∀ {val : Value}, RepV E v val → ∃ gs, WT E.w d val gs ∧ LiesL E t ls gs
  | _, _, _, .scal h, val, k => by
    refine ⟨[], ?_, .nil⟩
    cases k with
    | int a b => exact .int a b
    | bool => exact .bool
    | str a => exact .str a
    | nilp => exact .nilp
    | und => exact .und
    | _ => cases h
  | _, _, _, .zsl, val, k => by cases k with | zsl => exact ⟨[], .emp0, .nil⟩
  | _, _, _, .nilsl, val, k => by cases k with | nilsl => exact ⟨[], .emp0, .nil⟩
  | _, _, _, .emp, val, k => by
    cases k with
    | sl a b c r sg f => exact ⟨[], .emp c, .nil⟩
    | slz f => exact ⟨[], .emp0, .nil⟩
  | _, _, _, .emp', val, k => by cases k with
    | slm a b c d => exact ⟨[], .emp c, .nil⟩
    | slm0 => exact ⟨[], .emp0, .nil⟩
  | _, _, _, .sl (us := us) (ds := ds) h1 h2 h3 h4 h5, val, k => by
    obtain ⟨F, g, vals, sz, a1, a2, a3, rfl, a5, a6, ha, hrl, hsg, arr, e, fr, k1, k2, k3⟩ := whole_sl hr k h1 ⟨_, h4⟩
    obtain ⟨gs, m1, m2⟩ := TrL.world hr h5 hrl
    have hfl := flat_uniform ha
    have hcap : us.length * sz ≤ F.cap * sz := Nat.mul_le_mul_right _ a5
    have hfl2 : (V.flat us).length = us.length * sz := hfl
    have hvl := hrl.length
    have hdl := h5.len
    have hst := seg_take hsg k1
    rw [h2]
    refine ⟨gs ++ [g], .sl (by cases ds with | nil => (have : us = [] := List.length_eq_zero_iff.1 h2); rw [this] at h1; exact h1 | cons _ _ => rfl) h3 (by omega) a6 k1 (by omega) (fun o ho => k3 o (by omega)) ?_, m2.append (.cons (.inr ⟨rfl, by simp only; rw [h4]; rfl, F, a1, a2⟩) .nil)⟩
    rw [hdl, ← hvl, hst]
    exact m1
  | _, _, _, .slm (l := l) (us := us) (ds := ds) h1 h2 h3 h4 h5, val, k => by
    cases k with
    | slm0 => rw [List.length_eq_zero_iff.1 h2.symm] at h1; cases h1
    | @slm _ _ _ _ cap g hg hle hmx hex =>
      subst h2
      obtain ⟨g', arr, e, fr, a1, a2⟩ := hr.var _ _ h4
      rw [hg] at a1
      cases a1
      obtain ⟨gs, m1, m2⟩ := TrL.world hr h5 a2.rep
      have hdl := h5.len
      have hle2 := a2.le
      refine ⟨gs ++ [g], .sl h1 h3 hle hmx a2.heap (by omega) (fun o ho => a2.free o (by omega)) ?_, m2.append (.cons (.inl ⟨rfl, by simp only; rw [h4]; rfl, hg⟩) .nil)⟩
      rw [hdl]
      exact m1
  | _, _, _, .agg h, val, k => by
    cases k with
    | agg r =>
      obtain ⟨gs, a, b⟩ := TrL.world hr h r
      exact ⟨gs, .agg a, b⟩
  | _, _, _, .tup h, val, k => by
    cases k with
    | tup r =>
      obtain ⟨gs, a, b⟩ := TrL.world hr h r
      exact ⟨gs, .tup a, b⟩
theorem TrL.world {E : Env} {t : S} (hr : RelS E t) : ∀ {vs ds : List V} {ls : List (Bool × Nat)}, TrL t vs ds ls → ∀ {vals : List Value}, RepL E vs vals → ∃ gs, WTL E.w ds vals gs ∧ LiesL E t ls gs
  | _, _, _, .nil, vals, k => by cases k; exact ⟨[], .nil, .nil⟩
  | _, _, _, .cons h r, vals, k => by
    cases k with
    | cons k1 k2 =>
      obtain ⟨ga, a1, a2⟩ := Tr.world hr h k1
      obtain ⟨gb, b1, b2⟩ := TrL.world hr r k2
      exact ⟨ga ++ gb, .cons a1 b1, a2.append b2⟩
end
/-- A result of new memory alone. -/
def Own2 (d v : V) (t : S) : Prop := ∃ ls, Tr t v d ls ∧ ls.Nodup
/-- A CALL ON ARGUMENTS IN VARIABLES, OF ONE THAT ONLY READS PLAIN DATA AND ANSWERS NEW MEMORY ALONE. -/
theorem VCalls.lend2 {P : Program} {f : FuncId} {vs ds : List V} {s : S} {d : V} (hrd : RdL s vs ds) (h : ∀ t, VCalls P f ds t (fun v t' => Own2 d v t')) :
    VCalls P f vs s (fun v s' => v = (thw s.next d).1 ∧ s' = s.ext (thawed s.next d)) := by
  intro E vals h1 h2
  let t : S := { vars := fun _ => none, fams := fun _ => none, next := s.next }
  have ht : RelS (lentEnv E s) t := by
    refine ⟨⟨fun l cs hl => (by cases hl), fun l l' g hl => (by cases hl), fun id n sz hid => (by cases hid), fun id id' F F' g hid => (by cases hid), fun l g id F hl => (by cases hl), h1.fresh, h1.pos, fun g o i => ?_⟩, h1.tab.less rfl (by rintro k (⟨l, hl, _⟩ | ⟨id, F, hl, _⟩) <;> cases hl)⟩
    rcases i with i | ⟨l, cs, hv, hg, ho⟩
    · exact h1.imm g o i
    · obtain ⟨g', arr, e, fr, k1, k2⟩ := h1.var l cs hv
      rw [hg] at k1
      cases k1
      have := k2.le
      exact ⟨arr[o]'(by omega), by show E.w.cell? _ = _; rw [cell_of_row E.w _ _ arr e fr k2.heap]; simp⟩
  have hnt : ∀ k, ¬ Tracked (lentEnv E s) t k := by
    rintro k (⟨l, hl, _⟩ | ⟨id, F, hl, _⟩) <;> cases hl
  refine (h t (lentEnv E s) vals ht (RdL.rep h1 hrd h2)).mono ?_
  rintro e w' ⟨E2, v, val, t', rfl, rfl, ⟨ls, ow1, ow2⟩, k, r, st⟩
  obtain ⟨gs, wt, li⟩ := Tr.world k ow1 r
  have hnd := li.nodup k ow2
  have hsame : ∀ b, b < E.w.heap.size → E2.w.heap[b]? = E.w.heap[b]? := fun b hb => st.block b hb (hnt b)
  have hfresh : ∀ g, g ∈ gs → E.w.heap.size ≤ g := by
    intro g hg
    obtain ⟨p, _, hp⟩ := li.mem hg
    rcases Nat.lt_or_ge g E.w.heap.size with hlt | hge
    · refine (hnt g (st.track g hlt ?_)).elim
      rcases hp with ⟨_, a, b⟩ | ⟨_, a, F, b, c⟩
      · exact .inl ⟨_, a, b⟩
      · exact .inr ⟨_, F, a, b, c⟩
    · exact hge
  let os := (thw s.next d).2
  let E3 : Env := { w := E2.w, imm := E.imm, loc := fun l => if l < s.next then E.loc l else gs[l - s.next]?, fam := fun l => if l < s.next then E.fam l else none }
  have hE3l : ∀ l, l < s.next → E3.loc l = E.loc l := fun l hl => by show (if l < s.next then E.loc l else _) = _; rw [if_pos hl]
  have hE3n : ∀ j, E3.loc (s.next + j) = gs[j]? := fun j => by
    show (if s.next + j < s.next then E.loc (s.next + j) else _) = _
    rw [if_neg (by omega), Nat.add_sub_cancel_left]
  have hE3f : ∀ l, l < s.next → E3.fam l = E.fam l := fun l hl => by show (if l < s.next then E.fam l else none) = _; rw [if_pos hl]
  obtain ⟨hrep, hlen, hvar⟩ := wt.place (E3 := E3) s.next fun j g hj => by rw [hE3n, hj]
  have hlt : ∀ l, (s.vars l).isSome = true → l < s.next := fun l hl => by
    rcases Nat.lt_or_ge l s.next with h | h
    · exact h
    · rw [(h1.none_of_le h).1] at hl; cases hl
  have hltf : ∀ l, (s.fams l).isSome = true → l < s.next := fun l hl => by
    rcases Nat.lt_or_ge l s.next with h | h
    · exact h
    · rw [(h1.none_of_le h).2] at hl; cases hl
  have hlt2 : ∀ l g, E.loc l = some g → l < s.next := fun l g hl => by
    rcases Nat.lt_or_ge l s.next with h | h
    · exact h
    · rw [(h1.fresh l h).1] at hl; cases hl
  have hltf2 : ∀ l F, E.fam l = some F → l < s.next := fun l g hl => by
    rcases Nat.lt_or_ge l s.next with h | h
    · exact h
    · rw [(h1.fresh l h).2] at hl; cases hl
  have ev : Evolve E E3 := ⟨fun _ _ i => i, fun g o i => by
      have := h1.imm_lt i
      show E2.w.cell? _ = _
      simp only [World.cell?, hsame g this], fun l g hl => (hE3l l (hlt2 l g hl)).trans hl, fun id F hF => ⟨F, (hE3f id (hltf2 id F hF)).trans hF, Nat.le_refl _, fun _ => rfl⟩⟩
  have hth : thawed s.next d = os.map fun p => Own.var p.2 := rfl
  have hvars : ∀ l, l < s.next → (s.ext (thawed s.next d)).vars l = s.vars l := fun l hl => ext_vars_lt _ _ hl
  have hvarn : ∀ j, (s.ext (thawed s.next d)).vars (s.next + j) = (os[j]?).map (·.2) := fun j => by
    rw [ext_vars, hth, List.getElem?_map]
    cases os[j]? <;> rfl
  have hfams : ∀ l q, (s.ext (thawed s.next d)).fams l = some q → s.fams l = some q := by
    intro l q hq
    simp only [S.ext] at hq
    split at hq
    · exact hq
    · rw [hth, List.getElem?_map] at hq
      cases hc : os[l - s.next]? with
      | none => rw [hc] at hq; cases hq
      | some p => rw [hc] at hq; cases hq
  have hnew : ∀ j cs, (s.ext (thawed s.next d)).vars (s.next + j) = some cs → ∃ p g, os[j]? = some p ∧ p.2 = cs ∧ gs[j]? = some g := by
    intro j cs hj
    rw [hvarn] at hj
    obtain ⟨p, hp, rfl⟩ := Option.map_eq_some_iff.1 hj
    have : j < gs.length := by rw [← hlen]; exact (List.getElem?_eq_some_iff.1 hp).1
    exact ⟨p, gs[j], hp, rfl, List.getElem?_eq_getElem this⟩
  have hsplit : ∀ l, l < s.next ∨ ∃ j, l = s.next + j := fun l => by
    rcases Nat.lt_or_ge l s.next with h | h
    · exact .inl h
    · exact .inr ⟨l - s.next, by omega⟩
  have hnl : ∀ j g, E3.loc (s.next + j) = some g → gs[j]? = some g ∧ E.w.heap.size ≤ g := by
    intro j g hg
    rw [hE3n] at hg
    exact ⟨hg, hfresh g (List.mem_of_getElem? hg)⟩
  have hrel : RelS0 E3 (s.ext (thawed s.next d)) := by
    refine ⟨fun l cs hl => ?_, fun l l' g hl hl' hg hg' => ?_, fun id n sz hid => ?_, fun id id' F F' g hid hid' hF hF' => ?_, fun l g id F hl hg hid hF hb => ?_, fun l hl => ?_, by have := h1.pos; rw [ext_next]; omega, fun g o i => ?_⟩
    · rcases hsplit l with hll | ⟨j, rfl⟩
      · rw [hvars l hll] at hl
        obtain ⟨g, arr, e, fr, m1, m2⟩ := h1.var l cs hl
        exact ⟨g, arr, e, fr, (hE3l l hll).trans m1, ⟨(hsame g (Array.getElem?_eq_some_iff.1 m2.heap).1).trans m2.heap, m2.rep.evolve ev, m2.le, m2.free, m2.imm⟩⟩
      · obtain ⟨p, g, hp, rfl, hg⟩ := hnew j cs hl
        obtain ⟨arr, e, fr, a3, a4, a5, a6⟩ := hvar j g p hg hp
        refine ⟨g, arr, e, fr, by rw [hE3n, hg], ⟨a3, a4, a5, a6, fun o i => ?_⟩⟩
        have := hfresh g (List.mem_of_getElem? hg)
        have := h1.imm_lt i
        omega
    · rcases hsplit l with hll | ⟨j, rfl⟩
      · rw [hvars l hll] at hl
        rw [hE3l l hll] at hg
        rcases hsplit l' with hll' | ⟨j', rfl⟩
        · rw [hvars l' hll'] at hl'
          rw [hE3l l' hll'] at hg'
          exact h1.varinj l l' g hl hl' hg hg'
        · obtain ⟨_, hge⟩ := hnl j' g hg'
          have := h1.loc_lt hl hg
          omega
      · obtain ⟨b1, hge⟩ := hnl j g hg
        rcases hsplit l' with hll' | ⟨j', rfl⟩
        · rw [hvars l' hll'] at hl'
          rw [hE3l l' hll'] at hg'
          have := h1.loc_lt hl' hg'
          omega
        · obtain ⟨c1, _⟩ := hnl j' g hg'
          have hj : j < gs.length := (List.getElem?_eq_some_iff.1 b1).1
          rw [(List.getElem?_inj hj hnd).1 (b1.trans c1.symm)]
    · have hid0 := hfams id _ hid
      obtain ⟨h00, F, m1, m2, m3, m4, m5, m6⟩ := h1.fam id n sz hid0
      refine ⟨h00, F, (hE3f id (hltf id (by rw [hid0]; rfl))).trans m1, m2, m3, m4, m5, fun g hg => ?_⟩
      obtain ⟨arr, e, fr, m7, m8⟩ := m6 g hg
      exact ⟨arr, e, fr, (hsame g (Array.getElem?_eq_some_iff.1 m7).1).trans m7, m8⟩
    · obtain ⟨q, hq⟩ := Option.isSome_iff_exists.1 hid
      obtain ⟨q', hq'⟩ := Option.isSome_iff_exists.1 hid'
      have a1 := hfams id q hq
      have a2 := hfams id' q' hq'
      rw [hE3f id (hltf id (by rw [a1]; rfl))] at hF
      rw [hE3f id' (hltf id' (by rw [a2]; rfl))] at hF'
      exact h1.faminj id id' F F' g (by rw [a1]; rfl) (by rw [a2]; rfl) hF hF'
    · obtain ⟨q, hq⟩ := Option.isSome_iff_exists.1 hid
      have a1 := hfams id q hq
      rw [hE3f id (hltf id (by rw [a1]; rfl))] at hF
      rcases hsplit l with hll | ⟨j, rfl⟩
      · rw [hvars l hll] at hl
        rw [hE3l l hll] at hg
        exact h1.famvar l g id F hl hg (by rw [a1]; rfl) hF hb
      · obtain ⟨_, hge⟩ := hnl j g hg
        have := h1.fam_lt (by rw [a1]; rfl) hF hb
        omega
    · rw [ext_next] at hl
      refine ⟨?_, ?_⟩
      · obtain ⟨j, rfl⟩ : ∃ j, l = s.next + j := ⟨l - s.next, by omega⟩
        rw [hE3n]
        exact List.getElem?_eq_none (by have hlen' : os.length = gs.length := hlen; rw [hth, List.length_map] at hl; omega)
      · show (if l < s.next then E.fam l else none) = none
        rw [if_neg (by omega)]
    · obtain ⟨x, hx⟩ := h1.imm g o i
      exact ⟨x, (ev.cell g o i).trans hx⟩
  refine ⟨E3, (thw s.next d).1, val, s.ext (thawed s.next d), rfl, rfl, ⟨rfl, rfl⟩, h1.fin4 hrel hrep
    ⟨ev, st.os, st.tape, st.output, st.size, fun b hb _ => hsame b hb, fun q hq htr => ?_, by rw [ext_next]; omega⟩⟩
  rcases htr with ⟨l, hl, hg⟩ | ⟨id, F, hl, hF, hg⟩
  · rcases hsplit l with hll | ⟨j, rfl⟩
    · rw [hvars l hll] at hl
      rw [hE3l l hll] at hg
      exact .inl ⟨l, hl, hg⟩
    · obtain ⟨_, hge⟩ := hnl j q hg
      have : q < E.w.heap.size := hq
      omega
  · obtain ⟨q', hq'⟩ := Option.isSome_iff_exists.1 hl
    have a1 := hfams id q' hq'
    rw [hE3f id (hltf id (by rw [a1]; rfl))] at hF
    exact .inr ⟨id, F, by rw [a1]; rfl, hF, hg⟩
end Go.Proofs.YtbnbmcplmipgdaaGreatDoor
namespace Go.Proofs.YtbnbmcplmipgdaaGreatDoor
open Go
def sameSz : List V → Bool
  | [] => true
  | x :: xs => xs.all (fun y => y.cells.length == x.cells.length)
theorem sameSz_spec {xs : List V} (h : sameSz xs = true) : ∃ sz, ∀ x ∈ xs, x.cells.length = sz := by
  cases xs with
  | nil => exact ⟨0, fun x hx => by cases hx⟩
  | cons x xs =>
    refine ⟨x.cells.length, fun y hy => ?_⟩
    rcases List.mem_cons.1 hy with rfl | hy
    · rfl
    · simp only [sameSz, List.all_eq_true, beq_iff_eq] at h
      exact h y hy
theorem sameSz_of {xs : List V} {sz : Nat} (h : ∀ x ∈ xs, x.cells.length = sz) : sameSz xs = true := by
  cases xs with
  | nil => rfl
  | cons x xs =>
    simp only [sameSz, List.all_eq_true, beq_iff_eq]
    intro y hy
    rw [h y (by simp [hy]), h x (by simp)]
mutual
/-- Data without memory of its own; a slice's elements are of one size. -/
def V.plain : V → Bool
  | .agg cs => V.plainL cs
  | .sl id xs => (id == 0 && sameSz xs) && V.plainL xs
  | .int _ _ | .bool _ | .str _ | .nilp | .und => true
  | .tup _ | .ptr _ _ | .eptr _ _ | .zsl | .nilsl | .slm _ _ _ _ | .fn _ _ | .raw _ => false
def V.plainL : List V → Bool
  | [] => true
  | v :: vs => V.plain v && V.plainL vs
end
theorem V.plainL_eq : ∀ vs : List V, V.plainL vs = vs.all V.plain
  | [] => rfl
  | v :: vs => by simp [V.plainL, V.plainL_eq vs]
mutual
/-- How many variables hold its slices. -/
def cv : V → Nat
  | .agg cs => cvL cs
  | .tup vs => cvL vs
  | .sl _ xs => if xs.isEmpty then 0 else cvL xs + 1
  | .int _ _ | .bool _ | .str _ | .ptr _ _ | .eptr _ _ | .nilp | .zsl | .nilsl | .slm _ _ _ _ | .fn _ _ | .und | .raw _ => 0
def cvL : List V → Nat
  | [] => 0
  | v :: vs => cv v + cvL vs
end
mutual
theorem thw_cv : ∀ (v : V) (n : Nat), (thw n v).2.length = cv v
  | .agg cs, n => by simp only [thw, cv]; exact thwL_cv cs n
  | .tup cs, n => by simp only [thw, cv]; exact thwL_cv cs n
  | .sl id xs, n => by
    unfold thw cv
    cases xs.isEmpty with
    | true => rfl
    | false => simp [thwL_cv xs n]
  | .zsl, _ | .nilsl, _ | .int _ _, _ | .bool _, _ | .str _, _ | .ptr _ _, _ | .eptr _ _, _ | .nilp, _ | .slm _ _ _ _, _ | .fn _ _, _ | .und, _ | .raw _, _ => rfl
theorem thwL_cv : ∀ (vs : List V) (n : Nat), (thwL n vs).2.length = cvL vs
  | [], _ => rfl
  | v :: vs, n => by simp only [thwL, cvL, List.length_append, thw_cv v n, thwL_cv vs]
end
theorem cvL_append : ∀ (a b : List V), cvL (a ++ b) = cvL a + cvL b
  | [], b => by simp [cvL]
  | x :: a, b => by simp only [List.cons_append, cvL, cvL_append a b]; omega
@[simp] theorem thawed_length (n : Nat) (d : V) : (thawed n d).length = cv d := by simp [thawed, thw_cv]
def thawedL (n : Nat) (ds : List V) : List Own := (thwL n ds).2.map fun p => .var p.2
@[simp] theorem thawedL_length (n : Nat) (d : List V) : (thawedL n d).length = cvL d := by simp [thawedL, thwL_cv]
@[simp] theorem thawedL_nil (n : Nat) : thawedL n [] = [] := rfl
theorem thwL_snoc (n : Nat) (ds : List V) (d : V) : thwL n (ds ++ [d]) = ((thwL n ds).1 ++ [(thw (n + cvL ds) d).1], (thwL n ds).2 ++ (thw (n + cvL ds) d).2) := by
  rw [thwL_append, thwL_cv]
  simp [thwL]
theorem thawedL_snoc (n : Nat) (ds : List V) (d : V) : thawedL n (ds ++ [d]) = thawedL n ds ++ thawed (n + cvL ds) d := by
  simp [thawedL, thawed, thwL_snoc]
theorem thawed_sl (n : Nat) (id : Nat) {ds : List V} (h : ds.isEmpty = false) : thawed n (.sl id ds) = thawedL n ds ++ [.var (V.flat (thwL n ds).1)] := by
  unfold thawed thawedL thw
  rw [h]
  simp
theorem thw_sl (n : Nat) (id : Nat) {ds : List V} (h : ds.isEmpty = false) : (thw n (.sl id ds)).1 = .slm .un (n + cvL ds) 0 ds.length := by
  unfold thw
  rw [h]
  simp [thwL_cv]
/-- These variables hold this. -/
def HasV (t : S) (n : Nat) (os : List (Nat × List V)) : Prop := ∀ (j : Nat) (p : Nat × List V), os[j]? = some p → t.vars (n + j) = some p.2
theorem HasV.left {t : S} {n : Nat} {a b : List (Nat × List V)} (h : HasV t n (a ++ b)) : HasV t n a := fun j p hj => h j p (by
  rw [List.getElem?_append_left (List.getElem?_eq_some_iff.1 hj).1]; exact hj)
theorem HasV.right {t : S} {n : Nat} {a b : List (Nat × List V)} (h : HasV t n (a ++ b)) : HasV t (n + a.length) b := fun j p hj => by
  have := h (a.length + j) p (by rw [List.getElem?_append_right (by omega), Nat.add_sub_cancel_left]; exact hj)
  rw [Nat.add_assoc]; exact this
theorem HasV.ext {s : S} {n : Nat} {A B : List Own} {os : List (Nat × List V)} (hn : n = s.next + A.length) : HasV (s.ext (A ++ (os.map (fun p => Own.var p.2) ++ B))) n os := by
  intro j p hj
  have hlt := (List.getElem?_eq_some_iff.1 hj).1
  have : ((A ++ (os.map (fun p => Own.var p.2) ++ B)))[A.length + j]? = some (.var p.2) := by
    rw [List.getElem?_append_right (by omega), Nat.add_sub_cancel_left, List.getElem?_append_left (by simpa using hlt), List.getElem?_map, hj]
    rfl
  rw [hn, Nat.add_assoc, ext_vars, this]
  rfl
def vl (n k : Nat) : List (Bool × Nat) := (List.range' n k).map fun l => (true, l)
theorem vl_append (n a b : Nat) : vl n a ++ vl (n + a) b = vl n (a + b) := by
  simp only [vl, ← List.map_append]
  congr 1
  exact List.range'_append_1
theorem vl_one (n : Nat) : [(true, n)] = vl n 1 := rfl
@[simp] theorem mem_vl {n k : Nat} {p : Bool × Nat} : p ∈ vl n k ↔ p.1 = true ∧ n ≤ p.2 ∧ p.2 < n + k := by
  obtain ⟨b, l⟩ := p
  simp only [vl, List.mem_map, List.mem_range'_1, Prod.mk.injEq]
  constructor
  · rintro ⟨a, ha, h1, h2⟩
    subst h1 h2
    exact ⟨rfl, ha⟩
  · rintro ⟨h1, h2⟩
    exact ⟨l, h2, h1.symm, rfl⟩
theorem vl_nodup (n k : Nat) : (vl n k).Nodup := by
  unfold vl
  rw [List.Nodup, List.pairwise_map]
  exact (List.nodup_range' (s := n) (n := k)).imp fun h e => h (Prod.mk.inj e).2
theorem TrL.append {t : S} : ∀ {a da b db : List V} {la lb : List (Bool × Nat)}, TrL t a da la → TrL t b db lb → TrL t (a ++ b) (da ++ db) (la ++ lb)
  | _, _, _, _, _, _, .nil, k => k
  | _, _, _, _, _, _, .cons h r, k => by
    rw [List.append_assoc]
    exact .cons h (r.append k)
mutual
theorem Tr_thw {t : S} : ∀ (d : V) (n : Nat), d.plain = true → HasV t n (thw n d).2 → Tr t (thw n d).1 d (vl n (cv d))
  | .agg cs, n, h, hv => .agg (TrL_thw cs n h hv)
  | .tup cs, n, h, hv => by cases h
  | .sl id xs, n, h, hv => by
    simp only [V.plain, Bool.and_eq_true, beq_iff_eq] at h
    obtain ⟨⟨rfl, h1⟩, h2⟩ := h
    cases he : xs.isEmpty with
    | true =>
      have : xs = [] := by simpa using he
      subst this
      exact .emp
    | false =>
      obtain ⟨sz, hsz⟩ := sameSz_spec h1
      rw [thw_sl n 0 he]
      have e : cv (.sl 0 xs) = cvL xs + 1 := by simp only [cv, he, Bool.false_eq_true, if_false]
      rw [e, ← vl_append, ← vl_one]
      unfold thw at hv
      rw [he] at hv
      simp only [Bool.false_eq_true, if_false] at hv
      refine .slm he rfl hsz ?_ (TrL_flat xs n h2 hv.left)
      have := hv.right 0 _ rfl
      rw [thwL_cv] at this
      exact this
  | .zsl, n, h, hv => by cases h
  | .nilsl, n, h, hv => by cases h
  | .int _ _, n, h, hv => .scal rfl
  | .bool _, n, h, hv => .scal rfl
  | .str _, n, h, hv => .scal rfl
  | .nilp, n, h, hv => .scal rfl
  | .und, n, h, hv => .scal rfl
  | .ptr _ _, n, h, hv => by cases h
  | .eptr _ _, n, h, hv => by cases h
  | .slm _ _ _ _, n, h, hv => by cases h
  | .fn _ _, n, h, hv => by cases h
  | .raw _, n, h, hv => by cases h
theorem TrL_thw {t : S} : ∀ (ds : List V) (n : Nat), V.plainL ds = true → HasV t n (thwL n ds).2 → TrL t (thwL n ds).1 ds (vl n (cvL ds))
  | [], n, h, hv => .nil
  | d :: ds, n, h, hv => by
    simp only [V.plainL, Bool.and_eq_true] at h
    simp only [thwL] at hv ⊢
    rw [cvL, ← vl_append]
    have hr := hv.right
    rw [thw_cv] at hr ⊢
    exact .cons (Tr_thw d n h.1 hv.left) (TrL_thw ds _ h.2 hr)
theorem TrL_flat {t : S} : ∀ (ds : List V) (n : Nat), V.plainL ds = true → HasV t n (thwL n ds).2 → TrL t (V.flat (thwL n ds).1) (V.flat ds) (vl n (cvL ds))
  | [], n, h, hv => .nil
  | d :: ds, n, h, hv => by
    simp only [V.plainL, Bool.and_eq_true] at h
    simp only [thwL] at hv ⊢
    rw [cvL, ← vl_append, flat_cons, flat_cons]
    have hr := hv.right
    rw [thw_cv] at hr ⊢
    exact (Tr_cells d n h.1 hv.left).append (TrL_flat ds _ h.2 hr)
theorem Tr_cells {t : S} : ∀ (d : V) (n : Nat), d.plain = true → HasV t n (thw n d).2 → TrL t (thw n d).1.cells d.cells (vl n (cv d))
  | .agg cs, n, h, hv => TrL_thw cs n h hv
  | .tup cs, n, h, hv => by cases h
  | .sl id xs, n, h, hv => by
    have := TrL.cons (Tr_thw (.sl id xs) n h hv) .nil
    rw [List.append_nil] at this
    have e : (thw n (.sl id xs)).1.cells = [(thw n (.sl id xs)).1] := by
      unfold thw
      cases xs.isEmpty <;> rfl
    rw [e]
    exact this
  | .zsl, n, h, hv => by cases h
  | .nilsl, n, h, hv => by cases h
  | .int _ _, n, h, hv => .cons (.scal rfl) .nil
  | .bool _, n, h, hv => .cons (.scal rfl) .nil
  | .str _, n, h, hv => .cons (.scal rfl) .nil
  | .nilp, n, h, hv => .cons (.scal rfl) .nil
  | .und, n, h, hv => .cons (.scal rfl) .nil
  | .ptr _ _, n, h, hv => by cases h
  | .eptr _ _, n, h, hv => by cases h
  | .slm _ _ _ _, n, h, hv => by cases h
  | .fn _ _, n, h, hv => by cases h
  | .raw _, n, h, hv => by cases h
end
mutual
theorem Rd_thw {t : S} : ∀ (d : V) (n : Nat), d.plain = true → HasV t n (thw n d).2 → Rd t (thw n d).1 d
  | .agg cs, n, h, hv => .agg (RdL_thw cs n h hv)
  | .tup cs, n, h, hv => by cases h
  | .sl id xs, n, h, hv => by
    simp only [V.plain, Bool.and_eq_true, beq_iff_eq] at h
    obtain ⟨⟨rfl, h1⟩, h2⟩ := h
    cases he : xs.isEmpty with
    | true =>
      have : xs = [] := by simpa using he
      subst this
      exact .sl .nil
    | false =>
      obtain ⟨sz, hsz⟩ := sameSz_spec h1
      rw [thw_sl n 0 he]
      unfold thw at hv
      rw [he] at hv
      simp only [Bool.false_eq_true, if_false] at hv
      have hv2 := hv.right 0 _ rfl
      rw [thwL_cv] at hv2
      refine .slm (sz := sz) (rest := []) (by rw [List.append_nil]; exact hv2) (thwL_len xs n) ?_ (RdL_thw xs n h2 hv.left)
      have : ∀ (ds : List V) (m : Nat), (∀ x ∈ ds, x.cells.length = sz) → ∀ u ∈ (thwL m ds).1, u.cells.length = sz := by
        intro ds
        induction ds with
        | nil => intro m _ u hu; cases hu
        | cons d ds ih =>
          intro m hd u hu
          simp only [thwL, List.mem_cons] at hu
          rcases hu with rfl | hu
          · rw [(thw_cells' d m).1, thwL_len]; exact hd d (by simp)
          · exact ih _ (fun x hx => hd x (by simp [hx])) u hu
      exact this xs n hsz
  | .zsl, n, h, hv => by cases h
  | .nilsl, n, h, hv => by cases h
  | .int _ _, n, h, hv => .scal rfl
  | .bool _, n, h, hv => .scal rfl
  | .str _, n, h, hv => .scal rfl
  | .nilp, n, h, hv => .scal rfl
  | .und, n, h, hv => .scal rfl
  | .ptr _ _, n, h, hv => by cases h
  | .eptr _ _, n, h, hv => by cases h
  | .slm _ _ _ _, n, h, hv => by cases h
  | .fn _ _, n, h, hv => by cases h
  | .raw _, n, h, hv => by cases h
theorem RdL_thw {t : S} : ∀ (ds : List V) (n : Nat), V.plainL ds = true → HasV t n (thwL n ds).2 → RdL t (thwL n ds).1 ds
  | [], n, h, hv => .nil
  | d :: ds, n, h, hv => by
    simp only [V.plainL, Bool.and_eq_true] at h
    simp only [thwL] at hv ⊢
    exact .cons (Rd_thw d n h.1 hv.left) (RdL_thw ds _ h.2 hv.right)
end
mutual
theorem Rd.plain {t : S} : ∀ (d : V), d.plain = true → Rd t d d
  | .agg cs, h => .agg (RdL.plain cs h)
  | .tup cs, h => by cases h
  | .sl id xs, h => by
    simp only [V.plain, Bool.and_eq_true, beq_iff_eq] at h
    obtain ⟨⟨rfl, h1⟩, h2⟩ := h
    exact .sl (RdL.plain xs h2)
  | .zsl, h => by cases h
  | .nilsl, h => by cases h
  | .int _ _, h => .scal rfl
  | .bool _, h => .scal rfl
  | .str _, h => .scal rfl
  | .nilp, h => .scal rfl
  | .und, h => .scal rfl
  | .ptr _ _, h => by cases h
  | .eptr _ _, h => by cases h
  | .slm _ _ _ _, h => by cases h
  | .fn _ _, h => by cases h
  | .raw _, h => by cases h
theorem RdL.plain {t : S} : ∀ (ds : List V), V.plainL ds = true → RdL t ds ds
  | [], _ => .nil
  | d :: ds, h => by
    simp only [V.plainL, Bool.and_eq_true] at h
    exact .cons (Rd.plain d h.1) (RdL.plain ds h.2)
end
/-! ### Calls -/
section
variable {P : Program} {N : Nat} {ops : Array Oper} {l : List Oper} {K : Kn → S → Prop} {L : Kn} {s : S} {xs : List Own} {d : Nat} {ty : TypeId} {p : String} {a : Array Edge}
theorem ext_nil {E : Env} {s : S} (h : RelS E s) : s.ext [] = s := by
  refine S.ext_eq (fun x => ?_) (fun x => ?_) rfl
  · simp only [S.ext, List.getElem?_nil]
    split
    · rfl
    · exact (h.none_of_le (by omega)).1.symm
  · simp only [S.ext, List.getElem?_nil]
    split
    · rfl
    · exact (h.none_of_le (by omega)).2.symm
theorem VCalls.lendP {f : FuncId} {vs ds : List V} {r : V} (hr : r.scal = true) (hrd : RdL s vs ds) (h : ∀ t, VCalls P f ds t (fun v t' => v = r ∧ t' = t)) : VCalls P f vs s (fun v s' => v = r ∧ s' = s) := by
  have e1 : ∀ n, thw n r = (r, []) := fun n => by cases r <;> first | rfl | cases hr
  have := VCalls.lend2 (d := r) hrd fun t => (h t).mono fun v t' hv => by
    obtain ⟨rfl, rfl⟩ := hv
    exact ⟨[], .scal hr, List.nodup_nil⟩
  intro E vals h1 h2
  have e2 : s.ext [] = s := ext_nil h1
  refine (this.mono fun v s' hv => ?_) E vals h1 h2
  obtain ⟨rfl, rfl⟩ := hv
  rw [thawed, e1]
  exact ⟨rfl, e2⟩
end
end Go.Proofs.YtbnbmcplmipgdaaGreatDoor
namespace Go.Proofs.YtbnbmcplmipgdaaGreatDoor
open Go
/-- Digits ahead of what stands already. -/
def mtA : Nat → Int → List UInt8 → List UInt8
  | 0, _, out => out
  | f + 1, k, out => if 0 < k then mtA f (IntKind.i64.wrap (k.tdiv 10)) (UInt8.ofNat (IntKind.u8.wrap (IntKind.i64.wrap (48 + k.tmod 10))).toNat :: out) else out
def mt (k : Int) : List UInt8 := if k ≤ 0 then [109, 48] else 109 :: mtA 20 k []
mutual
def mkV : V → Int → V
  | .int _ _, k => .int .i64 k
  | .bool _, k => .bool (decide (k.tmod 3 = 0))
  | .str _, k => .str (mt k)
  | .agg cs, k => .agg (mkL cs k)
  | .sl id xs, k => .sl id (mkL xs k)
  | .tup vs, _ => .tup vs
  | .ptr l o, _ => .ptr l o
  | .eptr cs o, _ => .eptr cs o
  | .nilp, _ => .nilp
  | .zsl, _ => .zsl
  | .nilsl, _ => .nilsl
  | .slm x l o n, _ => .slm x l o n
  | .fn f cs, _ => .fn f cs
  | .und, _ => .und
  | .raw v, _ => .raw v
def mkL : List V → Int → List V
  | [], _ => []
  | v :: vs, k => mkV v k :: mkL vs (nk v k)
def nk : V → Int → Int
  | .int _ _, k => k + 1
  | .bool _, k => k + 1
  | .str _, k => k + 1
  | .agg cs, k => nkL cs k
  | .sl _ xs, k => nkL xs k
  | .tup _, k => k
  | .ptr _ _, k => k
  | .eptr _ _, k => k
  | .nilp, k => k
  | .zsl, k => k
  | .nilsl, k => k
  | .slm _ _ _ _, k => k
  | .fn _ _, k => k
  | .und, k => k
  | .raw _, k => k
def nkL : List V → Int → Int
  | [], k => k
  | v :: vs, k => nkL vs (nk v k)
end
mutual
theorem nk_le : ∀ (v : V) (k : Int), k ≤ nk v k
  | .int _ _, k => by simp only [nk]; omega
  | .bool _, k => by simp only [nk]; omega
  | .str _, k => by simp only [nk]; omega
  | .agg cs, k => by simp only [nk]; exact nkL_le cs k
  | .sl _ xs, k => by simp only [nk]; exact nkL_le xs k
  | .tup _, k | .ptr _ _, k | .eptr _ _, k | .nilp, k | .zsl, k | .nilsl, k | .slm _ _ _ _, k | .fn _ _, k | .und, k | .raw _, k => by simp only [nk]; omega
theorem nkL_le : ∀ (vs : List V) (k : Int), k ≤ nkL vs k
  | [], k => by simp only [nkL]; omega
  | v :: vs, k => by
    have h1 := nk_le v k
    have h2 := nkL_le vs (nk v k)
    simp only [nkL]; omega
end
theorem mkL_append : ∀ (a b : List V) (k : Int), mkL (a ++ b) k = mkL a k ++ mkL b (nkL a k)
  | [], b, k => rfl
  | x :: a, b, k => by simp only [List.cons_append, mkL, nkL, mkL_append a b]
theorem nkL_append : ∀ (a b : List V) (k : Int), nkL (a ++ b) k = nkL b (nkL a k)
  | [], b, k => rfl
  | x :: a, b, k => by simp only [List.cons_append, nkL, nkL_append a b]
theorem mkL_length : ∀ (a : List V) (k : Int), (mkL a k).length = a.length
  | [], k => rfl
  | x :: a, k => by simp only [mkL, List.length_cons, mkL_length a]
theorem mkL_isEmpty (a : List V) (k : Int) : (mkL a k).isEmpty = a.isEmpty := by cases a <;> rfl
mutual
theorem mk_cv : ∀ (v : V) (k : Int), cv (mkV v k) = cv v
  | .agg cs, k => by simp only [mkV, cv, mkL_cv cs k]
  | .sl _ xs, k => by simp only [mkV, cv, mkL_cv xs k, mkL_isEmpty]
  | .int _ _, k | .bool _, k | .str _, k | .tup _, k | .ptr _ _, k | .eptr _ _, k | .nilp, k | .zsl, k | .nilsl, k | .slm _ _ _ _, k | .fn _ _, k | .und, k | .raw _, k => by simp only [mkV, cv]
theorem mkL_cv : ∀ (vs : List V) (k : Int), cvL (mkL vs k) = cvL vs
  | [], k => rfl
  | v :: vs, k => by simp only [mkL, cvL, mk_cv v k, mkL_cv vs]
end
theorem mk_cells_len (v : V) (k : Int) : (mkV v k).cells.length = v.cells.length := by
  cases v <;> simp [mkV, V.cells, mkL_length]
/-- A slice stays where it is. -/
theorem thw_mk_sl (n : Nat) (id : Nat) (xs : List V) (k : Int) : (thw n (mkV (.sl id xs) k)).1 = (thw n (.sl id xs)).1 := by
  simp only [mkV]
  cases h : xs.isEmpty with
  | true =>
    have : xs = [] := by simpa using h
    subst this
    rfl
  | false => rw [thw_sl n id h, thw_sl n id (by rw [mkL_isEmpty]; exact h), mkL_cv, mkL_length]
mutual
theorem mk_plain : ∀ (v : V) (k : Int), v.plain = true → (mkV v k).plain = true
  | .agg cs, k, h => mkL_plain cs k h
  | .sl id xs, k, h => by
    simp only [V.plain, Bool.and_eq_true, mkV] at h ⊢
    obtain ⟨⟨h0, h1⟩, h2⟩ := h
    obtain ⟨sz, hsz⟩ := sameSz_spec h1
    exact ⟨⟨h0, sameSz_of (mkL_sz xs k hsz)⟩, mkL_plain xs k h2⟩
  | .int _ _, k, h | .bool _, k, h | .str _, k, h | .nilp, k, h | .und, k, h => by simp only [mkV, V.plain]
  | .tup _, k, h | .ptr _ _, k, h | .eptr _ _, k, h | .zsl, k, h | .nilsl, k, h | .slm _ _ _ _, k, h | .fn _ _, k, h | .raw _, k, h => by cases h
theorem mkL_plain : ∀ (vs : List V) (k : Int), V.plainL vs = true → V.plainL (mkL vs k) = true
  | [], k, h => rfl
  | v :: vs, k, h => by
    simp only [V.plainL, Bool.and_eq_true, mkL] at h ⊢
    exact ⟨mk_plain v k h.1, mkL_plain vs _ h.2⟩
theorem mkL_sz : ∀ (vs : List V) (k : Int) {sz : Nat}, (∀ x ∈ vs, x.cells.length = sz) → ∀ x ∈ mkL vs k, x.cells.length = sz
  | [], k, sz, h => fun x hx => by cases hx
  | v :: vs, k, sz, h => fun x hx => by
    simp only [mkL, List.mem_cons] at hx
    rcases hx with rfl | hx
    · rw [mk_cells_len]; exact h v (by simp)
    · exact mkL_sz vs _ (fun y hy => h y (by simp [hy])) x hx
end
/-! ### States -/
/-- The variables from n on hold this. -/
def S.blk (s : S) (n : Nat) (B : List (Nat × List V)) : S := { s with vars := fun l => if n ≤ l ∧ l < n + B.length then (B[l - n]?).map (·.2) else s.vars l }
def S.mb (t : S) (n : Nat) (D : List (Nat × List V)) (l0 : Nat) (C : List V) : S := (t.blk n D).setVar l0 C
theorem blk_nil (t : S) (n : Nat) : t.blk n [] = t := by
  refine S.ext_eq (fun x => ?_) (fun _ => rfl) rfl
  simp only [S.blk, List.length_nil, Nat.add_zero]
  rw [if_neg (by omega)]
theorem mb_eq (t : S) (n : Nat) (D : List (Nat × List V)) (i : Nat) (C : List V) : t.mb n D (n + D.length) C = t.blk n (D ++ [(i, C)]) := by
  refine S.ext_eq (fun x => ?_) (fun _ => rfl) rfl
  simp only [S.mb, S.setVar, S.blk, List.length_append, List.length_cons, List.length_nil]
  by_cases h1 : x = n + D.length
  · rw [if_pos h1, if_pos (by omega), h1, Nat.add_sub_cancel_left]
    simp
  · rw [if_neg h1]
    by_cases h2 : n ≤ x ∧ x < n + D.length
    · rw [if_pos h2, if_pos (by omega), List.getElem?_append_left (by omega)]
    · rw [if_neg h2, if_neg (by omega)]
theorem blk_self {t : S} {n : Nat} {B : List (Nat × List V)} (h : HasV t n B) : t.blk n B = t := by
  refine S.ext_eq (fun x => ?_) (fun _ => rfl) rfl
  simp only [S.blk]
  split
  · rename_i hx
    have hlt : x - n < B.length := by omega
    have := h (x - n) _ (List.getElem?_eq_getElem hlt)
    rw [show n + (x - n) = x by omega] at this
    rw [List.getElem?_eq_getElem hlt, this]
    rfl
  · rfl
/-- A part of the block changed. -/
theorem mb_blk (t : S) (n l0 m : Nat) (C : List V) {A E Z E' : List (Nat × List V)} (hm : m = n + A.length) (he : E'.length = E.length) (hl : m + E.length ≤ l0) :
    (t.mb n (A ++ (E ++ Z)) l0 C).blk m E' = t.mb n (A ++ (E' ++ Z)) l0 C := by
  refine S.ext_eq (fun x => ?_) (fun _ => rfl) rfl
  simp only [S.mb, S.setVar, S.blk, List.length_append]
  by_cases h0 : x = l0
  · rw [if_pos h0, if_pos h0, if_neg (by omega)]
  · rw [if_neg h0, if_neg h0]
    by_cases h1 : m ≤ x ∧ x < m + E'.length
    · rw [if_pos h1, if_pos (by omega), List.getElem?_append_right (by omega), List.getElem?_append_left (by omega)]
      congr 2
      omega
    · rw [if_neg h1]
      by_cases h2 : n ≤ x ∧ x < n + (A.length + (E.length + Z.length))
      · rw [if_pos h2, if_pos (by omega)]
        by_cases h3 : x < m
        · rw [List.getElem?_append_left (by omega), List.getElem?_append_left (by omega)]
        · rw [List.getElem?_append_right (by omega), List.getElem?_append_right (by omega), List.getElem?_append_right (by omega), List.getElem?_append_right (by omega), he]
      · rw [if_neg h2, if_neg (by omega)]
theorem mb_has (t : S) (n l0 m : Nat) (C : List V) {A E Z : List (Nat × List V)} (hm : m = n + A.length) (hl : m + E.length ≤ l0) : HasV (t.mb n (A ++ (E ++ Z)) l0 C) m E := by
  intro j p hj
  have hlt := (List.getElem?_eq_some_iff.1 hj).1
  simp only [S.mb, S.setVar, S.blk, List.length_append]
  rw [if_neg (by omega), if_pos (by omega), List.getElem?_append_right (by omega), List.getElem?_append_left (by omega), show m + j - n - A.length = j by omega, hj]
  rfl
/-- The contract of what marks data. -/
def MarkC (P : Program) (f : FuncId) (d : V) : Prop := ∀ (t : S) (n : Nat) (k : Int), HasV t n (thw n d).2 → 0 ≤ k → nk d k ≤ 4000000000000 →
  VCalls P f [(thw n d).1, .int .i64 k] t (fun v t' => v = .int .i64 (nk d k) ∧ t' = t.blk n (thw n (mkV d k)).2)
/-! ### Rules -/
section
variable {P : Program} {N : Nat} {ops : Array Oper} {l : List Oper} {K : Kn → S → Prop} {L : Kn} {t : S} {tt : BT} {d : Nat} {ty : TypeId} {p : String} {a : Array Edge} {n l0 q : Nat} {D : List (Nat × List V)} {CA ce CZ : List V}
theorem mb_var : (t.mb n D l0 CA).vars l0 = some CA := by simp [S.mb, S.setVar]
theorem take_mid {f : Nat} {sz : Nat} {agg : Bool} {v : V} (h : takeO ce f sz agg = some v) : takeV (CA ++ (ce ++ CZ)) (CA.length + f) sz agg = some v := by
  have h := takeO_eq h
  unfold takeV at h ⊢
  split at h
  · rename_i hle
    rw [if_pos (by simp; omega)]
    have e1 : (CA ++ (ce ++ CZ)).drop (CA.length + f) = ce.drop f ++ CZ := by
      rw [List.drop_append, List.drop_of_length_le (by omega), List.nil_append, Nat.add_sub_cancel_left, List.drop_append, show f - ce.length = 0 by omega, List.drop_zero]
    have e2 : (ce.drop f ++ CZ).take sz = (ce.drop f).take sz := by rw [List.take_append_of_le_length (by simp; omega)]
    split at h
    · rw [if_pos ‹_›, e1, e2]; exact h
    · rw [if_neg ‹_›]
      have hlt := (List.getElem?_eq_some_iff.1 h).1
      rw [List.getElem?_append_right (by omega), Nat.add_sub_cancel_left, List.getElem?_append_left hlt]
      exact h
  · cases h
theorem splice_mid {f : Nat} {vs : List V} (h : f + vs.length ≤ ce.length) : splice (CA ++ (ce ++ CZ)) (CA.length + f) vs = CA ++ (splice ce f vs ++ CZ) := by
  unfold splice
  rw [List.take_append, List.take_of_length_le (by omega), Nat.add_sub_cancel_left, List.take_append_of_le_length (by omega), List.drop_append, List.drop_of_length_le (by omega), List.nil_append,
    show CA.length + f + vs.length - CA.length = f + vs.length by omega, List.drop_append_of_le_length h]
  simp only [List.append_assoc]
theorem AnsL.loadE (ht : tt.ok P) {T : TypeId} {u : Ty} {x : Operand} {off : Nat} {v : V} (f : Nat) (hq : CA.length = q) (hx : opd L x = some (.ptr l0 off)) (ho : off = 0 + q + f) (hT : tt.get T = some u) (hr : takeO ce f u.size u.agg = some v) :
    AnsL P (.load T x) L (t.mb n D l0 (CA ++ (ce ++ CZ))) v :=
  .of fun σ hσ _ _ _ _ _ => by
    have h := take_mid (CA := CA) (CZ := CZ) hr
    rw [hq, show q + f = off by omega] at h
    simp only [vop, opd_eq hσ hx, vload, ht.get hT, mb_var, h, Option.bind_some, Option.map_some]
theorem LOps.storeE (ht : tt.ok P) {T : TypeId} {u : Ty} {x y : Operand} {off : Nat} {v : V} {vs ce' : List V} (f : Nat) (hq : CA.length = q) (hx : opd L x = some (.ptr l0 off)) (ho : off = 0 + q + f) (hy : opd L y = some v) (hT : tt.get T = some u)
    (hc : cellsO v = some vs) (h1 : onesO vs = true) (hn : Nat.beq vs.length u.size = true) (hsp : splO ce f vs = some ce') (hk : LOps P N ops l K L (t.mb n D l0 (CA ++ (ce' ++ CZ)))) :
    LOps P N ops (⟨none, .store T x y, ty, p, a, none⟩ :: l) K L (t.mb n D l0 (CA ++ (ce ++ CZ))) := by
  refine .stN (v := .und) (fun σ hσ => ?_) hk
  obtain ⟨h2, h3⟩ := splO_eq hsp
  have h4 : vs.length = u.size := Nat.eq_of_beq_eq_true hn
  simp only [vop, opd_eq hσ hx, opd_eq hσ hy, vstore, ht.get hT, mb_var, cellsO_eq hc, Option.bind_some]
  have h5 := splice_mid (CA := CA) (CZ := CZ) h3
  rw [hq, show q + f = off by omega] at h5
  rw [if_pos ⟨h4, by simp only [List.length_append]; omega, onesO_eq h1⟩, h5, ← h2, Option.map_some]
  have e : (t.mb n D l0 (CA ++ (ce ++ CZ))).setVar l0 (CA ++ (ce' ++ CZ)) = t.mb n D l0 (CA ++ (ce' ++ CZ)) := by
    refine S.ext_eq (fun x => ?_) (fun _ => rfl) rfl
    simp only [S.mb, S.setVar]
    split <;> rfl
  rw [e]
/-- A call that marks a part. -/
theorem LOps.markE {f : Operand} {g : FuncId} {args : Array Operand} {B : Array TypeId} {dv v : V} {kk : Int} {m : Nat} {C : List V} {A Z : List (Nat × List V)} (hf : opd L f = some (.fn g [])) (ha : opdL L args.toList = some [v, .int .i64 kk]) (hok : CallOk P g)
    (hc : MarkC P g dv) (hv : v = (thw m dv).1) (hm : m = n + A.length) (hl : m + cv dv ≤ l0) (h0 : 0 ≤ kk) (hb : nk dv kk ≤ 4000000000000)
    (hk : LOps P N ops l K ((d, .int .i64 (nk dv kk)) :: L) (t.mb n (A ++ ((thw m (mkV dv kk)).2 ++ Z)) l0 C)) :
    LOps P N ops (⟨some d, .call ⟨.value f, args, B⟩, ty, p, a, none⟩ :: l) K L (t.mb n (A ++ ((thw m dv).2 ++ Z)) l0 C) := by
  subst hv
  refine .call hf ha rfl hok (hc _ m kk (mb_has t n l0 m C hm (by rw [thw_cv]; exact hl)) h0 hb) fun v s' hv => ?_
  obtain ⟨rfl, rfl⟩ := hv
  rw [mb_blk t n l0 m C hm (by rw [thw_cv, thw_cv, mk_cv]) (by rw [thw_cv]; exact hl)]
  exact hk
theorem LCalls.body0 {f : FuncId} {fn : Func} {c : Code} {args : List V} {s : S} {R : V → S → Prop} (hf : P.funcs[f]? = some fn) (hb : fn.body = some c) (hn : Nat.ble args.length fn.ntmps = true)
    (h : WL P fn.ntmps c (LPost P fn.results.toList R) (argL 0 args) s) : VCalls P f args s R := by
  refine VCalls.body hf hb (Nat.le_of_ble_eq_true hn) (VWp.mono (h.run _ (At.args args)) ?_)
  rintro e σ' s' ⟨L', hat, ⟨hq⟩⟩
  cases e with
  | normal => obtain ⟨vs, h1, h2⟩ := hq; simp only [VPost, h1 σ' hat]; exact h2
  | ret => obtain ⟨vs, h1, h2⟩ := hq; simp only [VPost, h1 σ' hat]; exact h2
  | _ => exact hq.elim
/-- A round's end. -/
structure lmark (LI : Kn) (S' : S) (e : Exit) (L : Kn) (s : S) : Prop where
  ex : e = .normal
  sub : SubL LI L
  st : s = S'
/-- The loop's end. -/
structure lfin (Q : Exit → Kn → S → Prop) (e : Exit) (L : Kn) (s : S) : Prop where
  h : match e with
    | .normal => False
    | e => Q e L s
theorem lfin_e {Q : Exit → Kn → S → Prop} {i : Nat} {s : S} (h : Q (.exit i) L s) : lfin Q (.exit i) L s := ⟨h⟩
theorem lfin_r {Q : Exit → Kn → S → Prop} {s : S} (h : Q .ret L s) : lfin Q .ret L s := ⟨h⟩
def siM (t : S) (n : Nat) (ds : List V) (k : Int) (i : Nat) : S :=
  t.mb n (thwL n (mkL (ds.take i) k ++ ds.drop i)).2 (n + cvL ds) (V.flat (thwL n (mkL (ds.take i) k ++ ds.drop i)).1)
theorem V.flat_append (a b : List V) : V.flat (a ++ b) = V.flat a ++ V.flat b := by simp [V.flat]
theorem flat_len_sz {sz : Nat} : ∀ {xs : List V}, (∀ x ∈ xs, x.cells.length = sz) → ∀ n, (V.flat (thwL n xs).1).length = xs.length * sz
  | [], h, n => by simp [thwL, V.flat]
  | x :: xs, h, n => by
    have ih := flat_len_sz (xs := xs) (fun y hy => h y (List.mem_cons_of_mem _ hy)) (n + (thw n x).2.length)
    simp only [thwL, flat_cons, List.length_append, List.length_cons, ih]
    rw [(thw_cells' x n).1, thwL_len, h x (by simp), Nat.succ_mul, Nat.add_comm]
theorem siM_split (t : S) (n : Nat) (ds : List V) {i : Nat} (x : V) (pre : List V) (hc : cvL pre = cvL (ds.take i)) :
    t.mb n (thwL n (pre ++ x :: ds.drop (i + 1))).2 (n + cvL ds) (V.flat (thwL n (pre ++ x :: ds.drop (i + 1))).1) =
    t.mb n ((thwL n pre).2 ++ ((thw (n + cvL (ds.take i)) x).2 ++ (thwL (n + cvL (ds.take i) + cv x) (ds.drop (i + 1))).2)) (n + cvL ds)
      (V.flat (thwL n pre).1 ++ ((thw (n + cvL (ds.take i)) x).1.cells ++ V.flat (thwL (n + cvL (ds.take i) + cv x) (ds.drop (i + 1))).1)) := by
  rw [thwL_append, thwL_cv, hc]
  simp only [thwL, thw_cv, V.flat_append, flat_cons]
/-- The loop that marks a slice. -/
theorem WL.loopMark {c : Code} {Q : Exit → Kn → S → Prop} (t : S) (n : Nat) (ds : List V) (k : Int) (sz : Nat) (LI : Int → Nat → Kn) (hne : ds.isEmpty = false) (hsz : ∀ x ∈ ds, x.cells.length = sz) (hv : HasV t n (thw n (.sl 0 ds)).2) (hk0 : 0 ≤ k) (hkb : nkL ds k ≤ 4000000000000)
    (hL : SubL (LI k 0) L)
    (round : ∀ (i : Nat) (hi : i < ds.length) (kk : Int) (m : Nat) (A Z : List (Nat × List V)) (CA CZ : List V), CA.length = i * sz → m = n + A.length → m + cv ds[i] ≤ n + cvL ds → 0 ≤ kk → nk ds[i] kk ≤ 4000000000000 →
      WL P N c (lmark (LI (nk ds[i] kk) (i + 1)) (t.mb n (A ++ ((thw m (mkV ds[i] kk)).2 ++ Z)) (n + cvL ds) (CA ++ ((thw m (mkV ds[i] kk)).1.cells ++ CZ)))) (LI kk i) (t.mb n (A ++ ((thw m ds[i]).2 ++ Z)) (n + cvL ds) (CA ++ ((thw m ds[i]).1.cells ++ CZ))))
    (fin : WL P N c (lfin Q) (LI (nkL ds k) ds.length) (t.blk n (thw n (mkV (.sl 0 ds) k)).2)) : WL P N (.loop c) Q L t := by
  have hth : ∀ us : List V, us.isEmpty = false → cvL us = cvL ds → (thw n (.sl 0 us)).2 = (thwL n us).2 ++ [(0, V.flat (thwL n us).1)] := fun us h _ => by
    unfold thw
    rw [h]
    simp
  have hmb : ∀ us : List V, us.isEmpty = false → cvL us = cvL ds → t.mb n (thwL n us).2 (n + cvL ds) (V.flat (thwL n us).1) = t.blk n (thw n (.sl 0 us)).2 := fun us h h2 => by
    rw [hth us h h2, ← mb_eq, thwL_cv, h2]
  refine WL.loop0 (fun i : Nat => ds.length - i) (fun i => LI (nkL (ds.take i) k) i) (siM t n ds k) (fun i => i ≤ ds.length) 0 (by omega) hL ?_ fun i hi => ?_
  · unfold siM
    simp only [List.take_zero, mkL, List.drop_zero, List.nil_append]
    rw [hmb ds hne rfl, blk_self hv]
  · rcases Nat.lt_or_ge i ds.length with hlt | hge
    · have hd : ds.drop i = ds[i] :: ds.drop (i + 1) := List.drop_eq_getElem_cons hlt
      have ht : ds.take (i + 1) = ds.take i ++ [ds[i]] := (List.take_append_getElem hlt).symm
      have hcv : cvL ds = cvL (ds.take i) + (cv ds[i] + cvL (ds.drop (i + 1))) := by
        have := cvL_append (ds.take i) (ds.drop i)
        rw [List.take_append_drop, hd] at this
        exact this
      have hsum : nkL ds k = nkL (ds.drop (i + 1)) (nk ds[i] (nkL (ds.take i) k)) := by
        have := nkL_append (ds.take i) (ds.drop i) k
        rw [List.take_append_drop, hd] at this
        exact this
      have hle := nkL_le (ds.drop (i + 1)) (nk ds[i] (nkL (ds.take i) k))
      have hle0 := nkL_le (ds.take i) k
      have hlen : (mkL (ds.take i) k).length = i := by rw [mkL_length, List.length_take]; omega
      have hst := siM_split t n ds (i := i) ds[i] (mkL (ds.take i) k) (mkL_cv _ _)
      have hst2 := siM_split t n ds (i := i) (mkV ds[i] (nkL (ds.take i) k)) (mkL (ds.take i) k) (mkL_cv _ _)
      have e0 : siM t n ds k i = t.mb n (thwL n (mkL (ds.take i) k ++ ds[i] :: ds.drop (i + 1))).2 (n + cvL ds) (V.flat (thwL n (mkL (ds.take i) k ++ ds[i] :: ds.drop (i + 1))).1) := by
        unfold siM
        rw [hd]
      have e1 : siM t n ds k (i + 1) = t.mb n (thwL n (mkL (ds.take i) k ++ mkV ds[i] (nkL (ds.take i) k) :: ds.drop (i + 1))).2 (n + cvL ds) (V.flat (thwL n (mkL (ds.take i) k ++ mkV ds[i] (nkL (ds.take i) k) :: ds.drop (i + 1))).1) := by
        unfold siM
        rw [ht, mkL_append, List.append_assoc]
        rfl
      rw [e0, hst]
      refine (round i hlt (nkL (ds.take i) k) (n + cvL (ds.take i)) (thwL n (mkL (ds.take i) k)).2 _ (V.flat (thwL n (mkL (ds.take i) k)).1) _ ?_ (by rw [thwL_cv, mkL_cv]) (by omega) (by omega) (by omega)).mono ?_
      · rw [flat_len_sz (sz := sz) (mkL_sz _ _ fun x hx => hsz x (List.mem_of_mem_take hx)), hlen]
      · rintro e L' s' ⟨rfl, h2, h3⟩
        refine lback.of (i + 1) (by omega) (by omega) ?_ ?_
        · rw [ht, nkL_append]
          exact h2
        · rw [e1, hst2, h3, mk_cv]
    · have hi2 : i = ds.length := by omega
      subst hi2
      have e1 : siM t n ds k ds.length = t.blk n (thw n (mkV (.sl 0 ds) k)).2 := by
        unfold siM
        simp only [List.take_length, List.drop_length, List.append_nil]
        rw [hmb (mkL ds k) (by rw [mkL_isEmpty]; exact hne) (mkL_cv _ _)]
        rfl
      rw [e1, List.take_length]
      refine fin.mono ?_
      rintro e L' s' ⟨h⟩
      cases e with
      | normal => exact h.elim
      | _ => exact ⟨h⟩
/-- The loop that looks whether a slice is marked. -/
theorem mkL_get : ∀ (ds : List V) (k : Int) (i : Nat) (hi : i < ds.length), (mkL ds k)[i]? = some (mkV ds[i] (nkL (ds.take i) k))
  | [], k, i, hi => by simp at hi
  | d :: ds, k, 0, hi => rfl
  | d :: ds, k, i + 1, hi => by
    have := mkL_get ds (nk d k) i (by simpa using hi)
    simpa [mkL, nkL] using this
theorem WL.loopHeld {c : Code} {Q : Exit → Kn → S → Prop} (ds : List V) (k : Int) (LI : Int → Nat → Kn) (hk0 : 0 ≤ k) (hkb : nkL ds k ≤ 4000000000000) (hL : SubL (LI k 0) L)
    (round : ∀ (i : Nat) (hi : i < ds.length) (kk : Int), (mkL ds k)[i]? = some (mkV ds[i] kk) → 0 ≤ kk → nk ds[i] kk ≤ 4000000000000 → WL P N c (lmark (LI (nk ds[i] kk) (i + 1)) t) (LI kk i) t)
    (fin : WL P N c (lfin Q) (LI (nkL ds k) ds.length) t) : WL P N (.loop c) Q L t := by
  refine WL.loop0 (fun i : Nat => ds.length - i) (fun i => LI (nkL (ds.take i) k) i) (fun _ => t) (fun i => i ≤ ds.length) 0 (by omega) hL rfl fun i hi => ?_
  rcases Nat.lt_or_ge i ds.length with hlt | hge
  · have hd : ds.drop i = ds[i] :: ds.drop (i + 1) := List.drop_eq_getElem_cons hlt
    have ht : ds.take (i + 1) = ds.take i ++ [ds[i]] := (List.take_append_getElem hlt).symm
    have hsum : nkL ds k = nkL (ds.drop (i + 1)) (nk ds[i] (nkL (ds.take i) k)) := by
      have := nkL_append (ds.take i) (ds.drop i) k
      rw [List.take_append_drop, hd] at this
      exact this
    have hle := nkL_le (ds.drop (i + 1)) (nk ds[i] (nkL (ds.take i) k))
    have hle0 := nkL_le (ds.take i) k
    refine (round i hlt (nkL (ds.take i) k) (mkL_get ds k i hlt) (by omega) (by omega)).mono ?_
    rintro e L' s' ⟨rfl, h2, h3⟩
    refine lback.of (i + 1) (by omega) (by omega) ?_ h3
    rw [ht, nkL_append]
    exact h2
  · have hi2 : i = ds.length := by omega
    subst hi2
    rw [List.take_length]
    refine fin.mono ?_
    rintro e L' s' ⟨h⟩
    cases e with
    | normal => exact h.elim
    | _ => exact ⟨h⟩
/-! ### Rows of cells, cell by cell -/
theorem thw_agg (n : Nat) (cs : List V) : thw n (.agg cs) = (.agg (thwL n cs).1, (thwL n cs).2) := rfl
theorem thwL_nil (n : Nat) : thwL n [] = ([], []) := rfl
theorem thwL_int (n : Nat) (k : IntKind) (i : Int) (vs : List V) : thwL n (.int k i :: vs) = (.int k i :: (thwL n vs).1, (thwL n vs).2) := rfl
theorem thwL_str (n : Nat) (b : List UInt8) (vs : List V) : thwL n (.str b :: vs) = (.str b :: (thwL n vs).1, (thwL n vs).2) := rfl
theorem thwL_bool (n : Nat) (b : Bool) (vs : List V) : thwL n (.bool b :: vs) = (.bool b :: (thwL n vs).1, (thwL n vs).2) := rfl
theorem thwL_sl (n : Nat) (i : Nat) (xs vs : List V) : thwL n (.sl i xs :: vs) = ((thw n (.sl i xs)).1 :: (thwL (n + cv (.sl i xs)) vs).1, (thw n (.sl i xs)).2 ++ (thwL (n + cv (.sl i xs)) vs).2) := by rw [thwL, thw_cv]
theorem thwL_mk (n : Nat) (i : Nat) (xs vs : List V) (k : Int) : thwL n (mkV (.sl i xs) k :: vs) = ((thw n (.sl i xs)).1 :: (thwL (n + cv (.sl i xs)) vs).1, (thw n (mkV (.sl i xs) k)).2 ++ (thwL (n + cv (.sl i xs)) vs).2) := by
  rw [thwL, thw_cv, mk_cv, thw_mk_sl]
theorem mk_agg (cs : List V) (k : Int) : mkV (.agg cs) k = .agg (mkL cs k) := rfl
theorem mkL_nil (k : Int) : mkL [] k = [] := rfl
theorem mkL_int (i : IntKind) (m : Int) (vs : List V) (k : Int) : mkL (.int i m :: vs) k = .int .i64 k :: mkL vs (k + 1) := rfl
theorem mkL_str (b : List UInt8) (vs : List V) (k : Int) : mkL (.str b :: vs) k = .str (mt k) :: mkL vs (k + 1) := rfl
theorem mkL_bool (b : Bool) (vs : List V) (k : Int) : mkL (.bool b :: vs) k = .bool (decide (k.tmod 3 = 0)) :: mkL vs (k + 1) := rfl
theorem mkL_sl (i : Nat) (xs vs : List V) (k : Int) : mkL (.sl i xs :: vs) k = mkV (.sl i xs) k :: mkL vs (nk (.sl i xs) k) := rfl
end
end Go.Proofs.YtbnbmcplmipgdaaGreatDoor
namespace Go.Proofs.YtbnbmcplmipgdaaGreatDoor
open Go
theorem under_le {n m : Nat} (h : n ≤ m) : ∀ {v : V}, v.under n = true → v.under m = true := by
  intro v
  refine V.rec (motive_1 := fun v => v.under n = true → v.under m = true) (motive_2 := fun vs => V.underL n vs = true → V.underL m vs = true) ?_ ?_ ?_ ?_ ?_ ?_ ?_ ?_ ?_ ?_ ?_ ?_ ?_ ?_ ?_ ?_ ?_ v
  all_goals (intros; simp_all [V.under, V.underL] <;> omega)
theorem underL_le {n m : Nat} (h : n ≤ m) {vs : List V} (hv : V.underL n vs = true) : V.underL m vs = true := by
  rw [V.underL_eq, List.all_eq_true] at hv ⊢
  exact fun v hm => under_le h (hv v hm)
mutual
theorem thw_under : ∀ (d : V) (n : Nat), d.plain = true → (thw n d).1.under (n + cv d) = true ∧ ∀ p ∈ (thw n d).2, V.underL (n + cv d) p.2 = true
  | .agg cs, n, h => thwL_under cs n h
  | .tup cs, n, h => by cases h
  | .sl id xs, n, h => by
    simp only [V.plain, Bool.and_eq_true, beq_iff_eq] at h
    obtain ⟨⟨rfl, h1⟩, h2⟩ := h
    cases he : xs.isEmpty with
    | true =>
      have : xs = [] := by simpa using he
      subst this
      exact ⟨rfl, fun p hp => by cases hp⟩
    | false =>
      obtain ⟨k1, k2⟩ := thwL_under xs n h2
      have e : cv (.sl 0 xs) = cvL xs + 1 := by simp only [cv, he, Bool.false_eq_true, if_false]
      rw [thw_sl n 0 he, e]
      refine ⟨by simp only [V.under, decide_eq_true_eq]; omega, fun p hp => ?_⟩
      unfold thw at hp
      rw [he] at hp
      simp only [Bool.false_eq_true, if_false, List.mem_append, List.mem_singleton] at hp
      rcases hp with hp | rfl
      · exact underL_le (by omega) (k2 p hp)
      · refine underL_le (n := n + cvL xs) (by omega) ?_
        simp only
        rw [V.underL_eq, List.all_eq_true] at k1 ⊢
        intro v hv
        simp only [V.flat, List.mem_flatMap] at hv
        obtain ⟨u, hu, hv⟩ := hv
        have hu2 := k1 u hu
        cases u with
        | agg cs =>
          simp only [V.cells] at hv
          simp only [V.under] at hu2
          rw [V.underL_eq, List.all_eq_true] at hu2
          exact hu2 v hv
        | raw w =>
          simp only [V.cells, List.mem_map] at hv
          obtain ⟨y, _, rfl⟩ := hv
          rfl
        | _ =>
          simp only [V.cells, List.mem_singleton] at hv
          subst hv
          exact hu2
  | .zsl, n, h => by cases h
  | .nilsl, n, h => by cases h
  | .int _ _, n, h => ⟨rfl, fun p hp => by cases hp⟩
  | .bool _, n, h => ⟨rfl, fun p hp => by cases hp⟩
  | .str _, n, h => ⟨rfl, fun p hp => by cases hp⟩
  | .nilp, n, h => ⟨rfl, fun p hp => by cases hp⟩
  | .und, n, h => ⟨rfl, fun p hp => by cases hp⟩
  | .ptr _ _, n, h => by cases h
  | .eptr _ _, n, h => by cases h
  | .slm _ _ _ _, n, h => by cases h
  | .fn _ _, n, h => by cases h
  | .raw _, n, h => by cases h
theorem thwL_under : ∀ (ds : List V) (n : Nat), V.plainL ds = true → V.underL (n + cvL ds) (thwL n ds).1 = true ∧ ∀ p ∈ (thwL n ds).2, V.underL (n + cvL ds) p.2 = true
  | [], n, h => ⟨rfl, fun p hp => by cases hp⟩
  | d :: ds, n, h => by
    simp only [V.plainL, Bool.and_eq_true] at h
    obtain ⟨a1, a2⟩ := thw_under d n h.1
    obtain ⟨b1, b2⟩ := thwL_under ds (n + cv d) h.2
    simp only [thwL, thw_cv, cvL]
    rw [← Nat.add_assoc]
    refine ⟨?_, fun p hp => ?_⟩
    · simp only [V.underL, Bool.and_eq_true]
      exact ⟨under_le (by omega) a1, b1⟩
    · rcases List.mem_append.1 hp with hp | hp
      · exact underL_le (by omega) (a2 p hp)
      · exact b2 p hp
end
theorem VCalls.dropB {P : Program} {f : FuncId} {args : List V} {t : S} {d r : V} {n : Nat} (hr : r.scal = true) (hd : d.plain = true) (hn : n + cv d ≤ t.next)
    (h : VCalls P f args t (fun v t' => v = r ∧ ∃ ys, t' = (t.blk n (thw n d).2).ext ys)) : VCalls P f args t (fun v t' => v = r ∧ t' = t.blk n (thw n d).2) := by
  intro E vals h1 h2
  refine (h E vals h1 h2).mono ?_
  rintro e w' ⟨E1, v, val, s', rfl, rfl, ⟨rfl, ys, rfl⟩, k, rp, st⟩
  have hlen : (thw n d).2.length = cv d := thw_cv d n
  have hnx : (t.blk n (thw n d).2).next = t.next := rfl
  obtain ⟨E', hw, r2, st2, rep2⟩ := dropExt (s := t.blk n (thw n d).2) (xs := []) (ys := ys) h1 (by rw [hnx]; rfl) k st (fun l cs hl => by
    simp only [S.ext, List.getElem?_nil] at hl
    split at hl
    · simp only [S.blk] at hl
      split at hl
      · right
        obtain ⟨p, hp, rfl⟩ := Option.map_eq_some_iff.1 hl
        have := (thw_under d n hd).2 p (List.mem_of_getElem? hp)
        have := underL_le (m := t.next + 0) (by omega) this
        rw [V.underL_eq] at this
        exact this
      · exact .inl hl
    · cases hl)
  have e0 : (t.blk n (thw n d).2).ext [] = t.blk n (thw n d).2 := by
    have h0 := ext_nil h1
    refine S.ext_eq (fun x => ?_) (fun x => ?_) rfl
    · have := congrFun (congrArg S.vars h0) x
      simp only [S.ext, List.getElem?_nil] at this ⊢
      split
      · rfl
      · rename_i hx
        have hx' : ¬ x < t.next := hx
        rw [if_neg hx'] at this
        simp only [S.blk]
        rw [if_neg (by omega)]
        exact this
    · exact congrFun (congrArg S.fams h0) x
  rw [e0] at r2 st2
  exact ⟨E', _, val, _, rfl, hw, ⟨rfl, rfl⟩, r2, rep2 _ _ (by cases v <;> first | rfl | cases hr) rp, st2⟩
theorem ext_blk {t : S} {xs : List Own} {n : Nat} {B : List (Nat × List V)} (hn : n + B.length ≤ t.next) : (t.ext xs).blk n B = (t.blk n B).ext xs := by
  refine S.ext_eq (fun x => ?_) (fun _ => rfl) rfl
  simp only [S.ext, S.blk]
  by_cases h1 : n ≤ x ∧ x < n + B.length
  · rw [if_pos h1]
    split
    · rfl
    · rename_i hx
      exact (hx (show x < t.next by omega)).elim
  · rw [if_neg h1]
    split <;> rfl
theorem HasV.ext0 {t : S} {xs : List Own} {n : Nat} {os : List (Nat × List V)} (h : HasV t n os) (hl : n + os.length ≤ t.next) : HasV (t.ext xs) n os := fun j p hj => by
  have hlt := (List.getElem?_eq_some_iff.1 hj).1
  rw [ext_vars_lt _ _ (by omega)]
  exact h j p hj
section
variable {P : Program} {N : Nat} {ops : Array Oper} {l : List Oper} {K : Kn → S → Prop} {L : Kn} {t : S} {xs : List Own} {d : Nat} {ty : TypeId} {p : String} {a : Array Edge}
/-- A call that marks variables of the caller's. -/
theorem LOps.markX {f : Operand} {g : FuncId} {args : Array Operand} {B : Array TypeId} {dv v : V} {kk : Int} {m : Nat} (hf : opd L f = some (.fn g [])) (ha : opdL L args.toList = some [v, .int .i64 kk]) (hok : CallOk P g)
    (hc : MarkC P g dv) (hv : v = (thw m dv).1) (hh : HasV t m (thw m dv).2) (hl : m + cv dv ≤ t.next) (h0 : 0 ≤ kk) (hb : nk dv kk ≤ 4000000000000)
    (hk : LOps P N ops l K ((d, .int .i64 (nk dv kk)) :: L) ((t.blk m (thw m (mkV dv kk)).2).ext xs)) :
    LOps P N ops (⟨some d, .call ⟨.value f, args, B⟩, ty, p, a, none⟩ :: l) K L (t.ext xs) := by
  subst hv
  refine .call hf ha rfl hok (hc (t.ext xs) m kk (hh.ext0 (by rw [thw_cv]; exact hl)) h0 hb) fun v s' hv => ?_
  obtain ⟨rfl, rfl⟩ := hv
  rw [ext_blk (by rw [thw_cv, mk_cv]; exact hl)]
  exact hk
end
theorem plain_map {α : Type} {f : α → V} (sz : Nat) (h1 : ∀ x, (f x).plain = true) (h2 : ∀ x, (f x).cells.length = sz) (l : List α) : V.plain (.sl 0 (l.map f)) = true := by
  simp only [V.plain, Bool.and_eq_true, beq_self_eq_true, true_and, V.plainL_eq, List.all_eq_true, List.mem_map]
  refine ⟨sameSz_of (sz := sz) fun x hx => ?_, ?_⟩
  · obtain ⟨y, _, rfl⟩ := List.mem_map.1 hx
    exact h2 y
  · rintro x ⟨y, _, rfl⟩
    exact h1 y
end Go.Proofs.YtbnbmcplmipgdaaGreatDoor
namespace Go.Proofs.YtbnbmcplmipgdaaGreatDoor
open Go
variable {s : S} {xs : List Own}
theorem TrL.scal {t : S} : ∀ {l : List V}, l.all V.scal = true → TrL t l l []
  | [], _ => .nil
  | v :: l, h => by
    simp only [List.all_cons, Bool.and_eq_true] at h
    exact .cons (.scal h.1) (TrL.scal h.2)
theorem thw_cellsO (n i : Nat) (xs : List V) : cellsO (thw n (.sl i xs)).1 = some [(thw n (.sl i xs)).1] := by
  unfold thw
  cases xs.isEmpty <;> rfl
theorem thw_one (n i : Nat) (xs : List V) : (thw n (.sl i xs)).1.one = true := by
  unfold thw
  cases xs.isEmpty <;> rfl
theorem thw_onesO (n i : Nat) (xs : List V) : onesO [(thw n (.sl i xs)).1] = true := by
  unfold thw
  cases xs.isEmpty <;> rfl
theorem ones_cons {v : V} {l : List V} (h : v.one = true) (k : onesO l = true) : onesO (v :: l) = true := by
  unfold onesO
  rw [h]
  exact k
section
variable {P : Program} {N : Nat} {ops : Array Oper} {l : List Oper} {K : Kn → S → Prop} {L : Kn} {d : Nat} {ty : TypeId} {p : String} {a : Array Edge}
end
theorem HasV.extC (A : List Own) {m : Nat} {d : V} (hm : m = s.next + A.length) : HasV (s.ext (A ++ thawed m d)) m (thw m d).2 := by
  have h := HasV.ext (s := s) (A := A) (B := []) (os := (thw m d).2) hm
  rwa [List.append_nil] at h
end Go.Proofs.YtbnbmcplmipgdaaGreatDoor
namespace Go.Proofs.YtbnbmcplmipgdaaGreatDoor
open Go
/-- New variables that hold a value's slices are taken for slices that nobody writes. -/
theorem VTurn.thaw (s : S) {d : V} (hd : d.plain = true) : VTurn (thw s.next d).1 (s.ext (thawed s.next d)) d (s.ext ((thawed s.next d).map fun _ => Own.gone)) := by
  intro E val hr hv
  let x := s.ext (thawed s.next d)
  let y := s.ext ((thawed s.next d).map fun _ => Own.gone)
  let t : S := { vars := fun l => if l < s.next then none else x.vars l, fams := fun _ => none, next := x.next }
  have hyv : ∀ l cs, y.vars l = some cs → l < s.next ∧ x.vars l = some cs := by
    intro l cs h
    change (if l < s.next then s.vars l else Own.cells? ((thawed s.next d).map fun _ => Own.gone)[l - s.next]?) = some cs at h
    split at h
    · rename_i hl
      exact ⟨hl, by show (if l < s.next then s.vars l else _) = _; rw [if_pos hl]; exact h⟩
    · rw [List.getElem?_map] at h
      cases hq : (thawed s.next d)[l - s.next]? with
      | none => rw [hq] at h; cases h
      | some o => rw [hq] at h; cases h
  have hyf : ∀ l p, y.fams l = some p → x.fams l = some p := by
    intro l p h
    change (if l < s.next then s.fams l else Own.fam? ((thawed s.next d).map fun _ => Own.gone)[l - s.next]?) = some p at h
    split at h
    · rename_i hl
      show (if l < s.next then s.fams l else _) = _
      rw [if_pos hl]; exact h
    · rw [List.getElem?_map] at h
      cases hq : (thawed s.next d)[l - s.next]? with
      | none => rw [hq] at h; cases h
      | some o => rw [hq] at h; cases h
  have htv : ∀ l cs, t.vars l = some cs → s.next ≤ l ∧ x.vars l = some cs := by
    intro l cs h
    change (if l < s.next then none else x.vars l) = some cs at h
    split at h
    · cases h
    · exact ⟨by omega, h⟩
  have hyn : y.next = x.next := by show s.next + _ = s.next + _; rw [List.length_map]
  have ht : RelS E t := hr.weaken (fun l cs h => (htv l cs h).2) (fun l p h => by cases h) (Nat.le_refl _)
  have hy : RelS E y := hr.weaken (fun l cs h => (hyv l cs h).2) hyf (Nat.le_of_eq hyn.symm)
  have hrd : Rd t (thw s.next d).1 d := Rd_thw d s.next hd fun j p hj => by
    show (if s.next + j < s.next then none else x.vars (s.next + j)) = _
    rw [if_neg (by omega)]
    exact HasV.extC (s := s) [] (d := d) (m := s.next) (by simp) j p hj
  refine ⟨lentEnv E t, rfl, hr.fin3 ⟨⟨fun _ _ i => .inl i, fun _ _ _ => rfl, fun _ _ h => h, fun id F h => ⟨F, h, Nat.le_refl _, fun _ => rfl⟩⟩, rfl, rfl, rfl, Nat.le_refl _, fun _ _ _ => rfl, fun k hk tr => ?_, Nat.le_of_eq hyn.symm⟩ ?_ (Rd.rep ht hrd hv)⟩
  · rcases tr with ⟨l, hl, hg⟩ | ⟨id, F, hl, hF, hb⟩
    · obtain ⟨cs, hcs⟩ := Option.isSome_iff_exists.1 hl
      exact .inl ⟨l, by rw [(hyv l cs hcs).2]; rfl, hg⟩
    · obtain ⟨p, hp⟩ := Option.isSome_iff_exists.1 hl
      exact .inr ⟨id, F, by rw [hyf id p hp]; rfl, hF, hb⟩
  · refine ⟨fun l cs hl => ?_, hy.varinj, fun id n sz hid => ?_, hy.faminj, hy.famvar, hy.fresh, hy.pos, fun g o i => ?_⟩
    · obtain ⟨g, arr, e, fr, h1, h2⟩ := hy.var l cs hl
      obtain ⟨hlt, hx⟩ := hyv l cs hl
      refine ⟨g, arr, e, fr, h1, h2.heap, h2.rep.evolve (E' := lentEnv E t) ⟨fun _ _ i => Or.inl i, fun _ _ _ => rfl, fun _ _ h => h, fun id F h => ⟨F, h, Nat.le_refl _, fun _ => rfl⟩⟩, h2.le, h2.free, fun o i => ?_⟩
      rcases i with i | ⟨l', cs', hl', hg', _⟩
      · exact h2.imm o i
      · obtain ⟨hge, hx'⟩ := htv l' cs' hl'
        have := hr.varinj l l' g (by show (x.vars l).isSome = true; rw [hx]; rfl) (by show (x.vars l').isSome = true; rw [hx']; rfl) h1 hg'
        omega
    · obtain ⟨h00, F, h1, h2, h3, h4, h5, h6⟩ := hy.fam id n sz hid
      refine ⟨h00, F, h1, h2, h3, h4, h5, fun g hg => ?_⟩
      obtain ⟨arr, e, fr, h7, h8, h8', h9⟩ := h6 g hg
      refine ⟨arr, e, fr, h7, h8, h8', fun o ho i => ?_⟩
      rcases i with i | ⟨l', cs', hl', hg', _⟩
      · exact h9 o ho i
      · obtain ⟨hge, hx'⟩ := htv l' cs' hl'
        exact hr.famvar l' g id F (by show (x.vars l').isSome = true; rw [hx']; rfl) hg' (by show (x.fams id).isSome = true; rw [hyf id _ hid]; rfl) h1 hg
    · rcases i with i | ⟨l', cs', hl', hg', ho⟩
      · exact hy.imm g o i
      · obtain ⟨hge, hx'⟩ := htv l' cs' hl'
        obtain ⟨g', arr, e, fr, k1, k2⟩ := hr.var l' cs' hx'
        rw [hg'] at k1
        cases k1
        have := k2.le
        exact ⟨arr[o]'(by omega), by show E.w.cell? _ = _; rw [cell_of_row E.w _ _ arr e fr k2.heap]; simp⟩
mutual
theorem plain_dat : ∀ (d : V), d.plain = true → d.dat = true
  | .agg cs, h => plainL_dat cs h
  | .sl id xs, h => by
    simp only [V.plain, Bool.and_eq_true, beq_iff_eq] at h
    obtain ⟨⟨rfl, _⟩, h2⟩ := h
    simp only [V.dat, plainL_dat xs h2, beq_self_eq_true, Bool.and_self]
  | .int _ _, _ | .bool _, _ | .str _, _ | .nilp, _ | .und, _ => rfl
  | .tup _, h | .ptr _ _, h | .eptr _ _, h | .zsl, h | .nilsl, h | .slm _ _ _ _, h | .fn _ _, h | .raw _, h => by cases h
theorem plainL_dat : ∀ (ds : List V), V.plainL ds = true → V.datL ds = true
  | [], _ => rfl
  | d :: ds, h => by
    simp only [V.plainL, Bool.and_eq_true] at h
    simp only [V.datL, plain_dat d h.1, plainL_dat ds h.2, Bool.and_self]
end
theorem plain_forget : ∀ (v : V), v.plain = true → v.forget = v := by
  intro v
  refine V.rec (motive_1 := fun v => v.plain = true → v.forget = v) (motive_2 := fun vs => V.plainL vs = true → V.forgetL vs = vs) ?_ ?_ ?_ ?_ ?_ ?_ ?_ ?_ ?_ ?_ ?_ ?_ ?_ ?_ ?_ ?_ ?_ v
  all_goals (intros; simp_all [V.plain, V.plainL, V.forget, V.forgetL])
theorem VCalls.pureOf {P : Program} {f : FuncId} {ds : List V} {d : V} (hds : V.plainL ds = true) (hd : d.plain = true) (h : ∀ t, VCalls P f ds t (fun v t' => Own2 d v t')) (s : S) : VCalls P f ds s (fun v s' => v = d ∧ s' = s) := by
  refine VCalls.pure (plain_dat d hd) (VCalls.turn (VCalls.lend2 (RdL.plain ds hds) h) ?_)
  rintro v s' _ ⟨rfl, rfl⟩
  exact ⟨d, _, VTurn.thaw s hd, plain_forget d hd, fun l hl => ext_vars_lt s _ hl, fun l hl => ext_fams_lt s _ hl⟩
/-! ### Results in slices that were appended to -/
section
variable {s : S} {xs : List Own}
theorem Own2.fam {α : Type} {f : α → V} {cs : List α} {k szf : Nat} (sz : Nat) (hk : nthO xs k = some (.fam cs.length szf)) (h1 : ∀ x, (f x).cells.length = sz) (h2 : ∀ x, (f x).cells.all V.scal = true) :
    Own2 (.sl 0 (cs.map f)) (.sl (s.next + k) (cs.map f)) (s.ext xs) := by
  cases cs with
  | nil => exact ⟨[], .emp, List.nodup_nil⟩
  | cons c cs =>
    refine ⟨[] ++ [(false, s.next + k)], .sl (sz := szf) (sz' := sz) rfl rfl (cells_map h1 (c :: cs)) ?_ (TrL.scal ?_), by simp⟩
    · rw [ext_fams, nthO_eq hk, List.length_map]; rfl
    · rw [List.all_eq_true]
      intro v hv
      simp only [V.flat, List.mem_flatMap, List.mem_map] at hv
      obtain ⟨_, ⟨x, _, rfl⟩, hv⟩ := hv
      exact List.all_eq_true.1 (h2 x) v hv
end
theorem thw_one_of {v : V} (h : v.one = true) (n : Nat) : (thw n v).1.one = true := by
  cases v with
  | sl id xs => exact thw_one n id xs
  | agg cs => cases h
  | tup cs => cases h
  | und => cases h
  | raw w => cases h
  | _ => rfl
theorem thwL_ones : ∀ {vs : List V} (n : Nat), vs.all V.one = true → (thwL n vs).1.all V.one = true
  | [], _, _ => rfl
  | v :: vs, n, h => by
    rw [List.all_cons, Bool.and_eq_true] at h
    unfold thwL
    rw [List.all_cons, thw_one_of h.1, thwL_ones _ h.2]
    rfl
theorem thw_cells_ones {v : V} (n : Nat) (h : v.cells.all V.one = true) : (thw n v).1.cells.all V.one = true := by
  rw [(thw_cells' v n).1]
  exact thwL_ones n h
theorem thw_cells_len (v : V) (n : Nat) : (thw n v).1.cells.length = v.cells.length := by
  rw [(thw_cells' v n).1, thwL_len]
/-! ### Marks of what is held by value: its scalars stay -/
mutual
def mkT : V → Int → V
  | .agg cs, k => .agg (mkTL cs k)
  | .sl id xs, k => .sl id (mkL xs k)
  | .int i m, _ => .int i m
  | .bool b, _ => .bool b
  | .str b, _ => .str b
  | .tup vs, _ => .tup vs
  | .ptr l o, _ => .ptr l o
  | .eptr cs o, _ => .eptr cs o
  | .nilp, _ => .nilp
  | .zsl, _ => .zsl
  | .nilsl, _ => .nilsl
  | .slm x l o n, _ => .slm x l o n
  | .fn f cs, _ => .fn f cs
  | .und, _ => .und
  | .raw v, _ => .raw v
def mkTL : List V → Int → List V
  | [], _ => []
  | v :: vs, k => mkT v k :: mkTL vs (nkT v k)
def nkT : V → Int → Int
  | .agg cs, k => nkTL cs k
  | .sl _ xs, k => nkL xs k
  | .int _ _, k | .bool _, k | .str _, k | .tup _, k | .ptr _ _, k | .eptr _ _, k | .nilp, k | .zsl, k | .nilsl, k | .slm _ _ _ _, k | .fn _ _, k | .und, k | .raw _, k => k
def nkTL : List V → Int → Int
  | [], k => k
  | v :: vs, k => nkTL vs (nkT v k)
end
mutual
theorem nkT_le : ∀ (v : V) (k : Int), k ≤ nkT v k
  | .agg cs, k => by simp only [nkT]; exact nkTL_le cs k
  | .sl _ xs, k => by simp only [nkT]; exact nkL_le xs k
  | .int _ _, k | .bool _, k | .str _, k | .tup _, k | .ptr _ _, k | .eptr _ _, k | .nilp, k | .zsl, k | .nilsl, k | .slm _ _ _ _, k | .fn _ _, k | .und, k | .raw _, k => by simp only [nkT]; omega
theorem nkTL_le : ∀ (vs : List V) (k : Int), k ≤ nkTL vs k
  | [], k => by simp only [nkTL]; omega
  | v :: vs, k => by
    have h1 := nkT_le v k
    have h2 := nkTL_le vs (nkT v k)
    simp only [nkTL]; omega
end
mutual
theorem mkT_cv : ∀ (v : V) (k : Int), cv (mkT v k) = cv v
  | .agg cs, k => by simp only [mkT, cv, mkTL_cv cs k]
  | .sl id xs, k => mk_cv (.sl id xs) k
  | .int _ _, k | .bool _, k | .str _, k | .tup _, k | .ptr _ _, k | .eptr _ _, k | .nilp, k | .zsl, k | .nilsl, k | .slm _ _ _ _, k | .fn _ _, k | .und, k | .raw _, k => by simp only [mkT]
theorem mkTL_cv : ∀ (vs : List V) (k : Int), cvL (mkTL vs k) = cvL vs
  | [], k => rfl
  | v :: vs, k => by simp only [mkTL, cvL, mkT_cv v k, mkTL_cv vs]
end
mutual
theorem mkT_plain : ∀ (v : V) (k : Int), v.plain = true → (mkT v k).plain = true
  | .agg cs, k, h => mkTL_plain cs k h
  | .sl id xs, k, h => mk_plain (.sl id xs) k h
  | .int _ _, k, h | .bool _, k, h | .str _, k, h | .nilp, k, h | .und, k, h => by simp only [mkT]; exact h
  | .tup _, k, h | .ptr _ _, k, h | .eptr _ _, k, h | .zsl, k, h | .nilsl, k, h | .slm _ _ _ _, k, h | .fn _ _, k, h | .raw _, k, h => by cases h
theorem mkTL_plain : ∀ (vs : List V) (k : Int), V.plainL vs = true → V.plainL (mkTL vs k) = true
  | [], _, _ => rfl
  | v :: vs, k, h => by
    simp only [V.plainL, Bool.and_eq_true] at h
    simp only [mkTL, V.plainL, mkT_plain v k h.1, mkTL_plain vs _ h.2, Bool.and_self]
end
mutual
/-- It stays where it is. -/
theorem thw_mkT : ∀ (v : V) (n : Nat) (k : Int), (thw n (mkT v k)).1 = (thw n v).1
  | .agg cs, n, k => by simp only [mkT, thw, thwL_mkT cs n k]
  | .sl id xs, n, k => thw_mk_sl n id xs k
  | .int _ _, n, k | .bool _, n, k | .str _, n, k | .tup _, n, k | .ptr _ _, n, k | .eptr _ _, n, k | .nilp, n, k | .zsl, n, k | .nilsl, n, k | .slm _ _ _ _, n, k | .fn _ _, n, k | .und, n, k | .raw _, n, k => by simp only [mkT]
theorem thwL_mkT : ∀ (vs : List V) (n : Nat) (k : Int), (thwL n (mkTL vs k)).1 = (thwL n vs).1
  | [], n, k => rfl
  | v :: vs, n, k => by simp only [mkTL, thwL, thw_mkT v n k, thw_cv, mkT_cv, thwL_mkT vs _ _]
end
mutual
/-- How many scalars are marked. -/
def sc : V → Nat
  | .int _ _ | .bool _ | .str _ => 1
  | .agg cs => scL cs
  | .sl _ xs => scL xs
  | .tup _ | .ptr _ _ | .eptr _ _ | .nilp | .zsl | .nilsl | .slm _ _ _ _ | .fn _ _ | .und | .raw _ => 0
def scL : List V → Nat
  | [] => 0
  | v :: vs => sc v + scL vs
end
mutual
theorem nk_sc : ∀ (v : V) (k : Int), nk v k = k + (sc v : Nat)
  | .int _ _, k | .bool _, k | .str _, k => by simp only [nk, sc]; omega
  | .agg cs, k => by simp only [nk, sc]; exact nkL_sc cs k
  | .sl _ xs, k => by simp only [nk, sc]; exact nkL_sc xs k
  | .tup _, k | .ptr _ _, k | .eptr _ _, k | .nilp, k | .zsl, k | .nilsl, k | .slm _ _ _ _, k | .fn _ _, k | .und, k | .raw _, k => by simp only [nk, sc]; omega
theorem nkL_sc : ∀ (vs : List V) (k : Int), nkL vs k = k + (scL vs : Nat)
  | [], k => by simp only [nkL, scL]; omega
  | v :: vs, k => by
    have h1 := nk_sc v k
    have h2 := nkL_sc vs (nk v k)
    simp only [nkL, scL]; omega
end
mutual
theorem nkT_sc : ∀ (v : V) (k : Int), nkT v k ≤ k + (sc v : Nat)
  | .agg cs, k => by simp only [nkT, sc]; exact nkTL_sc cs k
  | .sl _ xs, k => by simp only [nkT, sc, nkL_sc]; omega
  | .int _ _, k | .bool _, k | .str _, k | .tup _, k | .ptr _ _, k | .eptr _ _, k | .nilp, k | .zsl, k | .nilsl, k | .slm _ _ _ _, k | .fn _ _, k | .und, k | .raw _, k => by simp only [nkT]; omega
theorem nkTL_sc : ∀ (vs : List V) (k : Int), nkTL vs k ≤ k + (scL vs : Nat)
  | [], k => by simp only [nkTL]; omega
  | v :: vs, k => by
    have h1 := nkT_sc v k
    have h2 := nkTL_sc vs (nkT v k)
    simp only [nkTL, scL]; omega
end
theorem scL_append : ∀ (a b : List V), scL (a ++ b) = scL a + scL b
  | [], b => by simp [scL]
  | x :: a, b => by simp only [List.cons_append, scL, scL_append a b]; omega
theorem scL_map {α : Type} {f : α → V} (c : Nat) (h : ∀ x, sc (f x) ≤ c) : ∀ (l : List α), scL (l.map f) ≤ c * l.length
  | [] => by simp [scL]
  | x :: l => by
    have h1 := h x
    have h2 := scL_map c h l
    simp only [List.map_cons, scL, List.length_cons, Nat.mul_add]; omega
end Go.Proofs.YtbnbmcplmipgdaaGreatDoor
