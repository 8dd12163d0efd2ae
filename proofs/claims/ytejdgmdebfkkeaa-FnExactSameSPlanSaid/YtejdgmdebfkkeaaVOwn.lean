/-
  Results made of new memory alone: what they look like in the world, and calls that lend their arguments. Own work; no condition.
-/
import Derived.Test.YtejdgmdebfkkeaaVLend2
namespace Go.Proofs.Ytejdgmdebfkkeaa
open Go

theorem flat_cons (y : V) (ys : List V) : V.flat (y :: ys) = y.cells ++ V.flat ys := by simp [V.flat]

theorem thwL_append : ∀ (a b : List V) (n : Nat), thwL n (a ++ b) = ((thwL n a).1 ++ (thwL (n + (thwL n a).2.length) b).1, (thwL n a).2 ++ (thwL (n + (thwL n a).2.length) b).2)
  | [], b, n => by simp [thwL]
  | x :: a, b, n => by
    simp only [List.cons_append, thwL, thwL_append a b]
    simp only [List.length_append, Nat.add_assoc, List.append_assoc]

theorem thw_cells' (x : V) (n : Nat) : (thw n x).1.cells = (thwL n x.cells).1 ∧ (thw n x).2 = (thwL n x.cells).2 := by
  have one : ∀ y : V, (thw n y).1.cells = [(thw n y).1] → y.cells = [y] → (thw n y).1.cells = (thwL n y.cells).1 ∧ (thw n y).2 = (thwL n y.cells).2 := fun y h1 h2 => by
    rw [h2, h1]
    simp [thwL]
  cases x with
  | agg cs => exact ⟨rfl, rfl⟩
  | raw v =>
    have : ∀ l : List Value, thwL n (l.map V.raw) = (l.map V.raw, []) := by
      intro l
      clear one
      induction l with
      | nil => rfl
      | cons a l ih =>
        simp only [List.map_cons, thwL, thw, List.length_nil, Nat.add_zero, ih, List.append_nil]
    simp only [thw, V.cells, this, and_self]
  | sl id xs =>
    refine one _ ?_ rfl
    unfold thw
    cases xs.isEmpty <;> rfl
  | _ => exact one _ rfl rfl

theorem thwL_flat' : ∀ (xs : List V) (n : Nat), V.flat (thwL n xs).1 = (thwL n (V.flat xs)).1 ∧ (thwL n xs).2 = (thwL n (V.flat xs)).2
  | [], n => ⟨rfl, rfl⟩
  | x :: xs, n => by
    obtain ⟨h1, h2⟩ := thw_cells' x n
    obtain ⟨h3, h4⟩ := thwL_flat' xs (n + (thw n x).2.length)
    rw [flat_cons, thwL_append]
    simp only [thwL, flat_cons]
    rw [h3, h4, h1, h2]
    exact ⟨rfl, rfl⟩

/-! ### In the world -/
mutual
/-- The value reads as d, and its slices lie each in a block of its own, the inner ones first. -/
inductive WT (w : World) : V → Value → List Nat → Prop
  | int {k n} : k.min ≤ n → n ≤ k.max → WT w (.int k n) (.int k n) []
  | bool {b} : WT w (.bool b) (.bool b) []
  | str {s} : s.length ≤ maxLen → WT w (.str s) (.string ⟨s.toArray⟩) []
  | nilp : WT w .nilp (.pointer none) []
  | und : WT w .und undef []
  | emp0 {a} : WT w (.sl 0 []) (.slice a 0 0) []
  | emp {g off cap} : cap ≤ maxLen → WT w (.sl 0 []) (.slice (some ⟨g, off, none⟩) 0 cap) []
  | sl {ds sz g cap arr e fr gs} : ds.isEmpty = false → (∀ x ∈ ds, x.cells.length = sz) → ds.length ≤ cap → cap ≤ maxLen → w.heap[g]? = some (.cells arr e fr) → (V.flat ds).length ≤ arr.size →
      (∀ o, o < (V.flat ds).length → ¬ (fr.1 ≤ o ∧ o < fr.2)) → WTL w (V.flat ds) (arr.toList.take (V.flat ds).length) gs → WT w (.sl 0 ds) (.slice (some ⟨g, 0, none⟩) ds.length cap) (gs ++ [g])
  | agg {cs vals gs} : WTL w cs vals gs → WT w (.agg cs) (.agg vals.toArray) gs
  | tup {cs vals gs} : WTL w cs vals gs → WT w (.tup cs) (.tuple vals.toArray) gs
inductive WTL (w : World) : List V → List Value → List Nat → Prop
  | nil : WTL w [] [] []
  | cons {d ds val vals a b} : WT w d val a → WTL w ds vals b → WTL w (d :: ds) (val :: vals) (a ++ b)
end

def VarIs (w : World) (E3 : Env) (g : Nat) (cs : List V) : Prop := ∃ arr e fr, w.heap[g]? = some (.cells arr e fr) ∧ RepL E3 cs (arr.toList.take cs.length) ∧ cs.length ≤ arr.size ∧ ∀ o, o < cs.length → ¬ (fr.1 ≤ o ∧ o < fr.2)

def Placed (E3 : Env) (n : Nat) (gs : List Nat) : Prop := ∀ j g, gs[j]? = some g → E3.loc (n + j) = some g
theorem Placed.left {E3 : Env} {n : Nat} {a b : List Nat} (h : Placed E3 n (a ++ b)) : Placed E3 n a := fun j g hj => h j g (by
  rw [List.getElem?_append_left (List.getElem?_eq_some_iff.1 hj).1]; exact hj)
theorem Placed.right {E3 : Env} {n : Nat} {a b : List Nat} (h : Placed E3 n (a ++ b)) : Placed E3 (n + a.length) b := fun j g hj => by
  have := h (a.length + j) g (by rw [List.getElem?_append_right (by omega), Nat.add_sub_cancel_left]; exact hj)
  rw [Nat.add_assoc]; exact this

def VarsAre (w : World) (E3 : Env) (gs : List Nat) (os : List (Nat × List V)) : Prop := ∀ (j g : Nat) (p : Nat × List V), gs[j]? = some g → os[j]? = some p → VarIs w E3 g p.2
theorem VarsAre.append {w : World} {E3 : Env} {a b : List Nat} {oa ob : List (Nat × List V)} (hl : oa.length = a.length) (h1 : VarsAre w E3 a oa) (h2 : VarsAre w E3 b ob) : VarsAre w E3 (a ++ b) (oa ++ ob) := by
  intro j g p hg hp
  by_cases h : j < a.length
  · rw [List.getElem?_append_left h] at hg
    rw [List.getElem?_append_left (by omega)] at hp
    exact h1 j g p hg hp
  · rw [List.getElem?_append_right (by omega)] at hg
    rw [List.getElem?_append_right (by omega), hl] at hp
    exact h2 _ g p hg hp

mutual
theorem WT.place {w : World} {E3 : Env} : ∀ {d : V} {val : Value} {gs : List Nat}, WT w d val gs → ∀ n, Placed E3 n gs → RepV E3 (thw n d).1 val ∧ (thw n d).2.length = gs.length ∧ VarsAre w E3 gs (thw n d).2
  | _, _, _, .int a b, n, _ => ⟨.int a b, rfl, fun j g p h => by simp at h⟩
  | _, _, _, .bool, n, _ => ⟨.bool, rfl, fun j g p h => by simp at h⟩
  | _, _, _, .str a, n, _ => ⟨.str a, rfl, fun j g p h => by simp at h⟩
  | _, _, _, .nilp, n, _ => ⟨.nilp, rfl, fun j g p h => by simp at h⟩
  | _, _, _, .und, n, _ => ⟨.und, rfl, fun j g p h => by simp at h⟩
  | _, _, _, .emp0, n, _ => ⟨.slz (.inl rfl), rfl, fun j g p h => by simp at h⟩
  | _, _, _, .emp (g := g) (off := off) a, n, _ => ⟨RepV.sl (xs := []) (vals := []) (sz := 0) (by simp) (by simp) a .nil (fun j v hj => by simp at hj) (.inl rfl), rfl, fun j g p h => by simp at h⟩
  | _, _, _, .agg (cs := cs) h, n, hp => by
    obtain ⟨a, b, c⟩ := WTL.place h n hp
    exact ⟨.agg a, b, c⟩
  | _, _, _, .tup h, n, hp => by
    obtain ⟨a, b, c⟩ := WTL.place h n hp
    exact ⟨.tup a, b, c⟩
  | _, _, _, .sl (ds := ds) (sz := sz) (g := g) (arr := arr) (e := e) (fr := fr) (gs := gs) h1 h2 h3 h4 h5 h6 h7 h8, n, hp => by
    obtain ⟨a, b, c⟩ := WTL.place h8 n hp.left
    obtain ⟨f1, f2⟩ := thwL_flat' ds n
    have hth : thw n (.sl 0 ds) = (.slm false (n + gs.length) 0 ds.length, (thwL n (V.flat ds)).2 ++ [(0, (thwL n (V.flat ds)).1)]) := by
      unfold thw
      rw [h1]
      simp only [Bool.false_eq_true, if_false, f1, f2, b]
    rw [hth]
    refine ⟨.slm (hp.right 0 g rfl) h3 h4 (fun hx => by cases hx), by simp [b], VarsAre.append b c fun j g' p hg hpp => ?_⟩
    cases j with
    | succ j => simp at hg
    | zero =>
      simp only [List.getElem?_cons_zero, Option.some.injEq] at hg hpp
      subst hg hpp
      simp only
      refine ⟨arr, e, fr, h5, ?_, by rw [thwL_len]; exact h6, fun o ho => h7 o (by rw [thwL_len] at ho; exact ho)⟩
      rw [thwL_len]
      exact a
theorem WTL.place {w : World} {E3 : Env} : ∀ {ds : List V} {vals : List Value} {gs : List Nat}, WTL w ds vals gs → ∀ n, Placed E3 n gs → RepL E3 (thwL n ds).1 vals ∧ (thwL n ds).2.length = gs.length ∧ VarsAre w E3 gs (thwL n ds).2
  | _, _, _, .nil, n, _ => ⟨.nil, rfl, fun j g p h => by simp at h⟩
  | _, _, _, .cons (a := a) (b := b) h t, n, hp => by
    obtain ⟨a1, b1, c1⟩ := WT.place h n hp.left
    obtain ⟨a2, b2, c2⟩ := WTL.place t (n + a.length) hp.right
    simp only [thwL]
    rw [b1]
    exact ⟨.cons a1 a2, by simp [b1, b2], VarsAre.append b1 c1 c2⟩
end

/-! ### In a state -/
mutual
/-- The value reads as d, and its slices are new ones: each a whole slice that may be appended to, or a variable. -/
inductive Tr (t : S) : V → V → List (Bool × Nat) → Prop
  | scal {v} : v.scal = true → Tr t v v []
  | zsl : Tr t .zsl (.sl 0 []) []
  | nilsl : Tr t .nilsl (.sl 0 []) []
  | emp {id} : Tr t (.sl id []) (.sl 0 []) []
  | emp' {ex l o} : Tr t (.slm ex l o 0) (.sl 0 []) []
  | sl {id us ds sz sz' ls} : us.isEmpty = false → us.length = ds.length → (∀ x ∈ ds, x.cells.length = sz') → t.fams id = some (us.length, sz) → TrL t (V.flat us) (V.flat ds) ls → Tr t (.sl id us) (.sl 0 ds) (ls ++ [(false, id)])
  | slm {ex l n us ds sz' ls} : ds.isEmpty = false → n = ds.length → (∀ x ∈ ds, x.cells.length = sz') → t.vars l = some us → TrL t us (V.flat ds) ls → Tr t (.slm ex l 0 n) (.sl 0 ds) (ls ++ [(true, l)])
  | agg {cs ds ls} : TrL t cs ds ls → Tr t (.agg cs) (.agg ds) ls
  | tup {cs ds ls} : TrL t cs ds ls → Tr t (.tup cs) (.tup ds) ls
inductive TrL (t : S) : List V → List V → List (Bool × Nat) → Prop
  | nil : TrL t [] [] []
  | cons {v vs d ds a b} : Tr t v d a → TrL t vs ds b → TrL t (v :: vs) (d :: ds) (a ++ b)
end

/-- Where a new slice lies. -/
def Lies (E : Env) (t : S) (p : Bool × Nat) (g : Nat) : Prop :=
  (p.1 = true ∧ (t.vars p.2).isSome = true ∧ E.loc p.2 = some g) ∨ (p.1 = false ∧ (t.fams p.2).isSome = true ∧ ∃ F, E.fam p.2 = some F ∧ F.blk = some g)
inductive LiesL (E : Env) (t : S) : List (Bool × Nat) → List Nat → Prop
  | nil : LiesL E t [] []
  | cons {p ps g gs} : Lies E t p g → LiesL E t ps gs → LiesL E t (p :: ps) (g :: gs)
theorem LiesL.append {E : Env} {t : S} : ∀ {a : List (Bool × Nat)} {ga : List Nat} {b : List (Bool × Nat)} {gb : List Nat}, LiesL E t a ga → LiesL E t b gb → LiesL E t (a ++ b) (ga ++ gb)
  | _, _, _, _, .nil, k => k
  | _, _, _, _, .cons h r, k => .cons h (r.append k)
theorem Lies.inj {E : Env} {t : S} (hr : RelS E t) {p q : Bool × Nat} {g : Nat} (h : Lies E t p g) (k : Lies E t q g) : p = q := by
  obtain ⟨b, l⟩ := p
  obtain ⟨b', l'⟩ := q
  rcases h with ⟨rfl, h2, h3⟩ | ⟨rfl, h2, F, h3, h4⟩ <;> rcases k with ⟨rfl, k2, k3⟩ | ⟨rfl, k2, F', k3, k4⟩
  · simp only at h2 h3 k2 k3
    rw [hr.varinj l l' g h2 k2 h3 k3]
  · exact (hr.famvar l g l' F' h2 h3 k2 k3 k4).elim
  · exact (hr.famvar l' g l F k2 k3 h2 h3 h4).elim
  · simp only at h2 h3 k2 k3
    rw [hr.faminj l l' F F' g h2 k2 h3 k3 h4 k4]
theorem LiesL.mem {E : Env} {t : S} : ∀ {ps : List (Bool × Nat)} {gs : List Nat}, LiesL E t ps gs → ∀ {g}, g ∈ gs → ∃ p ∈ ps, Lies E t p g
  | _, _, .nil, g, h => by cases h
  | _, _, .cons h r, g, hg => by
    rcases List.mem_cons.1 hg with rfl | hg
    · exact ⟨_, by simp, h⟩
    · obtain ⟨p, hp, h2⟩ := LiesL.mem r hg
      exact ⟨p, by simp [hp], h2⟩
theorem LiesL.nodup {E : Env} {t : S} (hr : RelS E t) : ∀ {ps : List (Bool × Nat)} {gs : List Nat}, LiesL E t ps gs → ps.Nodup → gs.Nodup
  | _, _, .nil, _ => List.nodup_nil
  | _, _, .cons h r, hn => by
    rw [List.nodup_cons] at hn ⊢
    refine ⟨fun hg => ?_, LiesL.nodup hr r hn.2⟩
    obtain ⟨q, hq, h2⟩ := r.mem hg
    exact hn.1 (Lies.inj hr h h2 ▸ hq)

theorem TrL.len {t : S} : ∀ {vs ds : List V} {ls : List (Bool × Nat)}, TrL t vs ds ls → ds.length = vs.length
  | _, _, _, .nil => rfl
  | _, _, _, .cons _ r => by simp [TrL.len r]

mutual
theorem Tr.world {E : Env} {t : S} (hr : RelS E t) : ∀ {v d : V} {ls : List (Bool × Nat)}, Tr t v d ls → ∀ {val : Value}, RepV E v val → ∃ gs, WT E.w d val gs ∧ LiesL E t ls gs
  | _, _, _, .scal h, val, k => by
    refine ⟨[], ?_, .nil⟩
    cases k with
    | int a b => exact .int a b
    | bool => exact .bool
    | str a => exact .str a
    | nilp => exact .nilp
    | und => exact .und
    | _ => cases h
  | _, _, _, .zsl, val, k => by cases k with | zsl => exact ⟨[], .emp0, .nil⟩
  | _, _, _, .nilsl, val, k => by cases k with | nilsl => exact ⟨[], .emp0, .nil⟩
  | _, _, _, .emp, val, k => by
    cases k with
    | sl a b c r sg f => exact ⟨[], .emp c, .nil⟩
    | slz f => exact ⟨[], .emp0, .nil⟩
  | _, _, _, .emp', val, k => by cases k with | slm a b c d => exact ⟨[], .emp c, .nil⟩
  | _, _, _, .sl (us := us) (ds := ds) h1 h2 h3 h4 h5, val, k => by
    obtain ⟨F, g, vals, sz, a1, a2, a3, rfl, a5, a6, ha, hrl, hsg, arr, e, fr, k1, k2, k3⟩ := whole_sl hr k h1 ⟨_, h4⟩
    obtain ⟨gs, m1, m2⟩ := TrL.world hr h5 hrl
    have hfl := flat_uniform ha
    have hcap : us.length * sz ≤ F.cap * sz := Nat.mul_le_mul_right _ a5
    have hfl2 : (V.flat us).length = us.length * sz := hfl
    have hvl := hrl.length
    have hdl := h5.len
    have hst := seg_take hsg k1
    rw [h2]
    refine ⟨gs ++ [g], .sl (by cases ds with | nil => (have : us = [] := List.length_eq_zero_iff.1 h2); rw [this] at h1; exact h1 | cons _ _ => rfl) h3 (by omega) a6 k1 (by omega) (fun o ho => k3 o (by omega)) ?_, m2.append (.cons (.inr ⟨rfl, by simp only; rw [h4]; rfl, F, a1, a2⟩) .nil)⟩
    rw [hdl, ← hvl, hst]
    exact m1
  | _, _, _, .slm (l := l) (us := us) (ds := ds) h1 h2 h3 h4 h5, val, k => by
    subst h2
    cases k with
    | @slm _ _ _ _ cap g hg hle hmx hex =>
      obtain ⟨g', arr, e, fr, a1, a2⟩ := hr.var _ _ h4
      rw [hg] at a1
      cases a1
      obtain ⟨gs, m1, m2⟩ := TrL.world hr h5 a2.rep
      have hdl := h5.len
      have hle2 := a2.le
      refine ⟨gs ++ [g], .sl h1 h3 hle hmx a2.heap (by omega) (fun o ho => a2.free o (by omega)) ?_, m2.append (.cons (.inl ⟨rfl, by simp only; rw [h4]; rfl, hg⟩) .nil)⟩
      rw [hdl]
      exact m1
  | _, _, _, .agg h, val, k => by
    cases k with
    | agg r =>
      obtain ⟨gs, a, b⟩ := TrL.world hr h r
      exact ⟨gs, .agg a, b⟩
  | _, _, _, .tup h, val, k => by
    cases k with
    | tup r =>
      obtain ⟨gs, a, b⟩ := TrL.world hr h r
      exact ⟨gs, .tup a, b⟩
theorem TrL.world {E : Env} {t : S} (hr : RelS E t) : ∀ {vs ds : List V} {ls : List (Bool × Nat)}, TrL t vs ds ls → ∀ {vals : List Value}, RepL E vs vals → ∃ gs, WTL E.w ds vals gs ∧ LiesL E t ls gs
  | _, _, _, .nil, vals, k => by cases k; exact ⟨[], .nil, .nil⟩
  | _, _, _, .cons h r, vals, k => by
    cases k with
    | cons k1 k2 =>
      obtain ⟨ga, a1, a2⟩ := Tr.world hr h k1
      obtain ⟨gb, b1, b2⟩ := TrL.world hr r k2
      exact ⟨ga ++ gb, .cons a1 b1, a2.append b2⟩
end

/-- A result of new memory alone. -/
def Own2 (d v : V) (t : S) : Prop := ∃ ls, Tr t v d ls ∧ ls.Nodup

/-- A CALL ON ARGUMENTS IN VARIABLES, OF ONE THAT ONLY READS PLAIN DATA AND ANSWERS NEW MEMORY ALONE. -/
theorem VCalls.lend2 {P : Program} {f : FuncId} {vs ds : List V} {s : S} {d : V} (hrd : RdL s vs ds) (h : ∀ t, VCalls P f ds t (fun v t' => Own2 d v t')) :
    VCalls P f vs s (fun v s' => v = (thw s.next d).1 ∧ s' = s.ext (thawed s.next d)) := by
  intro E vals h1 h2
  let t : S := { vars := fun _ => none, fams := fun _ => none, next := s.next }
  have ht : RelS (lentEnv E s) t := by
    refine ⟨fun l cs hl => (by cases hl), fun l l' g hl => (by cases hl), fun id n sz hid => (by cases hid), fun id id' F F' g hid => (by cases hid), fun l g id F hl => (by cases hl), h1.fresh, h1.pos, fun g o i => ?_⟩
    rcases i with i | ⟨l, cs, hv, hg, ho⟩
    · exact h1.imm g o i
    · obtain ⟨g', arr, e, fr, k1, k2⟩ := h1.var l cs hv
      rw [hg] at k1
      cases k1
      have := k2.le
      exact ⟨arr[o]'(by omega), by show E.w.cell? _ = _; rw [cell_of_row E.w _ _ arr e fr k2.heap]; simp⟩
  have hnt : ∀ k, ¬ Tracked (lentEnv E s) t k := by
    rintro k (⟨l, hl, _⟩ | ⟨id, F, hl, _⟩) <;> cases hl
  refine (h t (lentEnv E s) vals ht (RdL.rep h1 hrd h2)).mono ?_
  rintro e w' ⟨E2, v, val, t', rfl, rfl, ⟨ls, ow1, ow2⟩, k, r, st⟩
  obtain ⟨gs, wt, li⟩ := Tr.world k ow1 r
  have hnd := li.nodup k ow2
  have hsame : ∀ b, b < E.w.heap.size → E2.w.heap[b]? = E.w.heap[b]? := fun b hb => st.block b hb (hnt b)
  have hfresh : ∀ g, g ∈ gs → E.w.heap.size ≤ g := by
    intro g hg
    obtain ⟨p, _, hp⟩ := li.mem hg
    rcases Nat.lt_or_ge g E.w.heap.size with hlt | hge
    · refine (hnt g (st.track g hlt ?_)).elim
      rcases hp with ⟨_, a, b⟩ | ⟨_, a, F, b, c⟩
      · exact .inl ⟨_, a, b⟩
      · exact .inr ⟨_, F, a, b, c⟩
    · exact hge
  let os := (thw s.next d).2
  let E3 : Env := { w := E2.w, imm := E.imm, loc := fun l => if l < s.next then E.loc l else gs[l - s.next]?, fam := fun l => if l < s.next then E.fam l else none }
  have hE3l : ∀ l, l < s.next → E3.loc l = E.loc l := fun l hl => by show (if l < s.next then E.loc l else _) = _; rw [if_pos hl]
  have hE3n : ∀ j, E3.loc (s.next + j) = gs[j]? := fun j => by
    show (if s.next + j < s.next then E.loc (s.next + j) else _) = _
    rw [if_neg (by omega), Nat.add_sub_cancel_left]
  have hE3f : ∀ l, l < s.next → E3.fam l = E.fam l := fun l hl => by show (if l < s.next then E.fam l else none) = _; rw [if_pos hl]
  obtain ⟨hrep, hlen, hvar⟩ := wt.place (E3 := E3) s.next fun j g hj => by rw [hE3n, hj]
  have hlt : ∀ l, (s.vars l).isSome = true → l < s.next := fun l hl => by
    rcases Nat.lt_or_ge l s.next with h | h
    · exact h
    · rw [(h1.none_of_le h).1] at hl; cases hl
  have hltf : ∀ l, (s.fams l).isSome = true → l < s.next := fun l hl => by
    rcases Nat.lt_or_ge l s.next with h | h
    · exact h
    · rw [(h1.none_of_le h).2] at hl; cases hl
  have hlt2 : ∀ l g, E.loc l = some g → l < s.next := fun l g hl => by
    rcases Nat.lt_or_ge l s.next with h | h
    · exact h
    · rw [(h1.fresh l h).1] at hl; cases hl
  have hltf2 : ∀ l F, E.fam l = some F → l < s.next := fun l g hl => by
    rcases Nat.lt_or_ge l s.next with h | h
    · exact h
    · rw [(h1.fresh l h).2] at hl; cases hl
  have ev : Evolve E E3 := ⟨fun _ _ i => i, fun g o i => by
      have := h1.imm_lt i
      show E2.w.cell? _ = _
      simp only [World.cell?, hsame g this], fun l g hl => (hE3l l (hlt2 l g hl)).trans hl, fun id F hF => ⟨F, (hE3f id (hltf2 id F hF)).trans hF, Nat.le_refl _, fun _ => rfl⟩⟩
  have hth : thawed s.next d = os.map fun p => Own.var p.2 := rfl
  have hvars : ∀ l, l < s.next → (s.ext (thawed s.next d)).vars l = s.vars l := fun l hl => ext_vars_lt _ _ hl
  have hvarn : ∀ j, (s.ext (thawed s.next d)).vars (s.next + j) = (os[j]?).map (·.2) := fun j => by
    rw [ext_vars, hth, List.getElem?_map]
    cases os[j]? <;> rfl
  have hfams : ∀ l q, (s.ext (thawed s.next d)).fams l = some q → s.fams l = some q := by
    intro l q hq
    simp only [S.ext] at hq
    split at hq
    · exact hq
    · rw [hth, List.getElem?_map] at hq
      cases hc : os[l - s.next]? with
      | none => rw [hc] at hq; cases hq
      | some p => rw [hc] at hq; cases hq
  have hnew : ∀ j cs, (s.ext (thawed s.next d)).vars (s.next + j) = some cs → ∃ p g, os[j]? = some p ∧ p.2 = cs ∧ gs[j]? = some g := by
    intro j cs hj
    rw [hvarn] at hj
    obtain ⟨p, hp, rfl⟩ := Option.map_eq_some_iff.1 hj
    have : j < gs.length := by rw [← hlen]; exact (List.getElem?_eq_some_iff.1 hp).1
    exact ⟨p, gs[j], hp, rfl, List.getElem?_eq_getElem this⟩
  have hsplit : ∀ l, l < s.next ∨ ∃ j, l = s.next + j := fun l => by
    rcases Nat.lt_or_ge l s.next with h | h
    · exact .inl h
    · exact .inr ⟨l - s.next, by omega⟩
  have hnl : ∀ j g, E3.loc (s.next + j) = some g → gs[j]? = some g ∧ E.w.heap.size ≤ g := by
    intro j g hg
    rw [hE3n] at hg
    exact ⟨hg, hfresh g (List.mem_of_getElem? hg)⟩
  have hrel : RelS E3 (s.ext (thawed s.next d)) := by
    refine ⟨fun l cs hl => ?_, fun l l' g hl hl' hg hg' => ?_, fun id n sz hid => ?_, fun id id' F F' g hid hid' hF hF' => ?_, fun l g id F hl hg hid hF hb => ?_, fun l hl => ?_, by have := h1.pos; rw [ext_next]; omega, fun g o i => ?_⟩
    · rcases hsplit l with hll | ⟨j, rfl⟩
      · rw [hvars l hll] at hl
        obtain ⟨g, arr, e, fr, m1, m2⟩ := h1.var l cs hl
        exact ⟨g, arr, e, fr, (hE3l l hll).trans m1, ⟨(hsame g (Array.getElem?_eq_some_iff.1 m2.heap).1).trans m2.heap, m2.rep.evolve ev, m2.le, m2.free, m2.imm⟩⟩
      · obtain ⟨p, g, hp, rfl, hg⟩ := hnew j cs hl
        obtain ⟨arr, e, fr, a3, a4, a5, a6⟩ := hvar j g p hg hp
        refine ⟨g, arr, e, fr, by rw [hE3n, hg], ⟨a3, a4, a5, a6, fun o i => ?_⟩⟩
        have := hfresh g (List.mem_of_getElem? hg)
        have := h1.imm_lt i
        omega
    · rcases hsplit l with hll | ⟨j, rfl⟩
      · rw [hvars l hll] at hl
        rw [hE3l l hll] at hg
        rcases hsplit l' with hll' | ⟨j', rfl⟩
        · rw [hvars l' hll'] at hl'
          rw [hE3l l' hll'] at hg'
          exact h1.varinj l l' g hl hl' hg hg'
        · obtain ⟨_, hge⟩ := hnl j' g hg'
          have := h1.loc_lt hl hg
          omega
      · obtain ⟨b1, hge⟩ := hnl j g hg
        rcases hsplit l' with hll' | ⟨j', rfl⟩
        · rw [hvars l' hll'] at hl'
          rw [hE3l l' hll'] at hg'
          have := h1.loc_lt hl' hg'
          omega
        · obtain ⟨c1, _⟩ := hnl j' g hg'
          have hj : j < gs.length := (List.getElem?_eq_some_iff.1 b1).1
          rw [(List.getElem?_inj hj hnd).1 (b1.trans c1.symm)]
    · have hid0 := hfams id _ hid
      obtain ⟨h00, F, m1, m2, m3, m4, m5, m6⟩ := h1.fam id n sz hid0
      refine ⟨h00, F, (hE3f id (hltf id (by rw [hid0]; rfl))).trans m1, m2, m3, m4, m5, fun g hg => ?_⟩
      obtain ⟨arr, e, fr, m7, m8⟩ := m6 g hg
      exact ⟨arr, e, fr, (hsame g (Array.getElem?_eq_some_iff.1 m7).1).trans m7, m8⟩
    · obtain ⟨q, hq⟩ := Option.isSome_iff_exists.1 hid
      obtain ⟨q', hq'⟩ := Option.isSome_iff_exists.1 hid'
      have a1 := hfams id q hq
      have a2 := hfams id' q' hq'
      rw [hE3f id (hltf id (by rw [a1]; rfl))] at hF
      rw [hE3f id' (hltf id' (by rw [a2]; rfl))] at hF'
      exact h1.faminj id id' F F' g (by rw [a1]; rfl) (by rw [a2]; rfl) hF hF'
    · obtain ⟨q, hq⟩ := Option.isSome_iff_exists.1 hid
      have a1 := hfams id q hq
      rw [hE3f id (hltf id (by rw [a1]; rfl))] at hF
      rcases hsplit l with hll | ⟨j, rfl⟩
      · rw [hvars l hll] at hl
        rw [hE3l l hll] at hg
        exact h1.famvar l g id F hl hg (by rw [a1]; rfl) hF hb
      · obtain ⟨_, hge⟩ := hnl j g hg
        have := h1.fam_lt (by rw [a1]; rfl) hF hb
        omega
    · rw [ext_next] at hl
      refine ⟨?_, ?_⟩
      · obtain ⟨j, rfl⟩ : ∃ j, l = s.next + j := ⟨l - s.next, by omega⟩
        rw [hE3n]
        exact List.getElem?_eq_none (by have hlen' : os.length = gs.length := hlen; rw [hth, List.length_map] at hl; omega)
      · show (if l < s.next then E.fam l else none) = none
        rw [if_neg (by omega)]
    · obtain ⟨x, hx⟩ := h1.imm g o i
      exact ⟨x, (ev.cell g o i).trans hx⟩
  refine ⟨E3, (thw s.next d).1, val, s.ext (thawed s.next d), rfl, rfl, ⟨rfl, rfl⟩, hrel, hrep,
    ⟨ev, st.os, st.tape, st.output, st.size, fun b hb _ => hsame b hb, fun q hq htr => ?_, by rw [ext_next]; omega⟩⟩
  rcases htr with ⟨l, hl, hg⟩ | ⟨id, F, hl, hF, hg⟩
  · rcases hsplit l with hll | ⟨j, rfl⟩
    · rw [hvars l hll] at hl
      rw [hE3l l hll] at hg
      exact .inl ⟨l, hl, hg⟩
    · obtain ⟨_, hge⟩ := hnl j q hg
      have : q < E.w.heap.size := hq
      omega
  · obtain ⟨q', hq'⟩ := Option.isSome_iff_exists.1 hl
    have a1 := hfams id q' hq'
    rw [hE3f id (hltf id (by rw [a1]; rfl))] at hF
    exact .inr ⟨id, F, by rw [a1]; rfl, hF, hg⟩

end Go.Proofs.Ytejdgmdebfkkeaa
