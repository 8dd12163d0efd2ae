/-
  A call whose arguments lie in variables, taken for plain data while it runs; its result, made of new slices alone, lies in new variables.
  Lending: a call that only reads its arguments, which lie in variables.
  Own work; no condition.
-/
import Derived.Test.YtkkifdgnebbghaaVL
namespace Go.Proofs.Ytkkifdgnebbghaa
open Go

/-- Of no memory. -/
def V.scal : V → Bool
  | .int _ _ | .bool _ | .str _ | .nilp | .und => true
  | _ => false

mutual
/-- The slices of a value that hold something, the inner ones first. -/
def V.ids : V → List Nat
  | .agg cs => V.idsL cs
  | .tup vs => V.idsL vs
  | .sl id xs => V.idsL xs ++ (if xs.isEmpty then [] else [id])
  | .int _ _ | .bool _ | .str _ | .ptr _ _ | .eptr _ _ | .nilp | .zsl | .nilsl | .slm _ _ _ _ | .fn _ _ | .und | .raw _ => []
def V.idsL : List V → List Nat
  | [] => []
  | v :: vs => V.ids v ++ V.idsL vs
end

mutual
/-- Each slice that holds something is all of a slice that may be appended to. -/
def V.full (s : S) : V → Prop
  | .agg cs => V.fullL s cs
  | .tup vs => V.fullL s vs
  | .sl id xs => (xs.isEmpty = true ∨ ∃ sz, s.fams id = some (xs.length, sz)) ∧ V.fullL s xs
  | .int _ _ | .bool _ | .str _ | .nilp | .zsl | .nilsl | .und => True
  | .ptr _ _ | .eptr _ _ | .slm _ _ _ _ | .fn _ _ | .raw _ => False
def V.fullL (s : S) : List V → Prop
  | [] => True
  | v :: vs => V.full s v ∧ V.fullL s vs
end

mutual
/-- The value with its slices in variables, numbered from n on: and what the variables hold, each with the slice's old name. -/
def thw : Nat → V → V × List (Nat × List V)
  | n, .agg cs => (.agg (thwL n cs).1, (thwL n cs).2)
  | n, .tup vs => (.tup (thwL n vs).1, (thwL n vs).2)
  | n, .sl id xs => if xs.isEmpty then (.sl 0 [], []) else (.slm .un (n + (thwL n xs).2.length) 0 xs.length, (thwL n xs).2 ++ [(id, V.flat (thwL n xs).1)])
  | _, .zsl => (.sl 0 [], [])
  | _, .nilsl => (.sl 0 [], [])
  | _, .int k m => (.int k m, [])
  | _, .bool b => (.bool b, [])
  | _, .str b => (.str b, [])
  | _, .ptr l o => (.ptr l o, [])
  | _, .eptr cs o => (.eptr cs o, [])
  | _, .nilp => (.nilp, [])
  | _, .slm x l o m => (.slm x l o m, [])
  | _, .fn f cs => (.fn f cs, [])
  | _, .und => (.und, [])
  | _, .raw v => (.raw v, [])
def thwL : Nat → List V → List V × List (Nat × List V)
  | _, [] => ([], [])
  | n, v :: vs => ((thw n v).1 :: (thwL (n + (thw n v).2.length) vs).1, (thw n v).2 ++ (thwL (n + (thw n v).2.length) vs).2)
end

mutual
theorem thw_ids : ∀ (v : V) (n : Nat), (thw n v).2.map (·.1) = v.ids
  | .agg cs, n => by simp only [thw, V.ids]; exact thwL_ids cs n
  | .tup cs, n => by simp only [thw, V.ids]; exact thwL_ids cs n
  | .sl id xs, n => by
    unfold thw V.ids
    cases h : xs.isEmpty with
    | true =>
      have : xs = [] := by simpa using h
      subst this
      simp [V.idsL]
    | false => simp [thwL_ids xs n]
  | .zsl, _ | .nilsl, _ | .int _ _, _ | .bool _, _ | .str _, _ | .ptr _ _, _ | .eptr _ _, _ | .nilp, _ | .slm _ _ _ _, _ | .fn _ _, _ | .und, _ | .raw _, _ => rfl
theorem thwL_ids : ∀ (vs : List V) (n : Nat), (thwL n vs).2.map (·.1) = V.idsL vs
  | [], _ => rfl
  | v :: vs, n => by simp only [thwL, V.idsL, List.map_append, thw_ids v n, thwL_ids vs]
end

mutual
/-- What the slices were called does not matter. -/
theorem thw_forget : ∀ (v : V) (n : Nat), (thw n v.forget).1 = (thw n v).1 ∧ (thw n v.forget).2.map (·.2) = (thw n v).2.map (·.2)
  | .agg cs, n => by
    obtain ⟨h1, h2⟩ := thwL_forget cs n
    simp only [V.forget, thw, h1, h2, and_self]
  | .tup cs, n => by
    obtain ⟨h1, h2⟩ := thwL_forget cs n
    simp only [V.forget, thw, h1, h2, and_self]
  | .sl id xs, n => by
    obtain ⟨h1, h2⟩ := thwL_forget xs n
    have hl : (thwL n (V.forgetL xs)).2.length = (thwL n xs).2.length := by
      have := congrArg List.length h2
      simpa using this
    have he : (V.forgetL xs).isEmpty = xs.isEmpty := by rw [V.forgetL_eq]; cases xs <;> rfl
    have hn : (V.forgetL xs).length = xs.length := by rw [V.forgetL_eq, List.length_map]
    simp only [V.forget]
    unfold thw
    rw [he]
    cases h : xs.isEmpty with
    | true => simp
    | false => simp [h1, h2, hl, hn]
  | .zsl, n => by simp [V.forget, thw]
  | .nilsl, n => by simp [V.forget, thw]
  | .int _ _, _ | .bool _, _ | .str _, _ | .ptr _ _, _ | .eptr _ _, _ | .nilp, _ | .slm _ _ _ _, _ | .fn _ _, _ | .und, _ | .raw _, _ => ⟨rfl, rfl⟩
theorem thwL_forget : ∀ (vs : List V) (n : Nat), (thwL n (V.forgetL vs)).1 = (thwL n vs).1 ∧ (thwL n (V.forgetL vs)).2.map (·.2) = (thwL n vs).2.map (·.2)
  | [], _ => ⟨rfl, rfl⟩
  | v :: vs, n => by
    obtain ⟨h1, h2⟩ := thw_forget v n
    have hl : (thw n v.forget).2.length = (thw n v).2.length := by
      have := congrArg List.length h2
      simpa using this
    obtain ⟨h3, h4⟩ := thwL_forget vs (n + (thw n v).2.length)
    simp only [V.forgetL, thwL, hl, h1, h3, List.map_append, h2, h4, and_self]
end

def LocOk (E E3 : Env) (n : Nat) (os : List (Nat × List V)) : Prop := ∀ j id cs, os[j]? = some (id, cs) → ∃ F g, E.fam id = some F ∧ F.blk = some g ∧ E3.loc (n + j) = some g

theorem LocOk.left {E E3 : Env} {n : Nat} {a b : List (Nat × List V)} (h : LocOk E E3 n (a ++ b)) : LocOk E E3 n a := fun j id cs hj => h j id cs (by
  rw [List.getElem?_append_left (List.getElem?_eq_some_iff.1 hj).1]; exact hj)
theorem LocOk.right {E E3 : Env} {n : Nat} {a b : List (Nat × List V)} (h : LocOk E E3 n (a ++ b)) : LocOk E E3 (n + a.length) b := fun j id cs hj => by
  have := h (a.length + j) id cs (by rw [List.getElem?_append_right (by omega), Nat.add_sub_cancel_left]; exact hj)
  rw [Nat.add_assoc]; exact this

theorem cells_one (x : V) (n : Nat) (h : ∀ cs, x ≠ .agg cs) (h2 : ∀ v, x ≠ .raw v) : (thw n x).1.cells = [(thw n x).1] ∧ x.cells = [x] := by
  cases x with
  | agg cs => exact absurd rfl (h cs)
  | raw v => exact absurd rfl (h2 v)
  | sl id xs =>
    refine ⟨?_, rfl⟩
    unfold thw
    cases xs.isEmpty <;> rfl
  | _ => exact ⟨rfl, rfl⟩

theorem rep_empty {E E3 : Env} {val : Value} (h : RepV E (.sl 0 []) val) : RepV E3 (.sl 0 []) val := by
  cases h with
  | @sl _ _ vals g off cap sz a b c r sg f =>
    exact RepV.sl (xs := []) (vals := []) (sz := 0) (by simp) b c .nil (fun j v hj => by simp at hj) (.inl rfl)
  | slz => exact .slz (.inl rfl)

theorem thwL_len : ∀ (vs : List V) (n : Nat), (thwL n vs).1.length = vs.length
  | [], _ => rfl
  | v :: vs, n => by simp only [thwL, List.length_cons, thwL_len vs]

theorem full_fam {E : Env} {s : S} (hr : RelS E s) {id n sz : Nat} (h : s.fams id = some (n, sz)) (hn : 0 < n) : ∃ F g, E.fam id = some F ∧ F.blk = some g ∧ F.len = n ∧ F.sz = sz ∧ n ≤ F.cap ∧ F.cap ≤ maxLen ∧ id ≠ 0 ∧
    ∃ arr e fr, E.w.heap[g]? = some (.cells arr e fr) ∧ F.cap * sz ≤ arr.size ∧ ∀ o, o < F.cap * sz → ¬ (fr.1 ≤ o ∧ o < fr.2) := by
  obtain ⟨h0, F, h1, ⟨h2, h3⟩, h4, h5, h6, h7⟩ := hr.fam id n sz h
  cases hb : F.blk with
  | none => have := h6 hb; omega
  | some g =>
    obtain ⟨arr, e, fr, k1, k2, k3, _⟩ := h7 g hb
    exact ⟨F, g, h1, hb, h2, h3, h4, h5, h0, arr, e, fr, k1, k2, k3⟩

/-- Where a whole slice lies. -/
theorem whole_sl {E : Env} {s : S} (hr : RelS E s) {id : Nat} {xs : List V} {val : Value} (h : RepV E (.sl id xs) val) (hne : xs.isEmpty = false) (hf : ∃ sz, s.fams id = some (xs.length, sz)) :
    ∃ F g vals sz, E.fam id = some F ∧ F.blk = some g ∧ F.sz = sz ∧ val = .slice (some ⟨g, 0, none⟩) xs.length F.cap ∧ xs.length ≤ F.cap ∧ F.cap ≤ maxLen ∧ (∀ x ∈ xs, x.cells.length = sz) ∧ RepL E (V.flat xs) vals ∧ Seg E g 0 vals ∧
      ∃ arr e fr, E.w.heap[g]? = some (.cells arr e fr) ∧ F.cap * sz ≤ arr.size ∧ ∀ o, o < F.cap * sz → ¬ (fr.1 ≤ o ∧ o < fr.2) := by
  obtain ⟨sz0, hf⟩ := hf
  have hpos : 0 < xs.length := by cases xs with | nil => cases hne | cons _ _ => simp
  obtain ⟨F, g, h1, h2, h3, h4, h5, h6, h7, arr, e, fr, k1, k2, k3⟩ := full_fam hr hf hpos
  cases h with
  | @sl _ _ vals g' off cap sz a b c r sg f =>
    rcases f with f | ⟨F', f1, f2, f3⟩
    · exact absurd f h7
    · rw [h1] at f1
      cases f1
      obtain ⟨e1, e2, e3, e4⟩ := f3 h3.symm
      rw [h2] at e1
      cases e1
      subst e2 e3
      rw [h4] at e4
      subst e4
      exact ⟨F, g, vals, sz, h1, h2, h4, rfl, h5, h6, a, r, sg, arr, e, fr, k1, k2, k3⟩
  | slz => cases hne

theorem seg_take {E : Env} {g : Nat} {vals : List Value} {arr : Array Value} {e : TypeId} {fr : Nat × Nat} (h : Seg E g 0 vals) (hh : E.w.heap[g]? = some (.cells arr e fr)) : arr.toList.take vals.length = vals := by
  apply List.ext_getElem?
  intro j
  rw [List.getElem?_take]
  split
  · rename_i hj
    obtain ⟨_, h2⟩ := h j vals[j] (by simp [hj])
    rw [cell_of_row E.w _ _ arr e fr hh, Nat.zero_add] at h2
    rw [List.getElem?_eq_getElem hj, ← h2]
    simp
  · rename_i hj
    rw [List.getElem?_eq_none (by omega)]

section
variable {E E3 : Env} {t : S}
mutual
theorem thw_rep (hr : RelS E t) : ∀ (v : V) (n : Nat) {val : Value}, RepV E v val → v.full t → LocOk E E3 n (thw n v).2 → RepV E3 (thw n v).1 val
  | .agg cs, n, val, h, hf, hl => by
    cases h with
    | agg r => simp only [thw]; exact .agg (thwL_rep hr cs n r hf hl)
  | .tup cs, n, val, h, hf, hl => by
    cases h with
    | tup r => simp only [thw]; exact .tup (thwL_rep hr cs n r hf hl)
  | .sl id xs, n, val, h, hf, hl => by
    unfold thw
    cases he : xs.isEmpty with
    | true =>
      have : xs = [] := by simpa using he
      subst this
      simp only [if_true]
      have := h.forget
      simp only [V.forget, V.forgetL] at this
      exact rep_empty this
    | false =>
      simp only [Bool.false_eq_true, if_false]
      obtain ⟨hf1, hf2⟩ := hf
      have hfm := hf1.resolve_left (by rw [he]; simp)
      obtain ⟨F, g, vals, sz, h1, h2, h3, rfl, h5, h6, _⟩ := whole_sl hr h he hfm
      unfold thw at hl
      rw [he] at hl
      simp only [Bool.false_eq_true, if_false] at hl
      obtain ⟨F', g', f1, f2, f3⟩ := hl (thwL n xs).2.length id (V.flat (thwL n xs).1) (by simp)
      rw [h1] at f1
      cases f1
      rw [h2] at f2
      cases f2
      exact .slm f3 h5 h6 trivial
  | .zsl, n, val, h, hf, hl => by cases h with | zsl => exact RepV.slz (.inl rfl)
  | .nilsl, n, val, h, hf, hl => by cases h with | nilsl => exact RepV.slz (.inl rfl)
  | .int _ _, n, val, h, hf, hl => by cases h with | int a b => exact .int a b
  | .bool _, n, val, h, hf, hl => by cases h with | bool => exact .bool
  | .str _, n, val, h, hf, hl => by cases h with | str a => exact .str a
  | .nilp, n, val, h, hf, hl => by cases h with | nilp => exact .nilp
  | .und, n, val, h, hf, hl => by cases h with | und => exact .und
  | .ptr _ _, n, val, h, hf, hl => hf.elim
  | .eptr _ _, n, val, h, hf, hl => hf.elim
  | .slm _ _ _ _, n, val, h, hf, hl => hf.elim
  | .fn _ _, n, val, h, hf, hl => hf.elim
  | .raw _, n, val, h, hf, hl => hf.elim
theorem thwL_rep (hr : RelS E t) : ∀ (vs : List V) (n : Nat) {vals : List Value}, RepL E vs vals → V.fullL t vs → LocOk E E3 n (thwL n vs).2 → RepL E3 (thwL n vs).1 vals
  | [], n, vals, h, hf, hl => by cases h; exact .nil
  | v :: vs, n, vals, h, hf, hl => by
    cases h with
    | cons h1 h2 =>
      simp only [thwL] at hl ⊢
      exact .cons (thw_rep hr v n h1 hf.1 hl.left) (thwL_rep hr vs _ h2 hf.2 hl.right)
end

theorem thw_cells (hr : RelS E t) (x : V) (n : Nat) {cv : List Value} (h : RepL E x.cells cv) (hf : x.full t) (hl : LocOk E E3 n (thw n x).2) : RepL E3 (thw n x).1.cells cv ∧ (thw n x).1.cells.length = x.cells.length := by
  by_cases h1 : ∃ cs, x = .agg cs
  · obtain ⟨cs, rfl⟩ := h1
    exact ⟨thwL_rep hr cs n h hf hl, by simp only [thw, V.cells, thwL_len]⟩
  by_cases h2 : ∃ v, x = .raw v
  · obtain ⟨v, rfl⟩ := h2
    exact hf.elim
  obtain ⟨e1, e2⟩ := cells_one x n (fun cs e => h1 ⟨cs, e⟩) (fun v e => h2 ⟨v, e⟩)
  rw [e2] at h
  rw [e1, e2]
  cases h with
  | cons k1 k2 =>
    cases k2
    exact ⟨.cons (thw_rep hr x n k1 hf hl) .nil, rfl⟩

theorem thwL_flat (hr : RelS E t) : ∀ (xs : List V) (n : Nat) {vals : List Value}, RepL E (V.flat xs) vals → V.fullL t xs → LocOk E E3 n (thwL n xs).2 → RepL E3 (V.flat (thwL n xs).1) vals ∧ (V.flat (thwL n xs).1).length = (V.flat xs).length
  | [], n, vals, h, hf, hl => by cases h; exact ⟨.nil, rfl⟩
  | x :: xs, n, vals, h, hf, hl => by
    simp only [thwL] at hl ⊢
    have e : ∀ (y : V) (ys : List V), V.flat (y :: ys) = y.cells ++ V.flat ys := fun y ys => by simp [V.flat]
    rw [e] at h
    obtain ⟨a, b, rfl, ha, hb⟩ := RepL.split h
    obtain ⟨k1, k2⟩ := thw_cells hr x n ha hf.1 hl.left
    obtain ⟨k3, k4⟩ := thwL_flat hr xs _ hb hf.2 hl.right
    rw [e, e]
    exact ⟨k1.append k3, by rw [List.length_append, List.length_append, k2, k4]⟩

/-- What a new variable holds. -/
def VarOk (E E3 : Env) (id : Nat) (cs : List V) : Prop := ∃ F g arr e fr, E.fam id = some F ∧ F.blk = some g ∧ E.w.heap[g]? = some (.cells arr e fr) ∧ RepL E3 cs (arr.toList.take cs.length) ∧ cs.length ≤ arr.size ∧ ∀ o, o < cs.length → ¬ (fr.1 ≤ o ∧ o < fr.2)

mutual
theorem thw_var (hr : RelS E t) : ∀ (v : V) (n : Nat) {val : Value}, RepV E v val → v.full t → LocOk E E3 n (thw n v).2 → ∀ p ∈ (thw n v).2, VarOk E E3 p.1 p.2
  | .agg cs, n, val, h, hf, hl => by
    cases h with
    | agg r => exact thwL_var hr cs n r hf hl
  | .tup cs, n, val, h, hf, hl => by
    cases h with
    | tup r => exact thwL_var hr cs n r hf hl
  | .sl id xs, n, val, h, hf, hl => by
    unfold thw at hl ⊢
    cases he : xs.isEmpty with
    | true => intro p hp; simp at hp
    | false =>
      rw [he] at hl
      simp only [Bool.false_eq_true, if_false] at hl ⊢
      obtain ⟨hf1, hf2⟩ := hf
      have hfm := hf1.resolve_left (by rw [he]; simp)
      obtain ⟨F, g, vals, sz, h1, h2, h3, rfl, h5, h6, hc, hrl, hsg, arr, e, fr, k1, k2, k3⟩ := whole_sl hr h he hfm
      obtain ⟨m1, m2⟩ := thwL_flat hr xs n hrl hf2 hl.left
      intro p hp
      rcases List.mem_append.1 hp with hp | hp
      · exact thwL_varF hr xs n hrl hf2 hl.left p hp
      · simp only [List.mem_singleton] at hp
        subst hp
        have hvl := hrl.length
        have hfl := flat_uniform hc
        have hcap : xs.length * sz ≤ F.cap * sz := Nat.mul_le_mul_right _ h5
        have hfl2 : (V.flat xs).length = xs.length * sz := hfl
        refine ⟨F, g, arr, e, fr, h1, h2, k1, ?_, ?_, fun o ho => k3 o ?_⟩
        · have hst := seg_take hsg k1
          simp only
          rw [m2, ← hvl, hst]
          exact m1
        · simp only
          rw [m2]
          omega
        · simp only at ho
          rw [m2] at ho
          omega
  | .zsl, n, val, h, hf, hl => by intro p hp; cases hp
  | .nilsl, n, val, h, hf, hl => by intro p hp; cases hp
  | .int _ _, n, val, h, hf, hl => by intro p hp; cases hp
  | .bool _, n, val, h, hf, hl => by intro p hp; cases hp
  | .str _, n, val, h, hf, hl => by intro p hp; cases hp
  | .nilp, n, val, h, hf, hl => by intro p hp; cases hp
  | .und, n, val, h, hf, hl => by intro p hp; cases hp
  | .ptr _ _, n, val, h, hf, hl => hf.elim
  | .eptr _ _, n, val, h, hf, hl => hf.elim
  | .slm _ _ _ _, n, val, h, hf, hl => hf.elim
  | .fn _ _, n, val, h, hf, hl => hf.elim
  | .raw _, n, val, h, hf, hl => hf.elim
theorem thwL_var (hr : RelS E t) : ∀ (vs : List V) (n : Nat) {vals : List Value}, RepL E vs vals → V.fullL t vs → LocOk E E3 n (thwL n vs).2 → ∀ p ∈ (thwL n vs).2, VarOk E E3 p.1 p.2
  | [], n, vals, h, hf, hl => by intro p hp; cases hp
  | v :: vs, n, vals, h, hf, hl => by
    cases h with
    | cons h1 h2 =>
      simp only [thwL] at hl ⊢
      intro p hp
      rcases List.mem_append.1 hp with hp | hp
      · exact thw_var hr v n h1 hf.1 hl.left p hp
      · exact thwL_var hr vs _ h2 hf.2 hl.right p hp
theorem thwL_varF (hr : RelS E t) : ∀ (vs : List V) (n : Nat) {vals : List Value}, RepL E (V.flat vs) vals → V.fullL t vs → LocOk E E3 n (thwL n vs).2 → ∀ p ∈ (thwL n vs).2, VarOk E E3 p.1 p.2
  | [], n, vals, h, hf, hl => by intro p hp; cases hp
  | v :: vs, n, vals, h, hf, hl => by
    have e : V.flat (v :: vs) = v.cells ++ V.flat vs := by simp [V.flat]
    rw [e] at h
    obtain ⟨a, b, rfl, ha, hb⟩ := RepL.split h
    simp only [thwL] at hl ⊢
    intro p hp
    rcases List.mem_append.1 hp with hp | hp
    · exact thw_varC hr v n ha hf.1 hl.left p hp
    · exact thwL_varF hr vs _ hb hf.2 hl.right p hp
theorem thw_varC (hr : RelS E t) : ∀ (v : V) (n : Nat) {vals : List Value}, RepL E v.cells vals → v.full t → LocOk E E3 n (thw n v).2 → ∀ p ∈ (thw n v).2, VarOk E E3 p.1 p.2
  | .agg cs, n, vals, h, hf, hl => thwL_var hr cs n h hf hl
  | .tup cs, n, vals, h, hf, hl => by
    cases h with
    | cons k1 k2 =>
      cases k1 with
      | tup r => exact thwL_var hr cs n r hf hl
  | .sl id xs, n, vals, h, hf, hl => by
    cases h with
    | cons k1 k2 => exact thw_var hr (.sl id xs) n k1 hf hl
  | .zsl, n, vals, h, hf, hl => by intro p hp; cases hp
  | .nilsl, n, vals, h, hf, hl => by intro p hp; cases hp
  | .int _ _, n, vals, h, hf, hl => by intro p hp; cases hp
  | .bool _, n, vals, h, hf, hl => by intro p hp; cases hp
  | .str _, n, vals, h, hf, hl => by intro p hp; cases hp
  | .nilp, n, vals, h, hf, hl => by intro p hp; cases hp
  | .und, n, vals, h, hf, hl => by intro p hp; cases hp
  | .ptr _ _, n, vals, h, hf, hl => hf.elim
  | .eptr _ _, n, vals, h, hf, hl => hf.elim
  | .slm _ _ _ _, n, vals, h, hf, hl => hf.elim
  | .fn _ _, n, vals, h, hf, hl => hf.elim
  | .raw _, n, vals, h, hf, hl => hf.elim
end
end

/-- Its slices have their places. -/
def IdOk (E : Env) (t : S) (p : Nat × List V) : Prop := (t.fams p.1).isSome = true ∧ ∃ F g, E.fam p.1 = some F ∧ F.blk = some g
mutual
theorem full_ids {E : Env} {t : S} (hr : RelS E t) : ∀ (v : V) (n : Nat) {val : Value}, v.full t → RepV E v val → ∀ p ∈ (thw n v).2, IdOk E t p
  | .agg cs, n, val, hf, h => fullL_ids hr cs n hf
  | .tup cs, n, val, hf, h => fullL_ids hr cs n hf
  | .sl id xs, n, val, hf, h => full_ids' hr (.sl id xs) n hf
  | .zsl, n, val, hf, h => by intro p hp; cases hp
  | .nilsl, n, val, hf, h => by intro p hp; cases hp
  | .int _ _, n, val, hf, h => by intro p hp; cases hp
  | .bool _, n, val, hf, h => by intro p hp; cases hp
  | .str _, n, val, hf, h => by intro p hp; cases hp
  | .nilp, n, val, hf, h => by intro p hp; cases hp
  | .und, n, val, hf, h => by intro p hp; cases hp
  | .ptr _ _, n, val, hf, h => hf.elim
  | .eptr _ _, n, val, hf, h => hf.elim
  | .slm _ _ _ _, n, val, hf, h => hf.elim
  | .fn _ _, n, val, hf, h => hf.elim
  | .raw _, n, val, hf, h => hf.elim
theorem full_ids' {E : Env} {t : S} (hr : RelS E t) : ∀ (v : V) (n : Nat), v.full t → ∀ p ∈ (thw n v).2, IdOk E t p
  | .agg cs, n, hf => fullL_ids hr cs n hf
  | .tup cs, n, hf => fullL_ids hr cs n hf
  | .sl id xs, n, hf => by
    unfold thw
    cases he : xs.isEmpty with
    | true => intro p hp; simp at hp
    | false =>
      simp only [Bool.false_eq_true, if_false]
      obtain ⟨hf1, hf2⟩ := hf
      obtain ⟨sz, hs⟩ := hf1.resolve_left (by rw [he]; simp)
      intro p hp
      rcases List.mem_append.1 hp with hp | hp
      · exact fullL_ids hr xs n hf2 p hp
      · simp only [List.mem_singleton] at hp
        subst hp
        have hpos : 0 < xs.length := by cases xs with | nil => cases he | cons _ _ => simp
        obtain ⟨F, g, h1, h2, _⟩ := full_fam hr hs hpos
        exact ⟨by simp only; rw [hs]; rfl, F, g, h1, h2⟩
  | .zsl, n, hf => by intro p hp; cases hp
  | .nilsl, n, hf => by intro p hp; cases hp
  | .int _ _, n, hf => by intro p hp; cases hp
  | .bool _, n, hf => by intro p hp; cases hp
  | .str _, n, hf => by intro p hp; cases hp
  | .nilp, n, hf => by intro p hp; cases hp
  | .und, n, hf => by intro p hp; cases hp
  | .ptr _ _, n, hf => hf.elim
  | .eptr _ _, n, hf => hf.elim
  | .slm _ _ _ _, n, hf => hf.elim
  | .fn _ _, n, hf => hf.elim
  | .raw _, n, hf => hf.elim
theorem fullL_ids {E : Env} {t : S} (hr : RelS E t) : ∀ (vs : List V) (n : Nat), V.fullL t vs → ∀ p ∈ (thwL n vs).2, IdOk E t p
  | [], n, hf => by intro p hp; cases hp
  | v :: vs, n, hf => by
    simp only [thwL]
    intro p hp
    rcases List.mem_append.1 hp with hp | hp
    · exact full_ids' hr v n hf.1 p hp
    · exact fullL_ids hr vs _ hf.2 p hp
end

end Go.Proofs.Ytkkifdgnebbghaa

namespace Go.Proofs.Ytkkifdgnebbghaa
open Go

mutual
/-- What a value reads as, in a state. -/
inductive Rd (s : S) : V → V → Prop
  | scal {v} : v.scal = true → Rd s v v
  | zsl : Rd s .zsl (.sl 0 [])
  | nilsl : Rd s .nilsl (.sl 0 [])
  | sl {id us ds} : RdL s us ds → Rd s (.sl id us) (.sl 0 ds)
  | slm {ex l n us ds sz rest} : s.vars l = some (V.flat us ++ rest) → us.length = n → (∀ u ∈ us, u.cells.length = sz) → RdL s us ds → Rd s (.slm ex l 0 n) (.sl 0 ds)
  | slm0 : Rd s (.slm (.is 0) 0 0 0) (.sl 0 [])
  | agg {cs ds} : RdL s cs ds → Rd s (.agg cs) (.agg ds)
  | ptr {l k cs ds} : s.vars l = some cs → RdL s cs ds → Rd s (.ptr l k) (.eptr ds k)
  | fn {f cs ds} : RdL s cs ds → Rd s (.fn f cs) (.fn f ds)
  | eptr {cs k} : Rd s (.eptr cs k) (.eptr cs k)
inductive RdL (s : S) : List V → List V → Prop
  | nil : RdL s [] []
  | cons {v d vs ds} : Rd s v d → RdL s vs ds → RdL s (v :: vs) (d :: ds)
end

theorem RdL.len {s : S} : ∀ {vs ds : List V}, RdL s vs ds → ds.length = vs.length
  | _, _, .nil => rfl
  | _, _, .cons _ t => by simp [RdL.len t]

theorem Rd.cells_len {s : S} {v d : V} (h : Rd s v d) : d.cells.length = v.cells.length := by
  cases h with
  | agg h => exact h.len
  | scal h => rfl
  | _ => rfl

theorem RdL.cells_all {s : S} : ∀ {vs ds : List V} {sz : Nat}, RdL s vs ds → (∀ v ∈ vs, v.cells.length = sz) → ∀ d ∈ ds, d.cells.length = sz
  | _, _, _, .nil, _ => fun d hd => by cases hd
  | _, _, _, .cons h t, ha => fun d hd => by
    rcases List.mem_cons.1 hd with rfl | hd
    · rw [h.cells_len]; exact ha _ (by simp)
    · exact RdL.cells_all t (fun v hv => ha v (by simp [hv])) d hd

def lentEnv (E : Env) (s : S) : Env := { E with imm := fun g o => E.imm g o ∨ ∃ l cs, s.vars l = some cs ∧ E.loc l = some g ∧ o < cs.length }

theorem Seg.lent {E : Env} {s : S} {g off : Nat} {vals : List Value} (h : Seg E g off vals) : Seg (lentEnv E s) g off vals := fun j v hj => ⟨.inl (h j v hj).1, (h j v hj).2⟩

mutual
theorem Rd.rep {E : Env} {s : S} (hr : RelS E s) : ∀ {v d : V} {val : Value}, Rd s v d → RepV E v val → RepV (lentEnv E s) d val
  | _, _, val, .scal h, k => by
    cases k with
    | int a b => exact .int a b
    | bool => exact .bool
    | str a => exact .str a
    | nilp => exact .nilp
    | und => exact .und
    | _ => cases h
  | _, _, val, .zsl, k => by cases k with | zsl => exact .slz (.inl rfl)
  | _, _, val, .nilsl, k => by cases k with | nilsl => exact .slz (.inl rfl)
  | _, _, val, .sl h, k => by
    cases k with
    | @sl _ _ vals g off cap sz a b c r sg f =>
      have hl := h.len
      have := RepV.sl (E := lentEnv E s) (id := 0) (g := g) (off := off) (cap := cap) (RdL.cells_all h a) (by omega) c (RdL.repF hr h r) (Seg.lent sg) (.inl rfl)
      rw [hl] at this
      exact this
    | slz f => cases h; exact .slz (.inl rfl)
  | _, _, val, .slm (l := l) (us := us) hv hn hc h, k => by
    cases k with
    | @slm _ _ _ _ cap g hg hle hmx hex =>
      obtain ⟨g', arr, e, fr, h1, h2⟩ := hr.var _ _ hv
      rw [hg] at h1
      cases h1
      have hl := h.len
      obtain ⟨va, vb, hab, hva, hvb⟩ := RepL.split h2.rep
      have := RepV.sl (E := lentEnv E s) (id := 0) (g := g) (off := 0) (cap := cap) (RdL.cells_all h hc) (by omega) hmx (RdL.repF hr h hva) (fun j x hj => ?_) (.inl rfl)
      · rw [hl, hn] at this
        exact this
      · have hj2 : (va ++ vb)[j]? = some x := by rw [List.getElem?_append_left (List.getElem?_eq_some_iff.1 hj).1]; exact hj
        rw [← hab, List.getElem?_take] at hj2
        split at hj2
        · rename_i hjl
          refine ⟨.inr ⟨l, _, hv, hg, by omega⟩, ?_⟩
          show E.w.cell? _ = _
          rw [cell_of_row E.w _ _ arr e fr h2.heap, Nat.zero_add]
          simpa using hj2
        · cases hj2
    | slm0 =>
      have h0 : us = [] := List.length_eq_zero_iff.1 hn
      subst h0
      cases h
      exact .slz (.inl rfl)
  | _, _, val, .slm0, k => by
    cases k with
    | slm hg hle hmx hex =>
      have e : _ = 0 := hex
      subst e
      exact .slz (.inl rfl)
    | slm0 => exact .slz (.inl rfl)
  | _, _, val, .agg h, k => by cases k with | agg r => exact .agg (RdL.rep hr h r)
  | _, _, val, .fn h, k => by cases k with | fn r => exact .fn (RdL.rep hr h r)
  | _, _, val, .eptr, k => RepV.evolve (E' := lentEnv E s) ⟨fun _ _ i => Or.inl i, fun _ _ _ => rfl, fun _ _ h => h, fun id F h => ⟨F, h, Nat.le_refl _, fun _ => rfl⟩⟩ k
  | _, _, val, .ptr (l := l) (k := k0) hv h, k => by
    cases k with
    | @ptr _ _ g hg =>
      obtain ⟨g', arr, e, fr, h1, h2⟩ := hr.var _ _ hv
      rw [hg] at h1
      cases h1
      have := RepV.eptr (E := lentEnv E s) (g := g) (off := 0) (k := k0) (RdL.rep hr h h2.rep) (fun j x hj => ?_)
      · rw [Nat.zero_add] at this
        exact this
      · rw [List.getElem?_take] at hj
        split at hj
        · rename_i hjl
          refine ⟨.inr ⟨l, _, hv, hg, by omega⟩, ?_⟩
          show E.w.cell? _ = _
          rw [cell_of_row E.w _ _ arr e fr h2.heap, Nat.zero_add]
          simpa using hj
        · cases hj
theorem RdL.rep {E : Env} {s : S} (hr : RelS E s) : ∀ {vs ds : List V} {vals : List Value}, RdL s vs ds → RepL E vs vals → RepL (lentEnv E s) ds vals
  | _, _, _, .nil, k => by cases k; exact .nil
  | _, _, _, .cons h t, k => by cases k with | cons k1 k2 => exact .cons (Rd.rep hr h k1) (RdL.rep hr t k2)
theorem RdL.repF {E : Env} {s : S} (hr : RelS E s) : ∀ {vs ds : List V} {vals : List Value}, RdL s vs ds → RepL E (V.flat vs) vals → RepL (lentEnv E s) (V.flat ds) vals
  | _, _, _, .nil, k => by cases k; exact .nil
  | _, _, vals, .cons (v := v) (d := d) (vs := vs) (ds := ds) h t, k => by
    have e : ∀ (y : V) (ys : List V), V.flat (y :: ys) = y.cells ++ V.flat ys := fun y ys => by simp [V.flat]
    rw [e] at k ⊢
    obtain ⟨a, b, rfl, ha, hb⟩ := RepL.split k
    exact (Rd.repC hr h ha).append (RdL.repF hr t hb)
theorem Rd.repC {E : Env} {s : S} (hr : RelS E s) : ∀ {v d : V} {vals : List Value}, Rd s v d → RepL E v.cells vals → RepL (lentEnv E s) d.cells vals
  | _, _, _, .agg h, k => RdL.rep hr h k
  | _, _, _, .scal (v := v) h, k => by
    have e : v.cells = [v] := by cases v <;> first | rfl | cases h
    rw [e] at k ⊢
    cases k with | cons k1 k2 => cases k2; exact .cons (Rd.rep hr (.scal h) k1) .nil
  | _, _, _, .zsl, k => by cases k with | cons k1 k2 => cases k2; exact .cons (Rd.rep hr .zsl k1) .nil
  | _, _, _, .nilsl, k => by cases k with | cons k1 k2 => cases k2; exact .cons (Rd.rep hr .nilsl k1) .nil
  | _, _, _, .sl h, k => by cases k with | cons k1 k2 => cases k2; exact .cons (Rd.rep hr (.sl h) k1) .nil
  | _, _, _, .slm a b c h, k => by cases k with | cons k1 k2 => cases k2; exact .cons (Rd.rep hr (.slm a b c h) k1) .nil
  | _, _, _, .slm0, k => by cases k with | cons k1 k2 => cases k2; exact .cons (Rd.rep hr .slm0 k1) .nil
  | _, _, _, .ptr a h, k => by cases k with | cons k1 k2 => cases k2; exact .cons (Rd.rep hr (.ptr a h) k1) .nil
  | _, _, _, .fn h, k => by cases k with | cons k1 k2 => cases k2; exact .cons (Rd.rep hr (.fn h) k1) .nil
  | _, _, _, .eptr, k => by cases k with | cons k1 k2 => cases k2; exact .cons (Rd.rep hr .eptr k1) .nil
end

/-- A result of new slices alone. -/
structure Owned (d v : V) (t : S) : Prop where
  forget : v.forget = d
  nodup : v.ids.Nodup
  full : v.full t

def thawed (n : Nat) (d : V) : List Own := (thw n d).2.map fun p => .var p.2

theorem thawed_forget (n : Nat) (v : V) : thawed n v.forget = thawed n v := by
  have h := (thw_forget v n).2
  unfold thawed
  have e : ∀ l : List (Nat × List V), l.map (fun p => Own.var p.2) = (l.map (·.2)).map .var := fun l => by rw [List.map_map]; rfl
  rw [e, e, h]

/-- A CALL ON ARGUMENTS IN VARIABLES, OF ONE THAT ONLY READS PLAIN DATA. -/
theorem VCalls.lend {P : Program} {f : FuncId} {vs ds : List V} {s : S} {d : V} (hrd : RdL s vs ds) (h : ∀ t, VCalls P f ds t (fun v t' => Owned d v t')) :
    VCalls P f vs s (fun v s' => v = (thw s.next d).1 ∧ s' = s.ext (thawed s.next d)) := by
  intro E vals h1 h2
  let t : S := { vars := fun _ => none, fams := fun _ => none, next := s.next }
  have ht : RelS (lentEnv E s) t := by
    refine ⟨⟨fun l cs hl => (by cases hl), fun l l' g hl => (by cases hl), fun id n sz hid => (by cases hid), fun id id' F F' g hid => (by cases hid), fun l g id F hl => (by cases hl), h1.fresh, h1.pos, fun g o i => ?_⟩, h1.tab.less rfl (by rintro k (⟨l, hl, _⟩ | ⟨id, F, hl, _⟩) <;> cases hl)⟩
    rcases i with i | ⟨l, cs, hv, hg, ho⟩
    · exact h1.imm g o i
    · obtain ⟨g', arr, e, fr, k1, k2⟩ := h1.var l cs hv
      rw [hg] at k1
      cases k1
      have := k2.le
      exact ⟨arr[o]'(by omega), by show E.w.cell? _ = _; rw [cell_of_row E.w _ _ arr e fr k2.heap]; simp⟩
  have hnt : ∀ k, ¬ Tracked (lentEnv E s) t k := by
    rintro k (⟨l, hl, _⟩ | ⟨id, F, hl, _⟩) <;> cases hl
  refine (h t (lentEnv E s) vals ht (RdL.rep h1 hrd h2)).mono ?_
  rintro e w' ⟨E2, v, val, t', rfl, rfl, ⟨ow1, ow2, ow3⟩, k, r, st⟩
  subst ow1
  have hsame : ∀ b, b < E.w.heap.size → E2.w.heap[b]? = E.w.heap[b]? := fun b hb => st.block b hb (hnt b)
  have hfresh : ∀ id F g, (t'.fams id).isSome = true → E2.fam id = some F → F.blk = some g → E.w.heap.size ≤ g := by
    intro id F g h3 h4 h5
    rcases Nat.lt_or_ge g E.w.heap.size with hlt | hge
    · exact (hnt g (st.track g hlt (.inr ⟨id, F, h3, h4, h5⟩))).elim
    · exact hge
  let os := (thw s.next v).2
  let E3 : Env := { w := E2.w, imm := E.imm, loc := fun l => if l < s.next then E.loc l else match os[l - s.next]? with
      | some p => (E2.fam p.1).bind (·.blk)
      | none => none, fam := fun l => if l < s.next then E.fam l else none }
  have hE3l : ∀ l, l < s.next → E3.loc l = E.loc l := fun l hl => by show (if l < s.next then E.loc l else _) = _; rw [if_pos hl]
  have hE3n : ∀ j, E3.loc (s.next + j) = match os[j]? with
      | some p => (E2.fam p.1).bind (·.blk)
      | none => none := fun j => by
    show (if s.next + j < s.next then E.loc (s.next + j) else _) = _
    rw [if_neg (by omega), Nat.add_sub_cancel_left]
  have hE3f : ∀ l, l < s.next → E3.fam l = E.fam l := fun l hl => by show (if l < s.next then E.fam l else none) = _; rw [if_pos hl]
  -- each slice that holds something has its place
  have hfull : ∀ p ∈ os, (t'.fams p.1).isSome = true ∧ ∃ F g, E2.fam p.1 = some F ∧ F.blk = some g := by
    intro p hp
    exact full_ids k v s.next ow3 r p hp
  have hloc : LocOk E2 E3 s.next os := by
    intro j id cs hj
    obtain ⟨_, F, g, a1, a2⟩ := hfull (id, cs) (List.mem_of_getElem? hj)
    exact ⟨F, g, a1, a2, by rw [hE3n, hj]; show (E2.fam id).bind _ = _; rw [a1]; exact a2⟩
  have hrep := thw_rep k v s.next r ow3 hloc
  have hvar := thw_var k v s.next r ow3 hloc
  have hlt : ∀ l, (s.vars l).isSome = true → l < s.next := fun l hl => by
    rcases Nat.lt_or_ge l s.next with h | h
    · exact h
    · rw [(h1.none_of_le h).1] at hl; cases hl
  have hltf : ∀ l, (s.fams l).isSome = true → l < s.next := fun l hl => by
    rcases Nat.lt_or_ge l s.next with h | h
    · exact h
    · rw [(h1.none_of_le h).2] at hl; cases hl
  have hlt2 : ∀ l g, E.loc l = some g → l < s.next := fun l g hl => by
    rcases Nat.lt_or_ge l s.next with h | h
    · exact h
    · rw [(h1.fresh l h).1] at hl; cases hl
  have hltf2 : ∀ l F, E.fam l = some F → l < s.next := fun l g hl => by
    rcases Nat.lt_or_ge l s.next with h | h
    · exact h
    · rw [(h1.fresh l h).2] at hl; cases hl
  have ev : Evolve E E3 := ⟨fun _ _ i => i, fun g o i => by
      have := h1.imm_lt i
      show E2.w.cell? _ = _
      simp only [World.cell?, hsame g this], fun l g hl => (hE3l l (hlt2 l g hl)).trans hl, fun id F hF => ⟨F, (hE3f id (hltf2 id F hF)).trans hF, Nat.le_refl _, fun _ => rfl⟩⟩
  have hth : thawed s.next v = os.map fun p => Own.var p.2 := rfl
  have hvars : ∀ l, l < s.next → (s.ext (thawed s.next v)).vars l = s.vars l := fun l hl => ext_vars_lt _ _ hl
  have hvarn : ∀ j, (s.ext (thawed s.next v)).vars (s.next + j) = (os[j]?).map (·.2) := fun j => by
    rw [ext_vars, hth, List.getElem?_map]
    cases os[j]? <;> rfl
  have hfams : ∀ l q, (s.ext (thawed s.next v)).fams l = some q → s.fams l = some q := by
    intro l q hq
    simp only [S.ext] at hq
    split at hq
    · exact hq
    · rw [hth, List.getElem?_map] at hq
      cases hc : os[l - s.next]? with
      | none => rw [hc] at hq; cases hq
      | some p => rw [hc] at hq; cases hq
  -- a new variable, where it is
  have hnew : ∀ j cs, (s.ext (thawed s.next v)).vars (s.next + j) = some cs → ∃ id, os[j]? = some (id, cs) := by
    intro j cs hj
    rw [hvarn] at hj
    obtain ⟨p, hp, rfl⟩ := Option.map_eq_some_iff.1 hj
    exact ⟨p.1, hp⟩
  have hsplit : ∀ l, l < s.next ∨ ∃ j, l = s.next + j := fun l => by
    rcases Nat.lt_or_ge l s.next with h | h
    · exact .inl h
    · exact .inr ⟨l - s.next, by omega⟩
  have hnl : ∀ j g, ((s.ext (thawed s.next v)).vars (s.next + j)).isSome = true → E3.loc (s.next + j) = some g → ∃ id cs F, os[j]? = some (id, cs) ∧ (t'.fams id).isSome = true ∧ E2.fam id = some F ∧ F.blk = some g ∧ E.w.heap.size ≤ g := by
    intro j g hj hg
    obtain ⟨cs, hcs⟩ := Option.isSome_iff_exists.1 hj
    obtain ⟨id, hid⟩ := hnew j cs hcs
    obtain ⟨a0, F, g', a1, a2⟩ := hfull (id, cs) (List.mem_of_getElem? hid)
    rw [hE3n, hid] at hg
    change (E2.fam id).bind _ = _ at hg
    simp only at a1
    rw [a1] at hg
    change F.blk = some g at hg
    exact ⟨id, cs, F, hid, a0, a1, hg, hfresh id F g a0 a1 hg⟩
  have hrel : RelS0 E3 (s.ext (thawed s.next v)) := by
    refine ⟨fun l cs hl => ?_, fun l l' g hl hl' hg hg' => ?_, fun id n sz hid => ?_, fun id id' F F' g hid hid' hF hF' => ?_, fun l g id F hl hg hid hF hb => ?_, fun l hl => ?_, by have := h1.pos; rw [ext_next]; omega, fun g o i => ?_⟩
    · rcases hsplit l with hll | ⟨j, rfl⟩
      · rw [hvars l hll] at hl
        obtain ⟨g, arr, e, fr, m1, m2⟩ := h1.var l cs hl
        exact ⟨g, arr, e, fr, (hE3l l hll).trans m1, ⟨(hsame g (Array.getElem?_eq_some_iff.1 m2.heap).1).trans m2.heap, m2.rep.evolve ev, m2.le, m2.free, m2.imm⟩⟩
      · obtain ⟨id, hid⟩ := hnew j cs hl
        obtain ⟨F, g, arr, e, fr, a1, a2, a3, a4, a5, a6⟩ := hvar (id, cs) (List.mem_of_getElem? hid)
        refine ⟨g, arr, e, fr, by rw [hE3n, hid]; show (E2.fam id).bind _ = _; simp only at a1; rw [a1]; exact a2, ⟨a3, a4, a5, a6, fun o i => ?_⟩⟩
        obtain ⟨a0, _⟩ := hfull (id, cs) (List.mem_of_getElem? hid)
        have := hfresh id F g a0 a1 a2
        have := h1.imm_lt i
        omega
    · rcases hsplit l with hll | ⟨j, rfl⟩
      · rw [hvars l hll] at hl
        rw [hE3l l hll] at hg
        rcases hsplit l' with hll' | ⟨j', rfl⟩
        · rw [hvars l' hll'] at hl'
          rw [hE3l l' hll'] at hg'
          exact h1.varinj l l' g hl hl' hg hg'
        · obtain ⟨_, _, _, _, _, _, _, hge⟩ := hnl j' g hl' hg'
          have := h1.loc_lt hl hg
          omega
      · obtain ⟨id, cs, F, b1, b2, b3, b4, hge⟩ := hnl j g hl hg
        rcases hsplit l' with hll' | ⟨j', rfl⟩
        · rw [hvars l' hll'] at hl'
          rw [hE3l l' hll'] at hg'
          have := h1.loc_lt hl' hg'
          omega
        · obtain ⟨id', cs', F', c1, c2, c3, c4, _⟩ := hnl j' g hl' hg'
          have hid : id = id' := k.faminj id id' F F' g b2 c2 b3 c3 b4 c4
          subst hid
          have hnd : (os.map (·.1)).Nodup := by rw [show os.map (·.1) = v.ids from thw_ids v s.next]; exact ow2
          have hj : j < (os.map (·.1)).length := by rw [List.length_map]; exact (List.getElem?_eq_some_iff.1 b1).1
          have hj' : j' < (os.map (·.1)).length := by rw [List.length_map]; exact (List.getElem?_eq_some_iff.1 c1).1
          have e1 : (os.map (·.1))[j]? = some id := by rw [List.getElem?_map, b1]; rfl
          have e2 : (os.map (·.1))[j']? = some id := by rw [List.getElem?_map, c1]; rfl
          have := (List.getElem?_inj hj hnd).1 (e1.trans e2.symm)
          rw [this]
    · have hid0 := hfams id _ hid
      obtain ⟨h00, F, m1, m2, m3, m4, m5, m6⟩ := h1.fam id n sz hid0
      refine ⟨h00, F, (hE3f id (hltf id (by rw [hid0]; rfl))).trans m1, m2, m3, m4, m5, fun g hg => ?_⟩
      obtain ⟨arr, e, fr, m7, m8⟩ := m6 g hg
      exact ⟨arr, e, fr, (hsame g (Array.getElem?_eq_some_iff.1 m7).1).trans m7, m8⟩
    · obtain ⟨q, hq⟩ := Option.isSome_iff_exists.1 hid
      obtain ⟨q', hq'⟩ := Option.isSome_iff_exists.1 hid'
      have a1 := hfams id q hq
      have a2 := hfams id' q' hq'
      rw [hE3f id (hltf id (by rw [a1]; rfl))] at hF
      rw [hE3f id' (hltf id' (by rw [a2]; rfl))] at hF'
      exact h1.faminj id id' F F' g (by rw [a1]; rfl) (by rw [a2]; rfl) hF hF'
    · obtain ⟨q, hq⟩ := Option.isSome_iff_exists.1 hid
      have a1 := hfams id q hq
      rw [hE3f id (hltf id (by rw [a1]; rfl))] at hF
      rcases hsplit l with hll | ⟨j, rfl⟩
      · rw [hvars l hll] at hl
        rw [hE3l l hll] at hg
        exact h1.famvar l g id F hl hg (by rw [a1]; rfl) hF hb
      · obtain ⟨_, _, _, _, _, _, _, hge⟩ := hnl j g hl hg
        have := h1.fam_lt (by rw [a1]; rfl) hF hb
        omega
    · rw [ext_next] at hl
      refine ⟨?_, ?_⟩
      · obtain ⟨j, rfl⟩ : ∃ j, l = s.next + j := ⟨l - s.next, by omega⟩
        rw [hE3n]
        have : os[j]? = none := List.getElem?_eq_none (by rw [hth, List.length_map] at hl; omega)
        rw [this]
      · show (if l < s.next then E.fam l else none) = none
        rw [if_neg (by omega)]
    · obtain ⟨x, hx⟩ := h1.imm g o i
      exact ⟨x, (ev.cell g o i).trans hx⟩
  refine ⟨E3, (thw s.next v).1, val, s.ext (thawed s.next v), rfl, rfl, ⟨(thw_forget v s.next).1.symm, by rw [thawed_forget]⟩, h1.fin4 hrel hrep
    ⟨ev, st.os, st.tape, st.output, st.size, fun b hb _ => hsame b hb, fun q hq htr => ?_, by rw [ext_next]; omega⟩⟩
  rcases htr with ⟨l, hl, hg⟩ | ⟨id, F, hl, hF, hg⟩
  · rcases hsplit l with hll | ⟨j, rfl⟩
    · rw [hvars l hll] at hl
      rw [hE3l l hll] at hg
      exact .inl ⟨l, hl, hg⟩
    · obtain ⟨_, _, _, _, _, _, _, hge⟩ := hnl j q hl hg
      have : q < E.w.heap.size := hq
      omega
  · obtain ⟨q', hq'⟩ := Option.isSome_iff_exists.1 hl
    have a1 := hfams id q' hq'
    rw [hE3f id (hltf id (by rw [a1]; rfl))] at hF
    exact .inr ⟨id, F, by rw [a1]; rfl, hF, hg⟩

end Go.Proofs.Ytkkifdgnebbghaa
