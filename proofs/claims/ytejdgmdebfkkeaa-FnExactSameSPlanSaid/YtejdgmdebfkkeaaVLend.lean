/-
  A call whose arguments lie in variables, taken for plain data while it runs; its result, made of new slices alone, lies in new variables. Own work; no condition.
-/
import Derived.Test.YtejdgmdebfkkeaaVL6
namespace Go.Proofs.Ytejdgmdebfkkeaa
open Go

/-- Of no memory. -/
def V.scal : V → Bool
  | .int _ _ | .bool _ | .str _ | .nilp | .und => true
  | _ => false

mutual
/-- The slices of a value that hold something, the inner ones first. -/
def V.ids : V → List Nat
  | .agg cs => V.idsL cs
  | .tup vs => V.idsL vs
  | .sl id xs => V.idsL xs ++ (if xs.isEmpty then [] else [id])
  | .int _ _ | .bool _ | .str _ | .ptr _ _ | .eptr _ _ | .nilp | .zsl | .nilsl | .slm _ _ _ _ | .fn _ _ | .und | .raw _ => []
def V.idsL : List V → List Nat
  | [] => []
  | v :: vs => V.ids v ++ V.idsL vs
end

mutual
/-- Each slice that holds something is all of a slice that may be appended to. -/
def V.full (s : S) : V → Prop
  | .agg cs => V.fullL s cs
  | .tup vs => V.fullL s vs
  | .sl id xs => (xs.isEmpty = true ∨ ∃ sz, s.fams id = some (xs.length, sz)) ∧ V.fullL s xs
  | .int _ _ | .bool _ | .str _ | .nilp | .zsl | .nilsl | .und => True
  | .ptr _ _ | .eptr _ _ | .slm _ _ _ _ | .fn _ _ | .raw _ => False
def V.fullL (s : S) : List V → Prop
  | [] => True
  | v :: vs => V.full s v ∧ V.fullL s vs
end

mutual
/-- The value with its slices in variables, numbered from n on: and what the variables hold, each with the slice's old name. -/
def thw : Nat → V → V × List (Nat × List V)
  | n, .agg cs => (.agg (thwL n cs).1, (thwL n cs).2)
  | n, .tup vs => (.tup (thwL n vs).1, (thwL n vs).2)
  | n, .sl id xs => if xs.isEmpty then (.sl 0 [], []) else (.slm false (n + (thwL n xs).2.length) 0 xs.length, (thwL n xs).2 ++ [(id, V.flat (thwL n xs).1)])
  | _, .zsl => (.sl 0 [], [])
  | _, .nilsl => (.sl 0 [], [])
  | _, .int k m => (.int k m, [])
  | _, .bool b => (.bool b, [])
  | _, .str b => (.str b, [])
  | _, .ptr l o => (.ptr l o, [])
  | _, .eptr cs o => (.eptr cs o, [])
  | _, .nilp => (.nilp, [])
  | _, .slm x l o m => (.slm x l o m, [])
  | _, .fn f cs => (.fn f cs, [])
  | _, .und => (.und, [])
  | _, .raw v => (.raw v, [])
def thwL : Nat → List V → List V × List (Nat × List V)
  | _, [] => ([], [])
  | n, v :: vs => ((thw n v).1 :: (thwL (n + (thw n v).2.length) vs).1, (thw n v).2 ++ (thwL (n + (thw n v).2.length) vs).2)
end

mutual
theorem thw_ids : ∀ (v : V) (n : Nat), (thw n v).2.map (·.1) = v.ids
  | .agg cs, n => by simp only [thw, V.ids]; exact thwL_ids cs n
  | .tup cs, n => by simp only [thw, V.ids]; exact thwL_ids cs n
  | .sl id xs, n => by
    unfold thw V.ids
    cases h : xs.isEmpty with
    | true =>
      have : xs = [] := by simpa using h
      subst this
      simp [V.idsL]
    | false => simp [thwL_ids xs n]
  | .zsl, _ | .nilsl, _ | .int _ _, _ | .bool _, _ | .str _, _ | .ptr _ _, _ | .eptr _ _, _ | .nilp, _ | .slm _ _ _ _, _ | .fn _ _, _ | .und, _ | .raw _, _ => rfl
theorem thwL_ids : ∀ (vs : List V) (n : Nat), (thwL n vs).2.map (·.1) = V.idsL vs
  | [], _ => rfl
  | v :: vs, n => by simp only [thwL, V.idsL, List.map_append, thw_ids v n, thwL_ids vs]
end

mutual
/-- What the slices were called does not matter. -/
theorem thw_forget : ∀ (v : V) (n : Nat), (thw n v.forget).1 = (thw n v).1 ∧ (thw n v.forget).2.map (·.2) = (thw n v).2.map (·.2)
  | .agg cs, n => by
    obtain ⟨h1, h2⟩ := thwL_forget cs n
    simp only [V.forget, thw, h1, h2, and_self]
  | .tup cs, n => by
    obtain ⟨h1, h2⟩ := thwL_forget cs n
    simp only [V.forget, thw, h1, h2, and_self]
  | .sl id xs, n => by
    obtain ⟨h1, h2⟩ := thwL_forget xs n
    have hl : (thwL n (V.forgetL xs)).2.length = (thwL n xs).2.length := by
      have := congrArg List.length h2
      simpa using this
    have he : (V.forgetL xs).isEmpty = xs.isEmpty := by rw [V.forgetL_eq]; cases xs <;> rfl
    have hn : (V.forgetL xs).length = xs.length := by rw [V.forgetL_eq, List.length_map]
    simp only [V.forget]
    unfold thw
    rw [he]
    cases h : xs.isEmpty with
    | true => simp
    | false => simp [h1, h2, hl, hn]
  | .zsl, n => by simp [V.forget, thw]
  | .nilsl, n => by simp [V.forget, thw]
  | .int _ _, _ | .bool _, _ | .str _, _ | .ptr _ _, _ | .eptr _ _, _ | .nilp, _ | .slm _ _ _ _, _ | .fn _ _, _ | .und, _ | .raw _, _ => ⟨rfl, rfl⟩
theorem thwL_forget : ∀ (vs : List V) (n : Nat), (thwL n (V.forgetL vs)).1 = (thwL n vs).1 ∧ (thwL n (V.forgetL vs)).2.map (·.2) = (thwL n vs).2.map (·.2)
  | [], _ => ⟨rfl, rfl⟩
  | v :: vs, n => by
    obtain ⟨h1, h2⟩ := thw_forget v n
    have hl : (thw n v.forget).2.length = (thw n v).2.length := by
      have := congrArg List.length h2
      simpa using this
    obtain ⟨h3, h4⟩ := thwL_forget vs (n + (thw n v).2.length)
    simp only [V.forgetL, thwL, hl, h1, h3, List.map_append, h2, h4, and_self]
end

def LocOk (E E3 : Env) (n : Nat) (os : List (Nat × List V)) : Prop := ∀ j id cs, os[j]? = some (id, cs) → ∃ F g, E.fam id = some F ∧ F.blk = some g ∧ E3.loc (n + j) = some g

theorem LocOk.left {E E3 : Env} {n : Nat} {a b : List (Nat × List V)} (h : LocOk E E3 n (a ++ b)) : LocOk E E3 n a := fun j id cs hj => h j id cs (by
  rw [List.getElem?_append_left (List.getElem?_eq_some_iff.1 hj).1]; exact hj)
theorem LocOk.right {E E3 : Env} {n : Nat} {a b : List (Nat × List V)} (h : LocOk E E3 n (a ++ b)) : LocOk E E3 (n + a.length) b := fun j id cs hj => by
  have := h (a.length + j) id cs (by rw [List.getElem?_append_right (by omega), Nat.add_sub_cancel_left]; exact hj)
  rw [Nat.add_assoc]; exact this

theorem cells_one (x : V) (n : Nat) (h : ∀ cs, x ≠ .agg cs) (h2 : ∀ v, x ≠ .raw v) : (thw n x).1.cells = [(thw n x).1] ∧ x.cells = [x] := by
  cases x with
  | agg cs => exact absurd rfl (h cs)
  | raw v => exact absurd rfl (h2 v)
  | sl id xs =>
    refine ⟨?_, rfl⟩
    unfold thw
    cases xs.isEmpty <;> rfl
  | _ => exact ⟨rfl, rfl⟩

theorem rep_empty {E E3 : Env} {val : Value} (h : RepV E (.sl 0 []) val) : RepV E3 (.sl 0 []) val := by
  cases h with
  | @sl _ _ vals g off cap sz a b c r sg f =>
    exact RepV.sl (xs := []) (vals := []) (sz := 0) (by simp) b c .nil (fun j v hj => by simp at hj) (.inl rfl)
  | slz => exact .slz (.inl rfl)

theorem thwL_len : ∀ (vs : List V) (n : Nat), (thwL n vs).1.length = vs.length
  | [], _ => rfl
  | v :: vs, n => by simp only [thwL, List.length_cons, thwL_len vs]

theorem full_fam {E : Env} {s : S} (hr : RelS E s) {id n sz : Nat} (h : s.fams id = some (n, sz)) (hn : 0 < n) : ∃ F g, E.fam id = some F ∧ F.blk = some g ∧ F.len = n ∧ F.sz = sz ∧ n ≤ F.cap ∧ F.cap ≤ maxLen ∧ id ≠ 0 ∧
    ∃ arr e fr, E.w.heap[g]? = some (.cells arr e fr) ∧ F.cap * sz ≤ arr.size ∧ ∀ o, o < F.cap * sz → ¬ (fr.1 ≤ o ∧ o < fr.2) := by
  obtain ⟨h0, F, h1, ⟨h2, h3⟩, h4, h5, h6, h7⟩ := hr.fam id n sz h
  cases hb : F.blk with
  | none => have := h6 hb; omega
  | some g =>
    obtain ⟨arr, e, fr, k1, k2, k3, _⟩ := h7 g hb
    exact ⟨F, g, h1, hb, h2, h3, h4, h5, h0, arr, e, fr, k1, k2, k3⟩

/-- Where a whole slice lies. -/
theorem whole_sl {E : Env} {s : S} (hr : RelS E s) {id : Nat} {xs : List V} {val : Value} (h : RepV E (.sl id xs) val) (hne : xs.isEmpty = false) (hf : ∃ sz, s.fams id = some (xs.length, sz)) :
    ∃ F g vals sz, E.fam id = some F ∧ F.blk = some g ∧ F.sz = sz ∧ val = .slice (some ⟨g, 0, none⟩) xs.length F.cap ∧ xs.length ≤ F.cap ∧ F.cap ≤ maxLen ∧ (∀ x ∈ xs, x.cells.length = sz) ∧ RepL E (V.flat xs) vals ∧ Seg E g 0 vals ∧
      ∃ arr e fr, E.w.heap[g]? = some (.cells arr e fr) ∧ F.cap * sz ≤ arr.size ∧ ∀ o, o < F.cap * sz → ¬ (fr.1 ≤ o ∧ o < fr.2) := by
  obtain ⟨sz0, hf⟩ := hf
  have hpos : 0 < xs.length := by cases xs with | nil => cases hne | cons _ _ => simp
  obtain ⟨F, g, h1, h2, h3, h4, h5, h6, h7, arr, e, fr, k1, k2, k3⟩ := full_fam hr hf hpos
  cases h with
  | @sl _ _ vals g' off cap sz a b c r sg f =>
    rcases f with f | ⟨F', f1, f2, f3⟩
    · exact absurd f h7
    · rw [h1] at f1
      cases f1
      obtain ⟨e1, e2, e3, e4⟩ := f3 h3.symm
      rw [h2] at e1
      cases e1
      subst e2 e3
      rw [h4] at e4
      subst e4
      exact ⟨F, g, vals, sz, h1, h2, h4, rfl, h5, h6, a, r, sg, arr, e, fr, k1, k2, k3⟩
  | slz => cases hne

theorem seg_take {E : Env} {g : Nat} {vals : List Value} {arr : Array Value} {e : TypeId} {fr : Nat × Nat} (h : Seg E g 0 vals) (hh : E.w.heap[g]? = some (.cells arr e fr)) : arr.toList.take vals.length = vals := by
  apply List.ext_getElem?
  intro j
  rw [List.getElem?_take]
  split
  · rename_i hj
    obtain ⟨_, h2⟩ := h j vals[j] (by simp [hj])
    rw [cell_of_row E.w _ _ arr e fr hh, Nat.zero_add] at h2
    rw [List.getElem?_eq_getElem hj, ← h2]
    simp
  · rename_i hj
    rw [List.getElem?_eq_none (by omega)]

section
variable {E E3 : Env} {t : S}
mutual
theorem thw_rep (hr : RelS E t) : ∀ (v : V) (n : Nat) {val : Value}, RepV E v val → v.full t → LocOk E E3 n (thw n v).2 → RepV E3 (thw n v).1 val
  | .agg cs, n, val, h, hf, hl => by
    cases h with
    | agg r => simp only [thw]; exact .agg (thwL_rep hr cs n r hf hl)
  | .tup cs, n, val, h, hf, hl => by
    cases h with
    | tup r => simp only [thw]; exact .tup (thwL_rep hr cs n r hf hl)
  | .sl id xs, n, val, h, hf, hl => by
    unfold thw
    cases he : xs.isEmpty with
    | true =>
      have : xs = [] := by simpa using he
      subst this
      simp only [if_true]
      have := h.forget
      simp only [V.forget, V.forgetL] at this
      exact rep_empty this
    | false =>
      simp only [Bool.false_eq_true, if_false]
      obtain ⟨hf1, hf2⟩ := hf
      have hfm := hf1.resolve_left (by rw [he]; simp)
      obtain ⟨F, g, vals, sz, h1, h2, h3, rfl, h5, h6, _⟩ := whole_sl hr h he hfm
      unfold thw at hl
      rw [he] at hl
      simp only [Bool.false_eq_true, if_false] at hl
      obtain ⟨F', g', f1, f2, f3⟩ := hl (thwL n xs).2.length id (V.flat (thwL n xs).1) (by simp)
      rw [h1] at f1
      cases f1
      rw [h2] at f2
      cases f2
      exact .slm f3 h5 h6 (fun hx => by cases hx)
  | .zsl, n, val, h, hf, hl => by cases h with | zsl => exact RepV.slz (.inl rfl)
  | .nilsl, n, val, h, hf, hl => by cases h with | nilsl => exact RepV.slz (.inl rfl)
  | .int _ _, n, val, h, hf, hl => by cases h with | int a b => exact .int a b
  | .bool _, n, val, h, hf, hl => by cases h with | bool => exact .bool
  | .str _, n, val, h, hf, hl => by cases h with | str a => exact .str a
  | .nilp, n, val, h, hf, hl => by cases h with | nilp => exact .nilp
  | .und, n, val, h, hf, hl => by cases h with | und => exact .und
  | .ptr _ _, n, val, h, hf, hl => hf.elim
  | .eptr _ _, n, val, h, hf, hl => hf.elim
  | .slm _ _ _ _, n, val, h, hf, hl => hf.elim
  | .fn _ _, n, val, h, hf, hl => hf.elim
  | .raw _, n, val, h, hf, hl => hf.elim
theorem thwL_rep (hr : RelS E t) : ∀ (vs : List V) (n : Nat) {vals : List Value}, RepL E vs vals → V.fullL t vs → LocOk E E3 n (thwL n vs).2 → RepL E3 (thwL n vs).1 vals
  | [], n, vals, h, hf, hl => by cases h; exact .nil
  | v :: vs, n, vals, h, hf, hl => by
    cases h with
    | cons h1 h2 =>
      simp only [thwL] at hl ⊢
      exact .cons (thw_rep hr v n h1 hf.1 hl.left) (thwL_rep hr vs _ h2 hf.2 hl.right)
end

theorem thw_cells (hr : RelS E t) (x : V) (n : Nat) {cv : List Value} (h : RepL E x.cells cv) (hf : x.full t) (hl : LocOk E E3 n (thw n x).2) : RepL E3 (thw n x).1.cells cv ∧ (thw n x).1.cells.length = x.cells.length := by
  by_cases h1 : ∃ cs, x = .agg cs
  · obtain ⟨cs, rfl⟩ := h1
    exact ⟨thwL_rep hr cs n h hf hl, by simp only [thw, V.cells, thwL_len]⟩
  by_cases h2 : ∃ v, x = .raw v
  · obtain ⟨v, rfl⟩ := h2
    exact hf.elim
  obtain ⟨e1, e2⟩ := cells_one x n (fun cs e => h1 ⟨cs, e⟩) (fun v e => h2 ⟨v, e⟩)
  rw [e2] at h
  rw [e1, e2]
  cases h with
  | cons k1 k2 =>
    cases k2
    exact ⟨.cons (thw_rep hr x n k1 hf hl) .nil, rfl⟩

theorem thwL_flat (hr : RelS E t) : ∀ (xs : List V) (n : Nat) {vals : List Value}, RepL E (V.flat xs) vals → V.fullL t xs → LocOk E E3 n (thwL n xs).2 → RepL E3 (V.flat (thwL n xs).1) vals ∧ (V.flat (thwL n xs).1).length = (V.flat xs).length
  | [], n, vals, h, hf, hl => by cases h; exact ⟨.nil, rfl⟩
  | x :: xs, n, vals, h, hf, hl => by
    simp only [thwL] at hl ⊢
    have e : ∀ (y : V) (ys : List V), V.flat (y :: ys) = y.cells ++ V.flat ys := fun y ys => by simp [V.flat]
    rw [e] at h
    obtain ⟨a, b, rfl, ha, hb⟩ := RepL.split h
    obtain ⟨k1, k2⟩ := thw_cells hr x n ha hf.1 hl.left
    obtain ⟨k3, k4⟩ := thwL_flat hr xs _ hb hf.2 hl.right
    rw [e, e]
    exact ⟨k1.append k3, by rw [List.length_append, List.length_append, k2, k4]⟩

/-- What a new variable holds. -/
def VarOk (E E3 : Env) (id : Nat) (cs : List V) : Prop := ∃ F g arr e fr, E.fam id = some F ∧ F.blk = some g ∧ E.w.heap[g]? = some (.cells arr e fr) ∧ RepL E3 cs (arr.toList.take cs.length) ∧ cs.length ≤ arr.size ∧ ∀ o, o < cs.length → ¬ (fr.1 ≤ o ∧ o < fr.2)

mutual
theorem thw_var (hr : RelS E t) : ∀ (v : V) (n : Nat) {val : Value}, RepV E v val → v.full t → LocOk E E3 n (thw n v).2 → ∀ p ∈ (thw n v).2, VarOk E E3 p.1 p.2
  | .agg cs, n, val, h, hf, hl => by
    cases h with
    | agg r => exact thwL_var hr cs n r hf hl
  | .tup cs, n, val, h, hf, hl => by
    cases h with
    | tup r => exact thwL_var hr cs n r hf hl
  | .sl id xs, n, val, h, hf, hl => by
    unfold thw at hl ⊢
    cases he : xs.isEmpty with
    | true => intro p hp; simp at hp
    | false =>
      rw [he] at hl
      simp only [Bool.false_eq_true, if_false] at hl ⊢
      obtain ⟨hf1, hf2⟩ := hf
      have hfm := hf1.resolve_left (by rw [he]; simp)
      obtain ⟨F, g, vals, sz, h1, h2, h3, rfl, h5, h6, hc, hrl, hsg, arr, e, fr, k1, k2, k3⟩ := whole_sl hr h he hfm
      obtain ⟨m1, m2⟩ := thwL_flat hr xs n hrl hf2 hl.left
      intro p hp
      rcases List.mem_append.1 hp with hp | hp
      · exact thwL_varF hr xs n hrl hf2 hl.left p hp
      · simp only [List.mem_singleton] at hp
        subst hp
        have hvl := hrl.length
        have hfl := flat_uniform hc
        have hcap : xs.length * sz ≤ F.cap * sz := Nat.mul_le_mul_right _ h5
        have hfl2 : (V.flat xs).length = xs.length * sz := hfl
        refine ⟨F, g, arr, e, fr, h1, h2, k1, ?_, ?_, fun o ho => k3 o ?_⟩
        · have hst := seg_take hsg k1
          simp only
          rw [m2, ← hvl, hst]
          exact m1
        · simp only
          rw [m2]
          omega
        · simp only at ho
          rw [m2] at ho
          omega
  | .zsl, n, val, h, hf, hl => by intro p hp; cases hp
  | .nilsl, n, val, h, hf, hl => by intro p hp; cases hp
  | .int _ _, n, val, h, hf, hl => by intro p hp; cases hp
  | .bool _, n, val, h, hf, hl => by intro p hp; cases hp
  | .str _, n, val, h, hf, hl => by intro p hp; cases hp
  | .nilp, n, val, h, hf, hl => by intro p hp; cases hp
  | .und, n, val, h, hf, hl => by intro p hp; cases hp
  | .ptr _ _, n, val, h, hf, hl => hf.elim
  | .eptr _ _, n, val, h, hf, hl => hf.elim
  | .slm _ _ _ _, n, val, h, hf, hl => hf.elim
  | .fn _ _, n, val, h, hf, hl => hf.elim
  | .raw _, n, val, h, hf, hl => hf.elim
theorem thwL_var (hr : RelS E t) : ∀ (vs : List V) (n : Nat) {vals : List Value}, RepL E vs vals → V.fullL t vs → LocOk E E3 n (thwL n vs).2 → ∀ p ∈ (thwL n vs).2, VarOk E E3 p.1 p.2
  | [], n, vals, h, hf, hl => by intro p hp; cases hp
  | v :: vs, n, vals, h, hf, hl => by
    cases h with
    | cons h1 h2 =>
      simp only [thwL] at hl ⊢
      intro p hp
      rcases List.mem_append.1 hp with hp | hp
      · exact thw_var hr v n h1 hf.1 hl.left p hp
      · exact thwL_var hr vs _ h2 hf.2 hl.right p hp
theorem thwL_varF (hr : RelS E t) : ∀ (vs : List V) (n : Nat) {vals : List Value}, RepL E (V.flat vs) vals → V.fullL t vs → LocOk E E3 n (thwL n vs).2 → ∀ p ∈ (thwL n vs).2, VarOk E E3 p.1 p.2
  | [], n, vals, h, hf, hl => by intro p hp; cases hp
  | v :: vs, n, vals, h, hf, hl => by
    have e : V.flat (v :: vs) = v.cells ++ V.flat vs := by simp [V.flat]
    rw [e] at h
    obtain ⟨a, b, rfl, ha, hb⟩ := RepL.split h
    simp only [thwL] at hl ⊢
    intro p hp
    rcases List.mem_append.1 hp with hp | hp
    · exact thw_varC hr v n ha hf.1 hl.left p hp
    · exact thwL_varF hr vs _ hb hf.2 hl.right p hp
theorem thw_varC (hr : RelS E t) : ∀ (v : V) (n : Nat) {vals : List Value}, RepL E v.cells vals → v.full t → LocOk E E3 n (thw n v).2 → ∀ p ∈ (thw n v).2, VarOk E E3 p.1 p.2
  | .agg cs, n, vals, h, hf, hl => thwL_var hr cs n h hf hl
  | .tup cs, n, vals, h, hf, hl => by
    cases h with
    | cons k1 k2 =>
      cases k1 with
      | tup r => exact thwL_var hr cs n r hf hl
  | .sl id xs, n, vals, h, hf, hl => by
    cases h with
    | cons k1 k2 => exact thw_var hr (.sl id xs) n k1 hf hl
  | .zsl, n, vals, h, hf, hl => by intro p hp; cases hp
  | .nilsl, n, vals, h, hf, hl => by intro p hp; cases hp
  | .int _ _, n, vals, h, hf, hl => by intro p hp; cases hp
  | .bool _, n, vals, h, hf, hl => by intro p hp; cases hp
  | .str _, n, vals, h, hf, hl => by intro p hp; cases hp
  | .nilp, n, vals, h, hf, hl => by intro p hp; cases hp
  | .und, n, vals, h, hf, hl => by intro p hp; cases hp
  | .ptr _ _, n, vals, h, hf, hl => hf.elim
  | .eptr _ _, n, vals, h, hf, hl => hf.elim
  | .slm _ _ _ _, n, vals, h, hf, hl => hf.elim
  | .fn _ _, n, vals, h, hf, hl => hf.elim
  | .raw _, n, vals, h, hf, hl => hf.elim
end
end

/-- Its slices have their places. -/
def IdOk (E : Env) (t : S) (p : Nat × List V) : Prop := (t.fams p.1).isSome = true ∧ ∃ F g, E.fam p.1 = some F ∧ F.blk = some g
mutual
theorem full_ids {E : Env} {t : S} (hr : RelS E t) : ∀ (v : V) (n : Nat) {val : Value}, v.full t → RepV E v val → ∀ p ∈ (thw n v).2, IdOk E t p
  | .agg cs, n, val, hf, h => fullL_ids hr cs n hf
  | .tup cs, n, val, hf, h => fullL_ids hr cs n hf
  | .sl id xs, n, val, hf, h => full_ids' hr (.sl id xs) n hf
  | .zsl, n, val, hf, h => by intro p hp; cases hp
  | .nilsl, n, val, hf, h => by intro p hp; cases hp
  | .int _ _, n, val, hf, h => by intro p hp; cases hp
  | .bool _, n, val, hf, h => by intro p hp; cases hp
  | .str _, n, val, hf, h => by intro p hp; cases hp
  | .nilp, n, val, hf, h => by intro p hp; cases hp
  | .und, n, val, hf, h => by intro p hp; cases hp
  | .ptr _ _, n, val, hf, h => hf.elim
  | .eptr _ _, n, val, hf, h => hf.elim
  | .slm _ _ _ _, n, val, hf, h => hf.elim
  | .fn _ _, n, val, hf, h => hf.elim
  | .raw _, n, val, hf, h => hf.elim
theorem full_ids' {E : Env} {t : S} (hr : RelS E t) : ∀ (v : V) (n : Nat), v.full t → ∀ p ∈ (thw n v).2, IdOk E t p
  | .agg cs, n, hf => fullL_ids hr cs n hf
  | .tup cs, n, hf => fullL_ids hr cs n hf
  | .sl id xs, n, hf => by
    unfold thw
    cases he : xs.isEmpty with
    | true => intro p hp; simp at hp
    | false =>
      simp only [Bool.false_eq_true, if_false]
      obtain ⟨hf1, hf2⟩ := hf
      obtain ⟨sz, hs⟩ := hf1.resolve_left (by rw [he]; simp)
      intro p hp
      rcases List.mem_append.1 hp with hp | hp
      · exact fullL_ids hr xs n hf2 p hp
      · simp only [List.mem_singleton] at hp
        subst hp
        have hpos : 0 < xs.length := by cases xs with | nil => cases he | cons _ _ => simp
        obtain ⟨F, g, h1, h2, _⟩ := full_fam hr hs hpos
        exact ⟨by simp only; rw [hs]; rfl, F, g, h1, h2⟩
  | .zsl, n, hf => by intro p hp; cases hp
  | .nilsl, n, hf => by intro p hp; cases hp
  | .int _ _, n, hf => by intro p hp; cases hp
  | .bool _, n, hf => by intro p hp; cases hp
  | .str _, n, hf => by intro p hp; cases hp
  | .nilp, n, hf => by intro p hp; cases hp
  | .und, n, hf => by intro p hp; cases hp
  | .ptr _ _, n, hf => hf.elim
  | .eptr _ _, n, hf => hf.elim
  | .slm _ _ _ _, n, hf => hf.elim
  | .fn _ _, n, hf => hf.elim
  | .raw _, n, hf => hf.elim
theorem fullL_ids {E : Env} {t : S} (hr : RelS E t) : ∀ (vs : List V) (n : Nat), V.fullL t vs → ∀ p ∈ (thwL n vs).2, IdOk E t p
  | [], n, hf => by intro p hp; cases hp
  | v :: vs, n, hf => by
    simp only [thwL]
    intro p hp
    rcases List.mem_append.1 hp with hp | hp
    · exact full_ids' hr v n hf.1 p hp
    · exact fullL_ids hr vs _ hf.2 p hp
end

end Go.Proofs.Ytejdgmdebfkkeaa
