/-
  Values and whether a row's values fit types, of the program and of the reference.
  Lists compared element by element: of the program, of the reference and of Go's library. Printed by a program of our own; no condition.
  A call whose arguments lie in variables, taken for plain data while it runs; its result, made of new slices alone, lies in new variables.
  Lending: a call that only reads its arguments, which lie in variables.
  Own work; no condition.
-/
import Derived.Test.YtbnbmcplmipgdaaGreatDoorDScope
import Derived.Test.YtbnbmcplmipgdaaGreatDoorVL
namespace Go.Proofs.YtbnbmcplmipgdaaGreatDoor
open Go
set_option linter.unusedSimpArgs false
set_option linter.unusedVariables false
def inR (x lo hi : Int) : Bool := decide (lo ≤ x) && decide (x ≤ hi)
theorem specl1In_v (x lo hi : Int) (s : S) : VCalls Tryz.prog 34 [.int .i64 x, .int .i64 lo, .int .i64 hi] s (fun v s' => v = .bool (inR x lo hi) ∧ s' = s) := by
  refine LCalls.pure Tryz.func34 rfl (by kernel_rfl) (by simp) ?_
  repeat' first
    | (refine kOps ?_; first | (refine LOps.nil ?_) | (refine kG ?_; first | (refine LOps.gT rfl rfl rfl ?_) | (refine LOps.gF rfl rfl rfl ?_) | (refine LOps.gC rfl rfl rfl (fun h => ?_) (fun h => ?_))) | (refine LOps.ev tT_ok rfl ?_))
    | (refine kWL ?_; first | (refine WL.seq ?_) | (refine WL.region (by kernel_rfl) ?_) | (refine WL.ret ?_))
    | (refine lthen_n ?_)
    | (refine LPost.r1 (r := .tmp 6) (.inl rfl) (Res1.tmp rfl) ?_)
    | (refine PureR.mk ?_)
  all_goals (simp_all [inR] <;> omega)
def Val.ok (v : Val) : Bool :=
  if v.kind = 0 then decide (v.num = 0) && decide (v.text = []) else if v.kind = 1 then decide (v.text = []) else
  if v.kind = 2 then decide (v.num = 0) && decide ((v.text.length : Int) ≤ 200) else if v.kind = 3 then inR v.num 0 1 && decide (v.text = []) else false
def Val.fits (v : Val) (ty : Int) : Bool := v.ok && (decide (v.kind = 0) || decide (v.kind = ty))
/-- Whether the rest of a row fits the rest of the types. -/
def fitsAll : List Val → List Int → Bool
  | v :: vs, t :: ts => v.fits t && fitsAll vs ts
  | _, _ => true
def rowFits (row : List Val) (types : List Int) : Bool := decide (row.length = types.length) && fitsAll row types
end Go.Proofs.YtbnbmcplmipgdaaGreatDoor

namespace Go.Proofs.YtbnbmcplmipgdaaGreatDoor
open Go
set_option linter.unusedSimpArgs false
set_option linter.unusedVariables false
def eqAll {α : Type} (p : α → α → Bool) : List α → List α → Bool
  | x :: xs, y :: ys => p x y && eqAll p xs ys
  | _, _ => true
/-- As many, and alike one by one. -/
def same {α : Type} (p : α → α → Bool) (a b : List α) : Bool := decide (a.length = b.length) && eqAll p a b
theorem eqAll_drop {α : Type} {p : α → α → Bool} {a b : List α} {i : Nat} (h1 : i < a.length) (h2 : i < b.length) : eqAll p (a.drop i) (b.drop i) = (p a[i] b[i] && eqAll p (a.drop (i + 1)) (b.drop (i + 1))) := by
  rw [List.drop_eq_getElem_cons h1, List.drop_eq_getElem_cons h2, eqAll]
theorem same_ne {α : Type} {p : α → α → Bool} {a b : List α} (h : ¬ (a.length : Int) = b.length) : same p a b = false := by
  unfold same
  rw [decide_eq_false (by omega)]; rfl
theorem same_eq {α : Type} {p : α → α → Bool} {a b : List α} (h : (a.length : Int) = b.length) : same p a b = eqAll p (a.drop 0) (b.drop 0) := by
  unfold same
  rw [decide_eq_true (by omega)]; rfl
theorem eqAll_end {α : Type} {p : α → α → Bool} {a b : List α} {i : Nat} (h : a.length ≤ i) : eqAll p (a.drop i) (b.drop i) = true := by rw [List.drop_of_length_le h]; unfold eqAll; rfl
def valEq (a b : Val) : Bool := decide (a.kind = b.kind) && (decide (a.num = b.num) && (decide (a.text = b.text) && true))
def colEq (a b : Col) : Bool := decide (a.name = b.name) && (decide (a.type = b.type) && true)
def intEq (a b : Int) : Bool := decide (a = b)
def strEq (a b : List UInt8) : Bool := decide (a = b)
def rowEq (a b : List Val) : Bool := same valEq a b
def dataEq (a b : Data) : Bool := same rowEq a.rows b.rows
def tabEq (a b : Tab) : Bool := decide (a.name = b.name) && same colEq a.cols b.cols
end Go.Proofs.YtbnbmcplmipgdaaGreatDoor

namespace Go.Proofs.YtbnbmcplmipgdaaGreatDoor
open Go
/-- Of no memory. -/
def V.scal : V → Bool
  | .int _ _ | .bool _ | .str _ | .nilp | .und => true
  | _ => false
mutual
/-- The slices of a value that hold something, the inner ones first. -/
def V.ids : V → List Nat
  | .agg cs => V.idsL cs
  | .tup vs => V.idsL vs
  | .sl id xs => V.idsL xs ++ (if xs.isEmpty then [] else [id])
  | .int _ _ | .bool _ | .str _ | .ptr _ _ | .eptr _ _ | .nilp | .zsl | .nilsl | .slm _ _ _ _ | .fn _ _ | .und | .raw _ => []
def V.idsL : List V → List Nat
  | [] => []
  | v :: vs => V.ids v ++ V.idsL vs
end
mutual
/-- Each slice that holds something is all of a slice that may be appended to. -/
def V.full (s : S) : V → Prop
  | .agg cs => V.fullL s cs
  | .tup vs => V.fullL s vs
  | .sl id xs => (xs.isEmpty = true ∨ ∃ sz, s.fams id = some (xs.length, sz)) ∧ V.fullL s xs
  | .int _ _ | .bool _ | .str _ | .nilp | .zsl | .nilsl | .und => True
  | .ptr _ _ | .eptr _ _ | .slm _ _ _ _ | .fn _ _ | .raw _ => False
def V.fullL (s : S) : List V → Prop
  | [] => True
  | v :: vs => V.full s v ∧ V.fullL s vs
end
mutual
/-- The value with its slices in variables, numbered from n on: and what the variables hold, each with the slice's old name. -/
def thw : Nat → V → V × List (Nat × List V)
  | n, .agg cs => (.agg (thwL n cs).1, (thwL n cs).2)
  | n, .tup vs => (.tup (thwL n vs).1, (thwL n vs).2)
  | n, .sl id xs => if xs.isEmpty then (.sl 0 [], []) else (.slm .un (n + (thwL n xs).2.length) 0 xs.length, (thwL n xs).2 ++ [(id, V.flat (thwL n xs).1)])
  | _, .zsl => (.sl 0 [], [])
  | _, .nilsl => (.sl 0 [], [])
  | _, .int k m => (.int k m, [])
  | _, .bool b => (.bool b, [])
  | _, .str b => (.str b, [])
  | _, .ptr l o => (.ptr l o, [])
  | _, .eptr cs o => (.eptr cs o, [])
  | _, .nilp => (.nilp, [])
  | _, .slm x l o m => (.slm x l o m, [])
  | _, .fn f cs => (.fn f cs, [])
  | _, .und => (.und, [])
  | _, .raw v => (.raw v, [])
def thwL : Nat → List V → List V × List (Nat × List V)
  | _, [] => ([], [])
  | n, v :: vs => ((thw n v).1 :: (thwL (n + (thw n v).2.length) vs).1, (thw n v).2 ++ (thwL (n + (thw n v).2.length) vs).2)
end
mutual
theorem thw_ids : ∀ (v : V) (n : Nat), (thw n v).2.map (·.1) = v.ids
  | .agg cs, n => by simp only [thw, V.ids]; exact thwL_ids cs n
  | .tup cs, n => by simp only [thw, V.ids]; exact thwL_ids cs n
  | .sl id xs, n => by
    unfold thw V.ids
    cases h : xs.isEmpty with
    | true =>
      have : xs = [] := by simpa using h
      subst this
      simp [V.idsL]
    | false => simp [thwL_ids xs n]
  | .zsl, _ | .nilsl, _ | .int _ _, _ | .bool _, _ | .str _, _ | .ptr _ _, _ | .eptr _ _, _ | .nilp, _ | .slm _ _ _ _, _ | .fn _ _, _ | .und, _ | .raw _, _ => rfl
theorem thwL_ids : ∀ (vs : List V) (n : Nat), (thwL n vs).2.map (·.1) = V.idsL vs
  | [], _ => rfl
  | v :: vs, n => by simp only [thwL, V.idsL, List.map_append, thw_ids v n, thwL_ids vs]
end
def LocOk (E E3 : Env) (n : Nat) (os : List (Nat × List V)) : Prop := ∀ j id cs, os[j]? = some (id, cs) → ∃ F g, E.fam id = some F ∧ F.blk = some g ∧ E3.loc (n + j) = some g
theorem LocOk.left {E E3 : Env} {n : Nat} {a b : List (Nat × List V)} (h : LocOk E E3 n (a ++ b)) : LocOk E E3 n a := fun j id cs hj => h j id cs (by
  rw [List.getElem?_append_left (List.getElem?_eq_some_iff.1 hj).1]; exact hj)
theorem thwL_len : ∀ (vs : List V) (n : Nat), (thwL n vs).1.length = vs.length
  | [], _ => rfl
  | v :: vs, n => by simp only [thwL, List.length_cons, thwL_len vs]
theorem full_fam {E : Env} {s : S} (hr : RelS E s) {id n sz : Nat} (h : s.fams id = some (n, sz)) (hn : 0 < n) : ∃ F g, E.fam id = some F ∧ F.blk = some g ∧ F.len = n ∧ F.sz = sz ∧ n ≤ F.cap ∧ F.cap ≤ maxLen ∧ id ≠ 0 ∧
    ∃ arr e fr, E.w.heap[g]? = some (.cells arr e fr) ∧ F.cap * sz ≤ arr.size ∧ ∀ o, o < F.cap * sz → ¬ (fr.1 ≤ o ∧ o < fr.2) := by
  obtain ⟨h0, F, h1, ⟨h2, h3⟩, h4, h5, h6, h7⟩ := hr.fam id n sz h
  cases hb : F.blk with
  | none => have := h6 hb; omega
  | some g =>
    obtain ⟨arr, e, fr, k1, k2, k3, _⟩ := h7 g hb
    exact ⟨F, g, h1, hb, h2, h3, h4, h5, h0, arr, e, fr, k1, k2, k3⟩
/-- Where a whole slice lies. -/
theorem whole_sl {E : Env} {s : S} (hr : RelS E s) {id : Nat} {xs : List V} {val : Value} (h : RepV E (.sl id xs) val) (hne : xs.isEmpty = false) (hf : ∃ sz, s.fams id = some (xs.length, sz)) :
    ∃ F g vals sz, E.fam id = some F ∧ F.blk = some g ∧ F.sz = sz ∧ val = .slice (some ⟨g, 0, none⟩) xs.length F.cap ∧ xs.length ≤ F.cap ∧ F.cap ≤ maxLen ∧ (∀ x ∈ xs, x.cells.length = sz) ∧ RepL E (V.flat xs) vals ∧ Seg E g 0 vals ∧
      ∃ arr e fr, E.w.heap[g]? = some (.cells arr e fr) ∧ F.cap * sz ≤ arr.size ∧ ∀ o, o < F.cap * sz → ¬ (fr.1 ≤ o ∧ o < fr.2) := by
  obtain ⟨sz0, hf⟩ := hf
  have hpos : 0 < xs.length := by cases xs with | nil => cases hne | cons _ _ => simp
  obtain ⟨F, g, h1, h2, h3, h4, h5, h6, h7, arr, e, fr, k1, k2, k3⟩ := full_fam hr hf hpos
  cases h with
  | @sl _ _ vals g' off cap sz a b c r sg f =>
    rcases f with f | ⟨F', f1, f2, f3⟩
    · exact absurd f h7
    · rw [h1] at f1
      cases f1
      obtain ⟨e1, e2, e3, e4⟩ := f3 h3.symm
      rw [h2] at e1
      cases e1
      subst e2 e3
      rw [h4] at e4
      subst e4
      exact ⟨F, g, vals, sz, h1, h2, h4, rfl, h5, h6, a, r, sg, arr, e, fr, k1, k2, k3⟩
  | slz => cases hne
theorem seg_take {E : Env} {g : Nat} {vals : List Value} {arr : Array Value} {e : TypeId} {fr : Nat × Nat} (h : Seg E g 0 vals) (hh : E.w.heap[g]? = some (.cells arr e fr)) : arr.toList.take vals.length = vals := by
  apply List.ext_getElem?
  intro j
  rw [List.getElem?_take]
  split
  · rename_i hj
    obtain ⟨_, h2⟩ := h j vals[j] (by simp [hj])
    rw [cell_of_row E.w _ _ arr e fr hh, Nat.zero_add] at h2
    rw [List.getElem?_eq_getElem hj, ← h2]
    simp
  · rename_i hj
    rw [List.getElem?_eq_none (by omega)]
section
variable {E E3 : Env} {t : S}
end
/-- Its slices have their places. -/
def IdOk (E : Env) (t : S) (p : Nat × List V) : Prop := (t.fams p.1).isSome = true ∧ ∃ F g, E.fam p.1 = some F ∧ F.blk = some g
end Go.Proofs.YtbnbmcplmipgdaaGreatDoor
namespace Go.Proofs.YtbnbmcplmipgdaaGreatDoor
open Go
mutual
/-- What a value reads as, in a state. -/
inductive Rd (s : S) : V → V → Prop
  | scal {v} : v.scal = true → Rd s v v
  | zsl : Rd s .zsl (.sl 0 [])
  | nilsl : Rd s .nilsl (.sl 0 [])
  | sl {id us ds} : RdL s us ds → Rd s (.sl id us) (.sl 0 ds)
  | slm {ex l n us ds sz rest} : s.vars l = some (V.flat us ++ rest) → us.length = n → (∀ u ∈ us, u.cells.length = sz) → RdL s us ds → Rd s (.slm ex l 0 n) (.sl 0 ds)
  | slm0 : Rd s (.slm (.is 0) 0 0 0) (.sl 0 [])
  | agg {cs ds} : RdL s cs ds → Rd s (.agg cs) (.agg ds)
  | ptr {l k cs ds} : s.vars l = some cs → RdL s cs ds → Rd s (.ptr l k) (.eptr ds k)
  | fn {f cs ds} : RdL s cs ds → Rd s (.fn f cs) (.fn f ds)
  | eptr {cs k} : Rd s (.eptr cs k) (.eptr cs k)
inductive RdL (s : S) : List V → List V → Prop
  | nil : RdL s [] []
  | cons {v d vs ds} : Rd s v d → RdL s vs ds → RdL s (v :: vs) (d :: ds)
end
theorem RdL.len {s : S} : ∀ {vs ds : List V}, RdL s vs ds → ds.length = vs.length
  | _, _, .nil => rfl
  | _, _, .cons _ t => by simp [RdL.len t]
theorem Rd.cells_len {s : S} {v d : V} (h : Rd s v d) : d.cells.length = v.cells.length := by
  cases h with
  | agg h => exact h.len
  | scal h => rfl
  | _ => rfl
theorem RdL.cells_all {s : S} : ∀ {vs ds : List V} {sz : Nat}, RdL s vs ds → (∀ v ∈ vs, v.cells.length = sz) → ∀ d ∈ ds, d.cells.length = sz
  | _, _, _, .nil, _ => fun d hd => by cases hd
  | _, _, _, .cons h t, ha => fun d hd => by
    rcases List.mem_cons.1 hd with rfl | hd
    · rw [h.cells_len]; exact ha _ (by simp)
    · exact RdL.cells_all t (fun v hv => ha v (by simp [hv])) d hd
def lentEnv (E : Env) (s : S) : Env := { E with imm := fun g o => E.imm g o ∨ ∃ l cs, s.vars l = some cs ∧ E.loc l = some g ∧ o < cs.length }
theorem Seg.lent {E : Env} {s : S} {g off : Nat} {vals : List Value} (h : Seg E g off vals) : Seg (lentEnv E s) g off vals := fun j v hj => ⟨.inl (h j v hj).1, (h j v hj).2⟩
mutual
theorem Rd.rep {E : Env} {s : S} (hr : RelS E s) : ∀ {v d : V} {val : Value}, Rd s v d → RepV E v val → RepV (lentEnv E s) d val
  | _, _, val, .scal h, k => by
    cases k with
    | int a b => exact .int a b
    | bool => exact .bool
    | str a => exact .str a
    | nilp => exact .nilp
    | und => exact .und
    | _ => cases h
  | _, _, val, .zsl, k => by cases k with | zsl => exact .slz (.inl rfl)
  | _, _, val, .nilsl, k => by cases k with | nilsl => exact .slz (.inl rfl)
  | _, _, val, .sl h, k => by
    cases k with
    | @sl _ _ vals g off cap sz a b c r sg f =>
      have hl := h.len
      have := RepV.sl (E := lentEnv E s) (id := 0) (g := g) (off := off) (cap := cap) (RdL.cells_all h a) (by omega) c (RdL.repF hr h r) (Seg.lent sg) (.inl rfl)
      rw [hl] at this
      exact this
    | slz f => cases h; exact .slz (.inl rfl)
  | _, _, val, .slm (l := l) (us := us) hv hn hc h, k => by
    cases k with
    | @slm _ _ _ _ cap g hg hle hmx hex =>
      obtain ⟨g', arr, e, fr, h1, h2⟩ := hr.var _ _ hv
      rw [hg] at h1
      cases h1
      have hl := h.len
      obtain ⟨va, vb, hab, hva, hvb⟩ := RepL.split h2.rep
      have := RepV.sl (E := lentEnv E s) (id := 0) (g := g) (off := 0) (cap := cap) (RdL.cells_all h hc) (by omega) hmx (RdL.repF hr h hva) (fun j x hj => ?_) (.inl rfl)
      · rw [hl, hn] at this
        exact this
      · have hj2 : (va ++ vb)[j]? = some x := by rw [List.getElem?_append_left (List.getElem?_eq_some_iff.1 hj).1]; exact hj
        rw [← hab, List.getElem?_take] at hj2
        split at hj2
        · rename_i hjl
          refine ⟨.inr ⟨l, _, hv, hg, by omega⟩, ?_⟩
          show E.w.cell? _ = _
          rw [cell_of_row E.w _ _ arr e fr h2.heap, Nat.zero_add]
          simpa using hj2
        · cases hj2
    | slm0 =>
      have h0 : us = [] := List.length_eq_zero_iff.1 hn
      subst h0
      cases h
      exact .slz (.inl rfl)
  | _, _, val, .slm0, k => by
    cases k with
    | slm hg hle hmx hex =>
      have e : _ = 0 := hex
      subst e
      exact .slz (.inl rfl)
    | slm0 => exact .slz (.inl rfl)
  | _, _, val, .agg h, k => by cases k with | agg r => exact .agg (RdL.rep hr h r)
  | _, _, val, .fn h, k => by cases k with | fn r => exact .fn (RdL.rep hr h r)
  | _, _, val, .eptr, k => RepV.evolve (E' := lentEnv E s) ⟨fun _ _ i => Or.inl i, fun _ _ _ => rfl, fun _ _ h => h, fun id F h => ⟨F, h, Nat.le_refl _, fun _ => rfl⟩⟩ k
  | _, _, val, .ptr (l := l) (k := k0) hv h, k => by
    cases k with
    | @ptr _ _ g hg =>
      obtain ⟨g', arr, e, fr, h1, h2⟩ := hr.var _ _ hv
      rw [hg] at h1
      cases h1
      have := RepV.eptr (E := lentEnv E s) (g := g) (off := 0) (k := k0) (RdL.rep hr h h2.rep) (fun j x hj => ?_)
      · rw [Nat.zero_add] at this
        exact this
      · rw [List.getElem?_take] at hj
        split at hj
        · rename_i hjl
          refine ⟨.inr ⟨l, _, hv, hg, by omega⟩, ?_⟩
          show E.w.cell? _ = _
          rw [cell_of_row E.w _ _ arr e fr h2.heap, Nat.zero_add]
          simpa using hj
        · cases hj
theorem RdL.rep {E : Env} {s : S} (hr : RelS E s) : ∀ {vs ds : List V} {vals : List Value}, RdL s vs ds → RepL E vs vals → RepL (lentEnv E s) ds vals
  | _, _, _, .nil, k => by cases k; exact .nil
  | _, _, _, .cons h t, k => by cases k with | cons k1 k2 => exact .cons (Rd.rep hr h k1) (RdL.rep hr t k2)
theorem RdL.repF {E : Env} {s : S} (hr : RelS E s) : ∀ {vs ds : List V} {vals : List Value}, RdL s vs ds → RepL E (V.flat vs) vals → RepL (lentEnv E s) (V.flat ds) vals
  | _, _, _, .nil, k => by cases k; exact .nil
  | _, _, vals, .cons (v := v) (d := d) (vs := vs) (ds := ds) h t, k => by
    have e : ∀ (y : V) (ys : List V), V.flat (y :: ys) = y.cells ++ V.flat ys := fun y ys => by simp [V.flat]
    rw [e] at k ⊢
    obtain ⟨a, b, rfl, ha, hb⟩ := RepL.split k
    exact (Rd.repC hr h ha).append (RdL.repF hr t hb)
theorem Rd.repC {E : Env} {s : S} (hr : RelS E s) : ∀ {v d : V} {vals : List Value}, Rd s v d → RepL E v.cells vals → RepL (lentEnv E s) d.cells vals
  | _, _, _, .agg h, k => RdL.rep hr h k
  | _, _, _, .scal (v := v) h, k => by
    have e : v.cells = [v] := by cases v <;> first | rfl | cases h
    rw [e] at k ⊢
    cases k with | cons k1 k2 => cases k2; exact .cons (Rd.rep hr (.scal h) k1) .nil
  | _, _, _, .zsl, k => by cases k with | cons k1 k2 => cases k2; exact .cons (Rd.rep hr .zsl k1) .nil
  | _, _, _, .nilsl, k => by cases k with | cons k1 k2 => cases k2; exact .cons (Rd.rep hr .nilsl k1) .nil
  | _, _, _, .sl h, k => by cases k with | cons k1 k2 => cases k2; exact .cons (Rd.rep hr (.sl h) k1) .nil
  | _, _, _, .slm a b c h, k => by cases k with | cons k1 k2 => cases k2; exact .cons (Rd.rep hr (.slm a b c h) k1) .nil
  | _, _, _, .slm0, k => by cases k with | cons k1 k2 => cases k2; exact .cons (Rd.rep hr .slm0 k1) .nil
  | _, _, _, .ptr a h, k => by cases k with | cons k1 k2 => cases k2; exact .cons (Rd.rep hr (.ptr a h) k1) .nil
  | _, _, _, .fn h, k => by cases k with | cons k1 k2 => cases k2; exact .cons (Rd.rep hr (.fn h) k1) .nil
  | _, _, _, .eptr, k => by cases k with | cons k1 k2 => cases k2; exact .cons (Rd.rep hr .eptr k1) .nil
end
/-- A result of new slices alone. -/
structure Owned (d v : V) (t : S) : Prop where
  forget : v.forget = d
  nodup : v.ids.Nodup
  full : v.full t
def thawed (n : Nat) (d : V) : List Own := (thw n d).2.map fun p => .var p.2
end Go.Proofs.YtbnbmcplmipgdaaGreatDoor
