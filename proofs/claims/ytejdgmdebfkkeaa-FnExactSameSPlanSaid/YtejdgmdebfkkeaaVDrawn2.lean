/-
  The rule for drawn regions: one order is walked; what floats past an effect must stay as it is. Own work; no condition.
-/
import Derived.Test.YtejdgmdebfkkeaaVDrawn
namespace Go.Proofs.Ytejdgmdebfkkeaa
open Go

/-- A slot holds a value. -/
def atO (σ : Fr) : Option Nat → V → Prop
  | some d, v => σ d = v
  | none, _ => True

/-- Done again, here, the operation answers what its slot holds. -/
def VStable (P : Program) (ops : Array Oper) (p : Nat) (σ : Fr) (s : S) : Prop :=
  match ops[p]? with
  | none => False
  | some o => match vwanted ops σ o with
    | some true => match vop P o σ s with
      | some (v, s') => s' = s ∧ atO σ o.dst v
      | none => False
    | some false => atO σ o.dst .und
    | none => False

def VStables (P : Program) (ops : Array Oper) (σ : Fr) (s : S) : List Nat → Prop
  | [] => True
  | p :: ps => VStable P ops p σ s ∧ VStables P ops σ s ps

theorem VStables.get {P : Program} {ops : Array Oper} {σ : Fr} {s : S} : ∀ {l : List Nat}, VStables P ops σ s l → ∀ p ∈ l, VStable P ops p σ s
  | [], _, p, hp => by cases hp
  | q :: l, h, p, hp => by
    rcases List.mem_cons.1 hp with rfl | hp
    · exact h.1
    · exact VStables.get h.2 p hp

def ancOf (A : List (List Nat)) (i : Nat) : List Nat := A.getD i []
def effOf (F : List Nat) (i : Nat) : Bool := F.contains i

def floats (F : List Nat) (A : List (List Nat)) (pre : List Nat) (i : Nat) : List Nat := pre.filter fun p => !effOf F p && !(ancOf A i).contains p

/-- One order, walked. -/
def VDr (P : Program) (N : Nat) (ops : Array Oper) (F : List Nat) (A : List (List Nat)) (K : Fr → S → Prop) : List Nat → List Nat → Fr → S → Prop
  | _, [], σ, s => K σ s
  | pre, i :: rest, σ, s =>
    match ops[i]? with
    | none => False
    | some o =>
      match effOf F i with
      | true => VStep P N ops o (fun σ' s' => VStables P ops σ' s' (floats F A pre i) ∧ VDr P N ops F A K (i :: pre) rest σ' s') σ s
      | false => match vwanted ops σ o with
        | some true => match vop P o σ s with
          | some (v, s') => s' = s ∧ VDr P N ops F A K (i :: pre) rest (putO σ o.dst v) s
          | none => False
        | some false => VDr P N ops F A K (i :: pre) rest (putO σ o.dst .und) s
        | none => False

/-- What is asked of the order, the effects and what lies ahead of what. -/
structure Plan (N : Nat) (ops : Array Oper) (order F : List Nat) (A : List (List Nat)) : Prop where
  nodup : order.Nodup
  all : ∀ i, i < ops.size ↔ i ∈ order
  dok : ∀ (i : Nat) (o : Oper), ops[i]? = some o → dstOk N o = true
  anc : ∀ (i : Nat) (o : Oper), ops[i]? = some o → ∀ a ∈ ancOf A i, ∃ e ∈ o.after, Region.binds .any e = true ∧ (e.on = a ∨ a ∈ ancOf A e.on)
  lt : ∀ (i : Nat) (o : Oper), ops[i]? = some o → ∀ e ∈ o.after, Region.binds .any e = true → e.on < i
  pair : order.Pairwise fun x y => y ∉ ancOf A x ∧ (effOf F x = true → x ∈ ancOf A y)
  irr : ∀ i, i ∉ ancOf A i
  dst : ∀ (i j : Nat) (o o' : Oper), ops[i]? = some o → ops[j]? = some o' → effOf F i = false → i ≠ j → ∀ d, o.dst = some d → o'.dst ≠ some d
  look : ∀ (i j : Nat) (o o' : Oper), ops[i]? = some o → ops[j]? = some o' → effOf F i = false → ∀ d, o.dst = some d → d ∈ o'.looksAt ops → i ∈ ancOf A j

def dn (D : Array Bool) (i : Nat) : Prop := D.getD i false = true

def Closed (ops : Array Oper) (D : Array Bool) : Prop :=
  ∀ (i : Nat) (o : Oper), ops[i]? = some o → dn D i → ∀ e ∈ o.after, Region.binds .any e = true → dn D e.on

theorem Plan.anc_done {N : Nat} {ops : Array Oper} {order F : List Nat} {A : List (List Nat)} (pl : Plan N ops order F A) {D : Array Bool} (hc : Closed ops D) : ∀ (i : Nat) (o : Oper), ops[i]? = some o →
    (∀ e ∈ o.after, Region.binds .any e = true → dn D e.on) → ∀ a ∈ ancOf A i, dn D a := by
  intro i
  induction i using Nat.strongRecOn with
  | ind i ih =>
    intro o ho he a ha
    obtain ⟨e, h1, h2, h3⟩ := pl.anc i o ho a ha
    have hd := he e h1 h2
    rcases h3 with rfl | h3
    · exact hd
    · have hlt := pl.lt i o ho e h1 h2
      have hs : i < ops.size := (Array.getElem?_eq_some_iff.1 ho).1
      have ho' : ops[e.on]? = some ops[e.on] := Array.getElem?_eq_getElem (by omega)
      exact ih e.on hlt _ ho' (hc _ _ ho' hd) a h3

theorem ready_iff {ops : Array Oper} {D : Array Bool} (hs : D.size = ops.size) {i : Nat} {o : Oper} (ho : ops[i]? = some o) : i ∈ Region.ready .any ops D ↔ ¬ dn D i ∧ ∀ e ∈ o.after, Region.binds .any e = true → dn D e.on := by
  have hi : i < ops.size := (Array.getElem?_eq_some_iff.1 ho).1
  have e1 : D.getD i true = D.getD i false := by
    simp [Array.getD, hs, hi]
  unfold Region.ready dn
  simp only [List.mem_filter, List.mem_range, hi, true_and, ho, Option.map_some, Option.getD_some, Bool.and_eq_true, Bool.not_eq_true', e1, Array.all_eq_true', Bool.or_eq_true, Bool.not_eq_true]
  constructor
  · rintro ⟨h1, h2⟩
    refine ⟨by simp [h1], fun e he hb => ?_⟩
    have := h2 e he
    rcases this with h | h
    · rw [hb] at h; cases h
    · exact h
  · rintro ⟨h1, h2⟩
    refine ⟨by simpa using h1, fun e he => ?_⟩
    cases hb : Region.binds .any e
    · exact .inl rfl
    · exact .inr (h2 e he hb)

theorem ready_lt {ops : Array Oper} {D : Array Bool} {i : Nat} (h : i ∈ Region.ready .any ops D) : i < ops.size := by
  unfold Region.ready at h
  simp only [List.mem_filter, List.mem_range] at h
  exact h.1

theorem all_done {N : Nat} {ops : Array Oper} {order F : List Nat} {A : List (List Nat)} (pl : Plan N ops order F A) {D : Array Bool} (hs : D.size = ops.size) (hr : Region.ready .any ops D = []) : ∀ i, i < ops.size → dn D i := by
  intro i
  induction i using Nat.strongRecOn with
  | ind i ih =>
    intro hi
    have ho : ops[i]? = some ops[i] := Array.getElem?_eq_getElem hi
    by_cases hd : dn D i
    · exact hd
    · have : i ∈ Region.ready .any ops D := (ready_iff hs ho).2 ⟨hd, fun e he hb => by
        have := pl.lt i _ ho e he hb
        exact ih _ this (by omega)⟩
      rw [hr] at this
      cases this

theorem dn_set {D : Array Bool} {i j : Nat} (hi : i < D.size) : dn (D.setIfInBounds i true) j ↔ (j = i ∨ dn D j) := by
  unfold dn
  by_cases h : j = i
  · subst h
    simp [Array.getD_eq_getD_getElem?, hi]
  · have : i ≠ j := fun e => h e.symm
    simp [Array.getD_eq_getD_getElem?, Array.getElem?_setIfInBounds_ne this, h]

/-- How many are still to do. -/
def left (ops : Array Oper) (D : Array Bool) : Nat := ((List.range ops.size).filter fun i => !D.getD i false).length

theorem filter_lt {p q : Nat → Bool} (h : ∀ x, q x = true → p x = true) {a : Nat} : ∀ {l : List Nat}, a ∈ l → p a = true → q a = false → (l.filter q).length < (l.filter p).length := by
  have le : ∀ l : List Nat, (l.filter q).length ≤ (l.filter p).length := by
    intro l
    induction l with
    | nil => simp
    | cons x l ih =>
      cases hq : q x
      · cases hp : p x <;> simp [hq, hp] <;> omega
      · simp [hq, h x hq]; exact ih
  intro l
  induction l with
  | nil => intro h; cases h
  | cons x l ih =>
    intro ha hp hq
    rcases List.mem_cons.1 ha with rfl | ha
    · simp [hp, hq]
      have := le l
      omega
    · have := ih ha hp hq
      cases hq' : q x
      · cases hp' : p x <;> simp [hq', hp'] <;> omega
      · simp [hq', h x hq']; exact this

theorem left_set {ops : Array Oper} {D : Array Bool} {i : Nat} (hs : D.size = ops.size) (hi : i < ops.size) (hd : ¬ dn D i) : left ops (D.setIfInBounds i true) < left ops D := by
  unfold left
  refine filter_lt (a := i) (fun x hx => ?_) (by simpa using hi) (by unfold dn at hd; simpa using hd) ?_
  · cases hx' : D.getD x false
    · rfl
    · have := (dn_set (D := D) (i := i) (j := x) (by omega)).2 (.inr hx')
      unfold dn at this
      rw [this] at hx
      exact hx
  · have := (dn_set (D := D) (i := i) (j := i) (by omega)).2 (.inl rfl)
    unfold dn at this
    rw [this]; rfl

end Go.Proofs.Ytejdgmdebfkkeaa
