/-
  The types of plans' trees and plans, in plain Lean. Own work; no condition.
-/
import Derived.Test.YtehmlklfbllgcaaGreatDPSize
import Derived.Test.YtehmlklfbllgcaaGreatDTy
import Derived.Test.YtehmlklfbllgcaaGreatDDb
namespace Go.Proofs.YtehmlklfbllgcaaGreat
open Go
set_option linter.unusedSimpArgs false
set_option linter.unusedVariables false
def val0 (v : Val) : Bool := decide (v.kind = 0) && (decide (v.num = 0) && decide (v.text = []))
def litOk (v : Val) : Bool := v.ok && ((!decide (v.kind = 1) || decide (0 ≤ v.num)) && decide ((v.text.length : Int) ≤ 40))
def nameOk (s : List UInt8) : Bool := decide (1 ≤ (s.length : Int)) && decide ((s.length : Int) ≤ 20)
def KindOk (k op : Int) (v : Val) (nk ns : Nat) : Prop :=
  (k = 1 ∧ litOk v = true ∧ nk = 0 ∧ ns = 0) ∨ (k = 2 ∧ nk = 0 ∧ ns = 0) ∨ (k = 3 ∧ (op = 15 ∨ op = 16) ∧ nk = 1 ∧ ns = 0) ∨ (k = 4 ∧ 1 ≤ op ∧ op ≤ 14 ∧ nk = 2 ∧ ns = 0) ∨ (k = 5 ∧ nk = 1 ∧ ns = 0) ∨ (k = 6 ∧ nk = 3 ∧ ns = 0) ∨
  (k = 7 ∧ 2 ≤ nk ∧ nk ≤ 9 ∧ ns = 0) ∨ (k = 8 ∧ nk = 1 ∧ ns = 1) ∨ (k = 9 ∧ nk = 0 ∧ ns = 1)
instance (k op : Int) (v : Val) (nk ns : Nat) : Decidable (KindOk k op v nk ns) := by unfold KindOk; infer_instance
def ShapeP (k op : Int) (nt : Bool) (v : Val) (up pos : Int) (nk ns : Nat) : Prop :=
  (k = 2 ∨ (up = 0 ∧ pos = 0)) ∧ (k = 1 ∨ val0 v = true) ∧ (k = 3 ∨ k = 4 ∨ op = 0) ∧ (nt = false ∨ (5 ≤ k ∧ k ≤ 8)) ∧ KindOk k op v nk ns
instance (k op : Int) (nt : Bool) (v : Val) (up pos : Int) (nk ns : Nat) : Decidable (ShapeP k op nt v up pos nk ns) := by unfold ShapeP; infer_instance
def PE.shape (e : PE) : Bool := decide (ShapeP e.kind e.op e.nt e.value e.up e.pos e.kids.length e.sub.length)
def optT (r : Int × Bool) : Option Int := if r.2 then some r.1 else none
def optV (o : Option Int) : V := tyV (match o with | some t => (t, true) | none => (0, false))
/-- The common type of types. -/
def meetL : Int → List Int → Option Int
  | t, [] => some t
  | t, x :: xs => match meetT t x with
    | (u, true) => meetL u xs
    | (_, false) => none
def colTy (env : List (List Int)) (up pos : Int) : Option Int := if 0 ≤ up ∧ 0 ≤ pos then (env[up.toNat]?).bind fun r => r[pos.toNat]? else none
def resT (env : List (List Int)) (k op : Int) (v : Val) (up pos : Int) (ks : List Int) (ss : List (List Int)) : Option Int :=
  if k = 1 then some v.kind else if k = 2 then colTy env up pos else if k = 3 then optT (unT2 op (ks.headD 0)) else if k = 4 then optT (binT op (ks.headD 0) ((ks.drop 1).headD 0)) else if k = 5 then some 3 else
  if k = 9 then some 3 else if k = 8 then (if (ss.headD []).length = 1 then (meetL 0 (ks ++ ss.headD [])).map fun _ => 3 else none) else (meetL 0 ks).map fun _ => 3
/-- Whether a plan has as many elements as it may have. -/
def PL.form (p : PL) : Bool := decide (1 ≤ p.tables.length ∧ p.tables.length ≤ 3 ∧ p.on.length = p.tables.length ∧ (p.on.headD []).length = 0 ∧ p.wher.length ≤ 1 ∧ p.order.length ≤ 12 ∧ 1 ≤ p.items.length ∧ p.items.length ≤ 12 ∧ p.names.length = p.items.length ∧ -1 ≤ p.limit) &&
  (p.on.all (fun l => decide (l.length ≤ 1)) && p.names.all nameOk)
def PL.ok (c : Cat) (p : PL) : Bool := p.form && p.tables.all (rowIn c)
mutual
def PE.ty (c : Cat) (env : List (List Int)) : PE → Option Int
  | .mk k op nt v up pos kids sub => if PE.shape (.mk k op nt v up pos kids sub) = true then (match PE.tyL c env kids with
    | none => none
    | some ks => match PE.tyS c env sub with
      | none => none
      | some ss => resT env k op v up pos ks ss) else none
def PE.tyL (c : Cat) (env : List (List Int)) : List PE → Option (List Int)
  | [] => some []
  | x :: xs => match PE.ty c env x with
    | none => none
    | some t => match PE.tyL c env xs with
      | none => none
      | some ts => some (t :: ts)
def PE.tyS (c : Cat) (env : List (List Int)) : List (PlanOf PE) → Option (List (List Int))
  | [] => some []
  | x :: xs => match PE.tyP c env x with
    | none => none
    | some t => match PE.tyS c env xs with
      | none => none
      | some ts => some (t :: ts)
def PE.tyP (c : Cat) (env : List (List Int)) : PlanOf PE → Option (List Int)
  | ⟨t, on, w, o, i, n, d, l⟩ => if PL.ok c ⟨t, on, w, o, i, n, d, l⟩ = true then (if PE.tyOn c env t 1 on = true then (if PE.tyT c (rowsOf c t :: env) w = true then (if PE.tyO c (rowsOf c t :: env) o = true then PE.tyL c (rowsOf c t :: env) i else none) else none) else none) else none
def PE.tyOn (c : Cat) (env : List (List Int)) (t : List Int) : Nat → List (List PE) → Bool
  | _, [] => true
  | j, x :: xs => PE.tyT c (rowsOf c (t.take j) :: env) x && PE.tyOn c env t (j + 1) xs
def PE.tyT (c : Cat) (env : List (List Int)) : List PE → Bool
  | [] => true
  | x :: xs => (match PE.ty c env x with
    | some t => tru t
    | none => false) && PE.tyT c env xs
def PE.tyO (c : Cat) (env : List (List Int)) : List (PE × Bool) → Bool
  | [] => true
  | x :: xs => PE.ty1 c env x && PE.tyO c env xs
def PE.ty1 (c : Cat) (env : List (List Int)) : PE × Bool → Bool
  | (e, _) => (PE.ty c env e).isSome
end
section
variable (c : Cat) (env : List (List Int))
theorem PE.ty_eq (e : PE) : e.ty c env = if e.shape = true then (match PE.tyL c env e.kids with
    | none => none
    | some ks => match PE.tyS c env e.sub with
      | none => none
      | some ss => resT env e.kind e.op e.value e.up e.pos ks ss) else none := by
  cases e
  simp only [PE.ty, PE.kids, PE.sub, PE.kind, PE.op, PE.value, PE.up, PE.pos]
theorem PE.tyP_eq (p : PL) : PE.tyP c env p = if PL.ok c p = true then (if PE.tyOn c env p.tables 1 p.on = true then (if PE.tyT c (rowsOf c p.tables :: env) p.wher = true then (if PE.tyO c (rowsOf c p.tables :: env) p.order = true then PE.tyL c (rowsOf c p.tables :: env) p.items else none) else none) else none) else none := by
  cases p
  simp only [PE.tyP]
theorem PE.tyL_len : ∀ {l : List PE} {ts : List Int}, PE.tyL c env l = some ts → ts.length = l.length
  | [], ts, h => by simp only [PE.tyL] at h; cases h; rfl
  | x :: l, ts, h => by
    simp only [PE.tyL] at h
    split at h
    · cases h
    · split at h
      · cases h
      · rename_i h2
        cases h
        simp [PE.tyL_len h2]
theorem PE.tyL_snoc : ∀ (l : List PE) (x : PE), PE.tyL c env (l ++ [x]) = match PE.tyL c env l with
    | none => none
    | some ts => match PE.ty c env x with
      | none => none
      | some t => some (ts ++ [t])
  | [], x => by
    simp only [List.nil_append, PE.tyL]
    try (cases PE.ty c env x <;> rfl)
  | y :: l, x => by
    simp only [List.cons_append, PE.tyL, PE.tyL_snoc l x]
    cases PE.ty c env y with
    | none => rfl
    | some t =>
      cases PE.tyL c env l with
      | none => rfl
      | some ts => cases PE.ty c env x <;> rfl
theorem PE.tyL_none_take {l : List PE} {i : Nat} (hi : i < l.length) (h : PE.tyL c env (l.take (i + 1)) = none) : PE.tyL c env l = none := by
  have key : ∀ (a b : List PE), PE.tyL c env a = none → PE.tyL c env (a ++ b) = none := fun a b => by
    induction a with
    | nil => intro h; simp only [PE.tyL] at h; cases h
    | cons x a ih =>
      intro h
      simp only [PE.tyL, List.cons_append] at h ⊢
      cases hx : PE.ty c env x with
      | none => rfl
      | some t =>
        rw [hx] at h
        cases ha : PE.tyL c env a with
        | none => rw [ih ha]
        | some ts => rw [ha] at h; cases h
  have := key _ (l.drop (i + 1)) h
  rwa [List.take_append_drop] at this
theorem PE.tyT_all : ∀ (l : List PE), PE.tyT c env l = l.all fun x => match PE.ty c env x with
    | some t => tru t
    | none => false
  | [] => rfl
  | x :: l => by simp only [PE.tyT, List.all_cons, PE.tyT_all l]
theorem PE.tyO_all : ∀ (l : List (PE × Bool)), PE.tyO c env l = l.all fun x => (PE.ty c env x.1).isSome
  | [] => rfl
  | x :: l => by
    obtain ⟨e, b⟩ := x
    simp only [PE.tyO, List.all_cons, PE.tyO_all l, PE.ty1]
end
end Go.Proofs.YtehmlklfbllgcaaGreat
