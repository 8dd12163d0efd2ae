/-
  The value level's logic with frames known at some slots: rules that one step of unification applies.
  The value level's logic with frames known at some slots: operations, regions, code.
  The value level's logic with frames known at some slots: memory, calls, functions, loops.
  The rule for drawn regions, calls that only compute among what floats; with frames known at some slots.
  Helpers for walks: the way back of a loop, made slices filled in a loop, facts of mapped lists.
  Tests of what stands next, so that a walk tries few rules.
  Own work; no condition.
-/
import Derived.Test.YtbnbmcplmipgdaaGreatDoorVDrawn
import Derived.Test.YtbnbmcplmipgdaaGreatDoorVCode
namespace Go.Proofs.YtbnbmcplmipgdaaGreatDoor
open Go
/-! ### Types in a tree -/
inductive BT where
  | leaf
  | node (k : Nat) (t : Ty) (l r : BT)
def BT.get : BT → Nat → Option Ty
  | .leaf, _ => none
  | .node k t l r, n => match Nat.beq n k with
    | true => some t
    | false => match Nat.blt n k with
      | true => l.get n
      | false => r.get n
def BT.ok (P : Program) : BT → Prop
  | .leaf => True
  | .node k t l r => tyOf P k = some t ∧ l.ok P ∧ r.ok P
theorem BT.ok.get {P : Program} : ∀ {b : BT}, b.ok P → ∀ {n t}, b.get n = some t → tyOf P n = some t
  | .leaf, _, n, t, h => by cases h
  | .node k u l r, ⟨h1, h2, h3⟩, n, t, h => by
    unfold BT.get at h
    split at h
    · rename_i e
      cases h
      rw [Nat.eq_of_beq_eq_true e]; exact h1
    · split at h
      · exact BT.ok.get h2 h
      · exact BT.ok.get h3 h
/-! ### Frames known at some slots -/
abbrev Kn := List (Nat × V)
def lk : Kn → Nat → Option V
  | [], _ => none
  | (k, v) :: L, x => match Nat.beq k x with
    | true => some v
    | false => lk L x
def At (L : Kn) (σ : Fr) : Prop := ∀ x v, lk L x = some v → σ x = v
theorem At.nil (σ : Fr) : At [] σ := fun _ _ h => by cases h
theorem At.cons {L : Kn} {σ : Fr} (h : At L σ) (d : Nat) (v : V) : At ((d, v) :: L) (put σ d v) := by
  intro x u hx
  unfold lk at hx
  unfold put
  split at hx
  · rename_i e
    rw [if_pos (Nat.eq_of_beq_eq_true e).symm]
    cases hx; rfl
  · rename_i e
    have : x ≠ d := fun e' => by rw [e', show Nat.beq d d = true from Nat.beq_refl d] at e; cases e
    rw [if_neg this]
    exact h x u hx
/-- A slot known to hold something is known to hold it. -/
theorem At.shadow {L : Kn} {σ : Fr} (h : At L σ) {d : Nat} {v : V} (hd : lk L d = some v) : At ((d, v) :: L) σ := by
  intro x u hx
  unfold lk at hx
  split at hx
  · rename_i e
    cases hx
    rw [← Nat.eq_of_beq_eq_true e]; exact h d v hd
  · exact h x u hx
def SubL : Kn → Kn → Prop
  | [], _ => True
  | (k, v) :: A, L => lk L k = some v ∧ SubL A L
theorem SubL.at {A L : Kn} (h : SubL A L) {σ : Fr} (ha : At L σ) : At A σ := by
  induction A with
  | nil => exact At.nil σ
  | cons x A ih =>
    obtain ⟨k, v⟩ := x
    exact fun y u hy => by
      unfold lk at hy
      split at hy
      · rename_i e
        cases hy
        rw [← Nat.eq_of_beq_eq_true e]; exact ha k v h.1
      · exact ih h.2 y u hy
/-! ### Strict helpers: what they answer is written out -/
def nthO {α : Type} : List α → Nat → Option α
  | [], _ => none
  | x :: _, 0 => some x
  | _ :: l, n + 1 => nthO l n
theorem nthO_eq {α : Type} : ∀ {l : List α} {n : Nat} {x : α}, nthO l n = some x → l[n]? = some x
  | [], _, _, h => by cases h
  | _ :: _, 0, _, h => by simpa [nthO] using h
  | _ :: l, n + 1, _, h => by simpa using nthO_eq (l := l) (n := n) h
def lenO {α : Type} : List α → Option Nat
  | [] => some 0
  | _ :: l => match lenO l with
    | some n => some (n + 1)
    | none => none
theorem lenO_eq {α : Type} : ∀ {l : List α} {n : Nat}, lenO l = some n → l.length = n
  | [], n, h => by cases h; rfl
  | x :: l, n, h => by
    unfold lenO at h
    split at h
    · rename_i m e
      cases h
      simp [lenO_eq e]
    · cases h
def snocO {α : Type} : List α → α → Option (List α)
  | [], y => some [y]
  | x :: l, y => match snocO l y with
    | some r => some (x :: r)
    | none => none
theorem snocO_eq {α : Type} : ∀ {l : List α} {y : α} {r : List α}, snocO l y = some r → r = l ++ [y]
  | [], y, r, h => by cases h; rfl
  | x :: l, y, r, h => by
    unfold snocO at h
    split at h
    · rename_i q e
      cases h
      simp [snocO_eq e]
    · cases h
def setO {α : Type} : List α → Nat → α → Option (List α)
  | [], _, _ => none
  | _ :: l, 0, y => some (y :: l)
  | x :: l, n + 1, y => match setO l n y with
    | some r => some (x :: r)
    | none => none
theorem setO_eq {α : Type} : ∀ {l : List α} {n : Nat} {y : α} {r : List α}, setO l n y = some r → r = l.set n y
  | [], _, _, _, h => by cases h
  | _ :: _, 0, _, _, h => by cases h; rfl
  | x :: l, n + 1, y, r, h => by
    unfold setO at h
    split at h
    · rename_i q e
      cases h
      simp [setO_eq e]
    · cases h
def dropO : Nat → List V → Option (List V)
  | 0, l => some l
  | n + 1, _ :: l => dropO n l
  | _ + 1, [] => none
theorem dropO_eq : ∀ {n : Nat} {l r : List V}, dropO n l = some r → r = l.drop n ∧ n ≤ l.length
  | 0, l, r, h => by cases h; simp
  | n + 1, _ :: l, r, h => by
    have := dropO_eq (n := n) (l := l) h
    simp [this.1]; exact this.2
  | _ + 1, [], _, h => by cases h
def firstO : Nat → List V → Option (List V)
  | 0, _ => some []
  | n + 1, x :: l => match firstO n l with
    | some r => some (x :: r)
    | none => none
  | _ + 1, [] => none
theorem firstO_eq : ∀ {n : Nat} {l r : List V}, firstO n l = some r → r = l.take n ∧ n ≤ l.length
  | 0, l, r, h => by cases h; simp
  | n + 1, x :: l, r, h => by
    unfold firstO at h
    split at h
    · rename_i q e
      cases h
      have := firstO_eq e
      simp [this.1]; exact this.2
    · cases h
  | _ + 1, [], _, h => by cases h
def takeO (cs : List V) (off sz : Nat) (agg : Bool) : Option V :=
  match dropO off cs with
  | some l => match agg with
    | true => (match firstO sz l with
      | some r => some (.agg r)
      | none => none)
    | false => (match Nat.beq sz 1, l with
      | true, x :: _ => some x
      | _, _ => none)
  | none => none
theorem takeO_eq {cs : List V} {off sz : Nat} {agg : Bool} {v : V} (h : takeO cs off sz agg = some v) : takeV cs off sz agg = some v := by
  unfold takeO at h
  split at h
  case h_2 => cases h
  rename_i l e
  obtain ⟨rfl, h1⟩ := dropO_eq e
  split at h
  · split at h
    case h_2 => cases h
    rename_i r e2
    obtain ⟨rfl, h2⟩ := firstO_eq e2
    cases h
    rw [List.length_drop] at h2
    simp [takeV, show off + sz ≤ cs.length by omega]
  · split at h
    case h_2 => cases h
    rename_i x l' e2 e3
    cases h
    have hs : sz = 1 := Nat.eq_of_beq_eq_true e2
    subst hs
    have hlt : off < cs.length := by
      rcases Nat.lt_or_ge off cs.length with hh | hh
      · exact hh
      · rw [List.drop_of_length_le hh] at e3; cases e3
    rw [List.drop_eq_getElem_cons hlt] at e3
    simp only [List.cons.injEq] at e3
    simp [takeV, show off + 1 ≤ cs.length by omega, ← e3.1, hlt]
def cellsO : V → Option (List V)
  | .agg cs => some cs
  | .raw _ => none
  | .int k n => some [.int k n]
  | .bool b => some [.bool b]
  | .str s => some [.str s]
  | .ptr l o => some [.ptr l o]
  | .eptr cs o => some [.eptr cs o]
  | .nilp => some [.nilp]
  | .sl i xs => some [.sl i xs]
  | .zsl => some [.zsl]
  | .nilsl => some [.nilsl]
  | .slm x l o n => some [.slm x l o n]
  | .fn f cs => some [.fn f cs]
  | .tup vs => some [.tup vs]
  | .und => some [.und]
theorem cellsO_eq {v : V} {cs : List V} (h : cellsO v = some cs) : v.cells = cs := by
  cases v <;> cases h <;> rfl
def onesO : List V → Bool
  | [] => true
  | v :: l => match v.one with
    | true => onesO l
    | false => false
theorem onesO_eq : ∀ {l : List V}, onesO l = true → l.all V.one = true
  | [], _ => rfl
  | v :: l, h => by
    unfold onesO at h
    split at h
    · rename_i e; simp only [List.all_cons, e, onesO_eq h, Bool.and_self]
    · cases h
def appO {α : Type} : List α → List α → Option (List α)
  | [], r => some r
  | x :: l, r => match appO l r with
    | some q => some (x :: q)
    | none => none
theorem appO_eq {α : Type} : ∀ {l r q : List α}, appO l r = some q → q = l ++ r
  | [], r, q, h => by cases h; rfl
  | x :: l, r, q, h => by
    unfold appO at h
    split at h
    · rename_i p e
      cases h
      simp [appO_eq e]
    · cases h
/-- The cells with some of them written over. -/
def splO (cs : List V) (off : Nat) (vs : List V) : Option (List V) :=
  match off, cs with
  | 0, cs => match dropO vs.length cs with
    | some r => appO vs r
    | none => none
  | n + 1, c :: cs => match splO cs n vs with
    | some r => some (c :: r)
    | none => none
  | _ + 1, [] => none
theorem splO_eq : ∀ {off : Nat} {cs vs r : List V}, splO cs off vs = some r → r = splice cs off vs ∧ off + vs.length ≤ cs.length
  | 0, cs, vs, r, h => by
    unfold splO at h
    split at h
    · rename_i q e
      obtain ⟨rfl, h1⟩ := dropO_eq e
      have := appO_eq h
      subst this
      exact ⟨by simp [splice], by omega⟩
    · cases h
  | n + 1, c :: cs, vs, r, h => by
    unfold splO at h
    split at h
    · rename_i q e
      cases h
      obtain ⟨rfl, h1⟩ := splO_eq e
      exact ⟨by rw [splice_succ], by simp; omega⟩
    · cases h
  | _ + 1, [], _, _, h => by cases h
def opd (L : Kn) : Operand → Option V
  | .tmp t => lk L t
  | .const v => vOf v
  | .func f => some (.fn f [])
  | .global _ => none
theorem opd_eq {L : Kn} {x : Operand} {v : V} {σ : Fr} (ha : At L σ) (h : opd L x = some v) : vev σ x = some v := by
  cases x with
  | tmp t => simp [vev, ha t v h]
  | const c => exact h
  | func f => exact h
  | global g => exact h
def opdL (L : Kn) : List Operand → Option (List V)
  | [] => some []
  | x :: xs => match opd L x with
    | some v => match opdL L xs with
      | some vs => some (v :: vs)
      | none => none
    | none => none
theorem opdL_eq {L : Kn} {σ : Fr} (ha : At L σ) : ∀ {xs : List Operand} {vs : List V}, opdL L xs = some vs → vevL σ xs = some vs
  | [], vs, h => by cases h; rfl
  | x :: xs, vs, h => by
    unfold opdL at h
    split at h
    case h_2 => cases h
    rename_i v e
    split at h
    case h_2 => cases h
    rename_i us e2
    cases h
    simp only [vevL, opd_eq ha e, opdL_eq ha e2, Option.bind_some, Option.map_some]
def opdP (L : Kn) : List (Nat × Operand) → Option (List (Nat × V))
  | [] => some []
  | (i, x) :: xs => match opd L x with
    | some v => match opdP L xs with
      | some vs => some ((i, v) :: vs)
      | none => none
    | none => none
theorem opdP_eq {L : Kn} {σ : Fr} (ha : At L σ) : ∀ {xs : List (Nat × Operand)} {vs : List (Nat × V)}, opdP L xs = some vs → vparts σ xs = some vs
  | [], vs, h => by cases h; rfl
  | (i, x) :: xs, vs, h => by
    unfold opdP at h
    split at h
    case h_2 => cases h
    rename_i v e
    split at h
    case h_2 => cases h
    rename_i us e2
    cases h
    simp only [vparts, opd_eq ha e, opdP_eq ha e2, Option.bind_some, Option.map_some]
/-- A slot always holds something. -/
def thereO : Operand → Bool
  | .tmp _ => true
  | .const v => (vOf v).isSome
  | .func _ => true
  | .global _ => false
theorem thereO_eq {x : Operand} (h : thereO x = true) (σ : Fr) : ∃ v, vev σ x = some v := by
  cases x with
  | tmp t => exact ⟨_, rfl⟩
  | const v => exact Option.isSome_iff_exists.1 h
  | func f => exact ⟨_, rfl⟩
  | global g => cases h
def ikEq : IntKind → IntKind → Bool
  | .i8, .i8 | .i16, .i16 | .i32, .i32 | .i64, .i64 | .u8, .u8 | .u16, .u16 | .u32, .u32 | .u64, .u64 => true
  | _, _ => false
theorem ikEq_eq {a b : IntKind} (h : ikEq a b = true) : a = b := by cases a <;> cases b <;> first | rfl | cases h
/-- Parts of a struct, filled in. -/
def fillO (fs : List FieldI) (cells : List V) : List (Nat × V) → Option (List V)
  | [] => some cells
  | (i, v) :: rest => match nthO fs i with
    | some f => (match cellsO v with
      | some vs => (match Nat.beq vs.length f.size with
        | true => (match splO cells f.off vs with
          | some cells' => fillO fs cells' rest
          | none => none)
        | false => none)
      | none => none)
    | none => none
theorem fillO_eq {fs : List FieldI} : ∀ {ps : List (Nat × V)} {cells r : List V}, fillO fs cells ps = some r → vfill (placeS fs) cells ps = some r
  | [], cells, r, h => h
  | (i, v) :: rest, cells, r, h => by
    unfold fillO at h
    split at h
    case h_2 => cases h
    rename_i f e1
    split at h
    case h_2 => cases h
    rename_i vs e2
    split at h
    case h_2 => cases h
    rename_i e3
    split at h
    case h_2 => cases h
    rename_i c' e4
    obtain ⟨rfl, h4⟩ := splO_eq e4
    have h3 : vs.length = f.size := Nat.eq_of_beq_eq_true e3
    simp only [vfill, placeS, nthO_eq e1, Option.map_some, Option.bind_some, cellsO_eq e2, h3, true_and]
    rw [if_pos (by omega)]
    exact fillO_eq h
def vlenO : Option Ty → Option V → Option V
  | some ⟨_, _, _, .string⟩, some (.str s) => some (.int .i64 s.length)
  | some ⟨_, _, _, .slice _⟩, some .nilsl => some (.int .i64 0)
  | some ⟨_, _, _, .slice _⟩, some .zsl => some (.int .i64 0)
  | some ⟨_, _, _, .slice _⟩, some (.slm _ _ _ n) => some (.int .i64 n)
  | _, _ => none
def isPosO : Int → Bool
  | .ofNat (_ + 1) => true
  | _ => false
def vintO (op : BinOp) (k : IntKind) (a b : Int) : Option V :=
  match op with
  | .quo => match isPosO b with
    | true => some (.int k (k.wrap (a.tdiv b)))
    | false => none
  | .rem => match isPosO b with
    | true => some (.int k (a.tmod b))
    | false => none
  | .shl => match isPosO b with
    | true => some (.int k (k.wrap (a * 2 ^ (min b.toNat k.bits))))
    | false => none
  | .shr => match isPosO b with
    | true => some (.int k (a.fdiv (2 ^ (min b.toNat k.bits))))
    | false => none
  | .add => none
  | .sub => none
  | .mul => none
  | op => vint op k a b
def vstrO (op : BinOp) (a b : List UInt8) : Option V :=
  match op with
  | .add => none
  | op => vstrOp op a b
def binO (tt : BT) (op : BinOp) (T : TypeId) (x y : Option V) : Option V :=
  match x, y with
  | some (.int k a), some (.int k' b) => match ikEq k k' with
    | true => vintO op k a b
    | false => none
  | some (.str a), some (.str b) => vstrO op a b
  | some (.bool a), some (.bool b) => match tt.get T with
    | some ⟨_, _, _, .bool⟩ => match op with
      | .eql => some (.bool (decide (a = b)))
      | .neq => some (.bool (!decide (a = b)))
      | _ => none
    | _ => none
  | some (.agg xs), some (.agg ys) => match tt.get T with
    | some ⟨_, _, _, .struct fs true⟩ => match op with
      | .eql => (eqF fs 0 xs ys).map .bool
      | .neq => (eqF fs 0 xs ys).map fun b => .bool !b
      | _ => none
    | _ => none
  | _, _ => none
theorem isPosO_eq {b : Int} (h : isPosO b = true) : 0 < b := by
  unfold isPosO at h
  split at h
  · rename_i n; show (0 : Int) < ((n + 1 : Nat) : Int); omega
  · cases h
theorem vintO_eq {P : Program} {T : TypeId} {op : BinOp} {k : IntKind} {a b : Int} {v : V} (h : vintO op k a b = some v) : vbin P op T (.int k a) (.int k b) = some v := by
  unfold vintO at h
  split at h
  · split at h
    · rename_i e; have := isPosO_eq e
      simpa [vbin, vint, show b ≠ 0 by omega] using h
    · cases h
  · split at h
    · rename_i e; have := isPosO_eq e
      simpa [vbin, vint, show b ≠ 0 by omega] using h
    · cases h
  · split at h
    · rename_i e; have := isPosO_eq e
      simpa [vbin, show 0 ≤ b by omega] using h
    · cases h
  · split at h
    · rename_i e; have := isPosO_eq e
      simpa [vbin, show 0 ≤ b by omega] using h
    · cases h
  · cases h
  · cases h
  · cases h
  · cases op <;> first | (simp [vbin, vint] at h ⊢; exact h) | simp_all
theorem vstrO_eq {P : Program} {T : TypeId} {op : BinOp} {a b : List UInt8} {v : V} (h : vstrO op a b = some v) : vbin P op T (.str a) (.str b) = some v := by
  unfold vstrO at h
  split at h
  · cases h
  · rename_i hne
    cases op <;> first | exact absurd rfl hne | exact h
theorem binO_eq {P : Program} {tt : BT} (ht : tt.ok P) {op : BinOp} {T : TypeId} {x y v : V} (h : binO tt op T (some x) (some y) = some v) : vbin P op T x y = some v := by
  unfold binO at h
  split at h
  · rename_i k a k' b e1 e2
    cases e1; cases e2
    split at h
    · rename_i e
      have := ikEq_eq e
      subst this
      exact vintO_eq h
    · cases h
  · rename_i e1 e2
    cases e1; cases e2
    exact vstrO_eq h
  · rename_i e1 e2
    cases e1; cases e2
    split at h
    · rename_i e
      have := ht.get e
      split at h
      · simpa [vbin, veq, this] using h
      · simpa [vbin, veq, this] using h
      · cases h
    · cases h
  · rename_i e1 e2
    cases e1; cases e2
    split at h
    · rename_i e
      have := ht.get e
      split at h
      · simpa [vbin, veq, this] using h
      · simpa [vbin, veq, this] using h
      · cases h
    · cases h
  · cases h
/-- What an operation answers that changes nothing: by unification. -/
def ev (tt : BT) (L : Kn) (op : Op) : Option V :=
  match op with
  | .move x => opd L x
  | .assign x => opd L x
  | .pick c a b => match opd L c with
    | some (.bool true) => match thereO b with
      | true => opd L a
      | false => none
    | some (.bool false) => match thereO a with
      | true => opd L b
      | false => none
    | _ => none
  | .fieldAddr T x f => match tt.get T with
    | some ⟨_, _, _, .struct fs _⟩ => match nthO fs f with
      | some fi => match Nat.beq fi.size 0 with
        | true => none
        | false => match opd L x with
          | some (.ptr l o) => some (.ptr l (o + fi.off))
          | some (.eptr cs o) => some (.eptr cs (o + fi.off))
          | _ => none
      | none => none
    | _ => none
  | .load T x => match opd L x with
    | some (.eptr cs off) => match tt.get T with
      | some t => takeO cs off t.size t.agg
      | none => none
    | _ => none
  | .field T x f => match tt.get T with
    | some ⟨_, _, _, .struct fs _⟩ => match nthO fs f with
      | some fi => match opd L x with
        | some (.agg cs) => takeO cs fi.off fi.size fi.agg
        | _ => none
      | none => none
    | _ => none
  | .build T parts => match tt.get T with
    | some ⟨sz, _, zero, .struct fs _⟩ => match Nat.beq zero.length sz && Nat.blt 0 sz with
      | true => match opdP L parts.toList with
        | some ps => (match fillO fs zero ps with
          | some cs => some (.agg cs)
          | none => none)
        | none => none
      | false => none
    | _ => none
  | .binOp op T x y _ => binO tt op T (opd L x) (opd L y)
  | .unOp op _ x => match opd L x with
    | some v => vun op v
    | none => none
  | .convert U T x => match tt.get U with
    | some _ => (match tt.get T, opd L x with
      | some ⟨_, _, _, .int k⟩, some (.int _ n) => some (.int k (k.wrap n))
      | some ⟨_, _, _, .string⟩, some (.str s) => some (.str s)
      | _, _ => none)
    | none => none
  | .extract x i => match opd L x with
    | some (.tup vs) => nthO vs i
    | _ => none
  | .makeFunc fn first captured => match fn, first.toList with
    | .func f, [] => (match opdL L captured.toList with
      | some cs => some (.fn f cs)
      | none => none)
    | _, _ => none
  | .nilCheck x => match opd L x with
    | some (.ptr l k) => some (.ptr l k)
    | some (.eptr cs k) => some (.eptr cs k)
    | some (.fn f cs) => some (.fn f cs)
    | _ => none
  | .call c => match c.callee, c.args.toList, c.argTypes.toList with
    | .builtin .len, [x], [T] => vlenO (tt.get T) (opd L x)
    | .builtin .max, [x, y], _ => (match opd L x, opd L y with
      | some x, some y => vmax x y
      | _, _ => none)
    | .builtin .min, [x, y], _ => (match opd L x, opd L y with
      | some x, some y => vmin x y
      | _, _ => none)
    | _, _, _ => none
  | _ => none
end Go.Proofs.YtbnbmcplmipgdaaGreatDoor
namespace Go.Proofs.YtbnbmcplmipgdaaGreatDoor
open Go
theorem ev_eq {P : Program} {tt : BT} (ht : tt.ok P) {L : Kn} {σ : Fr} (ha : At L σ) {op : Op} {v : V} (h : ev tt L op = some v) (dst : Option Nat) (ty : TypeId) (p : String) (a : Array Edge) (g : Option (Nat × Bool)) (s : S) :
    vop P ⟨dst, op, ty, p, a, g⟩ σ s = some (v, s) := by
  unfold ev at h
  split at h
  case h_15 => cases h
  case h_1 => simp only [vop, opd_eq ha h, Option.map_some]
  case h_2 => simp only [vop, opd_eq ha h, Option.map_some]
  case h_3 =>
    split at h
    · rename_i e
      split at h
      case h_2 => cases h
      rename_i e2
      obtain ⟨u, hu⟩ := thereO_eq e2 σ
      simp only [vop, opd_eq ha e, opd_eq ha h, hu, Option.bind_some, if_true]
    · rename_i e
      split at h
      case h_2 => cases h
      rename_i e2
      obtain ⟨u, hu⟩ := thereO_eq e2 σ
      simp only [vop, opd_eq ha e, opd_eq ha h, hu, Option.bind_some]
      rfl
    · cases h
  case h_4 =>
    split at h
    case h_2 => cases h
    rename_i e1
    split at h
    case h_2 => cases h
    rename_i fi e2
    split at h
    case h_1 => cases h
    rename_i e3
    have hz : ¬ fi.size = 0 := fun e => by rw [e] at e3; cases e3
    split at h
    · rename_i e4
      cases h
      simp only [vop, opd_eq ha e4, vfieldAddr, ht.get e1, nthO_eq e2, Option.bind_some, Option.map_some, if_neg hz]
    · rename_i e4
      cases h
      simp only [vop, opd_eq ha e4, vfieldAddr, ht.get e1, nthO_eq e2, Option.bind_some, Option.map_some, if_neg hz]
    · cases h
  case h_5 =>
    split at h
    case h_2 => cases h
    rename_i e1
    split at h
    case h_2 => cases h
    rename_i e2
    simp only [vop, opd_eq ha e1, vload, ht.get e2, takeO_eq h, Option.bind_some, Option.map_some]
  case h_6 =>
    split at h
    case h_2 => cases h
    rename_i e1
    split at h
    case h_2 => cases h
    rename_i fi e2
    split at h
    case h_2 => cases h
    rename_i e3
    simp only [vop, opd_eq ha e3, vfield, ht.get e1, nthO_eq e2, takeO_eq h, Option.bind_some, Option.map_some]
  case h_7 =>
    split at h
    case h_2 => cases h
    rename_i e1
    split at h
    case h_2 => cases h
    rename_i e2
    split at h
    case h_2 => cases h
    rename_i e3
    split at h
    case h_2 => cases h
    rename_i e4
    cases h
    simp only [Bool.and_eq_true] at e2
    have h1 := Nat.eq_of_beq_eq_true e2.1
    simp only [vop, opdP_eq ha e3, vbuild, ht.get e1, fillO_eq e4, Option.bind_some, Option.map_some]
    rw [if_pos ⟨h1, by simpa using e2.2⟩]
    rfl
  case h_8 op T x y _ =>
    cases hx : opd L x with
    | none => rw [hx] at h; simp [binO] at h
    | some u =>
      cases hy : opd L y with
      | none => rw [hy] at h; simp [binO] at h
      | some w =>
        rw [hx, hy] at h
        simp only [vop, opd_eq ha hx, opd_eq ha hy, binO_eq ht h, Option.bind_some, Option.map_some]
  case h_9 =>
    split at h
    case h_2 => cases h
    rename_i e1
    simp only [vop, opd_eq ha e1, h, Option.bind_some, Option.map_some]
  case h_10 =>
    split at h
    case h_2 => cases h
    rename_i e0
    split at h
    · rename_i e1 e2
      cases h
      simp only [vop, opd_eq ha e2, vconvert, vconv, ht.get e0, ht.get e1, Option.bind_some, Option.map_some]
    · rename_i e1 e2
      cases h
      simp only [vop, opd_eq ha e2, vconvert, vconv, ht.get e0, ht.get e1, Option.bind_some, Option.map_some]
    · cases h
  case h_11 =>
    split at h
    case h_2 => cases h
    rename_i e1
    simp only [vop, opd_eq ha e1, vextract, nthO_eq h, Option.bind_some, Option.map_some]
  case h_12 =>
    split at h
    case h_2 => cases h
    rename_i e1
    split at h
    case h_2 => cases h
    rename_i e2
    cases h
    simp only [vop, e1, opdL_eq ha e2, Option.map_some]
  case h_13 =>
    split at h
    · rename_i e; cases h; simp only [vop, opd_eq ha e, Option.bind_some]
    · rename_i e; cases h; simp only [vop, opd_eq ha e, Option.bind_some]
    · rename_i e; cases h; simp only [vop, opd_eq ha e, Option.bind_some]
    · cases h
  case h_14 c =>
    obtain ⟨callee, args, tys⟩ := c
    simp only at h
    split at h
    · rename_i x T e1 e2
      simp only [vop, vbuiltin]
      rw [e1, e2]
      unfold vlenO at h
      split at h
      all_goals first
        | (rename_i f1 f2; cases h; simp only [vevL, opd_eq ha f2, vlen, ht.get f1, Option.bind_some, Option.map_some])
        | cases h
    · rename_i x y e1
      split at h
      case h_2 => cases h
      rename_i f1 f2
      simp only [vop]
      rw [e1]
      simp only [vevL, opd_eq ha f1, opd_eq ha f2, vbuiltin, Option.bind_some, Option.map_some, h]
    · rename_i x y e1
      split at h
      case h_2 => cases h
      rename_i f1 f2
      simp only [vop]
      rw [e1]
      simp only [vevL, opd_eq ha f1, opd_eq ha f2, vbuiltin, Option.bind_some, Option.map_some, h]
    · cases h
/-! ### Code -/
structure WL (P : Program) (N : Nat) (c : Code) (Q : Exit → Kn → S → Prop) (L : Kn) (s : S) : Prop where
  run : ∀ σ, At L σ → VWp P N c (fun e σ' s' => ∃ L', At L' σ' ∧ Q e L' s') σ s
structure LOps (P : Program) (N : Nat) (ops : Array Oper) (l : List Oper) (K : Kn → S → Prop) (L : Kn) (s : S) : Prop where
  run : l.all (dstOk N) = true → ∀ σ, At L σ → VOps P N ops l (fun σ' s' => ∃ L', At L' σ' ∧ K L' s') σ s
def lthenD (K : Kn → S → Prop) (Q : Exit → Kn → S → Prop) : Exit → Kn → S → Prop
  | .normal, L, s => K L s
  | e, L, s => Q e L s
/-- What follows a piece of code: a structure, for unification to stop at. -/
structure lthen (K : Kn → S → Prop) (Q : Exit → Kn → S → Prop) (e : Exit) (L : Kn) (s : S) : Prop where
  h : lthenD K Q e L s
def lblockD (id : Nat) (Q : Exit → Kn → S → Prop) : Exit → Kn → S → Prop
  | .exit id', L, s => match Nat.beq id' id with
    | true => Q .normal L s
    | false => Q (.exit id') L s
  | e, L, s => Q e L s
structure lblock (id : Nat) (Q : Exit → Kn → S → Prop) (e : Exit) (L : Kn) (s : S) : Prop where
  h : lblockD id Q e L s
variable {P : Program} {N : Nat}
theorem WL.seq {x y : Code} {Q : Exit → Kn → S → Prop} {L : Kn} {s : S} (h : WL P N x (lthen (fun L s => WL P N y Q L s) Q) L s) : WL P N (.seq x y) Q L s := by
  refine ⟨fun σ hσ => VWp.seq (VWp.mono (h.run σ hσ) ?_)⟩
  rintro e σ' s' ⟨L', a, ⟨q⟩⟩
  cases e with
  | normal => exact q.run σ' a
  | _ => exact ⟨L', a, q⟩
theorem WL.mono {c : Code} {Q Q' : Exit → Kn → S → Prop} {L : Kn} {s : S} (h : WL P N c Q L s) (hq : ∀ e L s, Q e L s → Q' e L s) : WL P N c Q' L s :=
  ⟨fun σ hσ => (h.run σ hσ).mono fun _ _ _ ⟨L', a, q⟩ => ⟨L', a, hq _ _ _ q⟩⟩
theorem WL.sub {c : Code} {Q : Exit → Kn → S → Prop} {L L' : Kn} {s : S} (hs : SubL L' L) (h : WL P N c Q L' s) : WL P N c Q L s := ⟨fun σ hσ => h.run σ (hs.at hσ)⟩
theorem WL.skip {Q : Exit → Kn → S → Prop} {L : Kn} {s : S} (h : Q .normal L s) : WL P N .skip Q L s := ⟨fun _ hσ => VWp.skip ⟨L, hσ, h⟩⟩
theorem WL.ret {Q : Exit → Kn → S → Prop} {L : Kn} {s : S} (h : Q .ret L s) : WL P N .ret Q L s := ⟨fun _ hσ => VWp.ret ⟨L, hσ, h⟩⟩
theorem WL.exit {id : Nat} {Q : Exit → Kn → S → Prop} {L : Kn} {s : S} (h : Q (.exit id) L s) : WL P N (.exit id) Q L s := ⟨fun _ hσ => VWp.exit ⟨L, hσ, h⟩⟩
theorem WL.block {id : Nat} {c : Code} {Q : Exit → Kn → S → Prop} {L : Kn} {s : S} (h : WL P N c (lblock id Q) L s) : WL P N (.block id c) Q L s := by
  refine ⟨fun σ hσ => VWp.block (VWp.mono (h.run σ hσ) ?_)⟩
  rintro e σ' s' ⟨L', a, ⟨q⟩⟩
  cases e with
  | exit id' =>
    simp only [vinBlock]
    simp only [lblockD] at q
    split at q
    · rename_i e1
      rw [if_pos (Nat.eq_of_beq_eq_true e1)]
      exact ⟨L', a, q⟩
    · rename_i e1
      rw [if_neg (fun e => by rw [e, Nat.beq_refl] at e1; cases e1)]
      exact ⟨L', a, q⟩
  | _ => exact ⟨L', a, q⟩
theorem WL.condT {x : Operand} {c d : Code} {Q : Exit → Kn → S → Prop} {L : Kn} {s : S} (hx : opd L x = some (.bool true)) (h : WL P N c Q L s) : WL P N (.cond x c d) Q L s :=
  ⟨fun σ hσ => VWp.condT (opd_eq hσ hx) (h.run σ hσ)⟩
theorem WL.condF {x : Operand} {c d : Code} {Q : Exit → Kn → S → Prop} {L : Kn} {s : S} (hx : opd L x = some (.bool false)) (h : WL P N d Q L s) : WL P N (.cond x c d) Q L s :=
  ⟨fun σ hσ => VWp.condF (opd_eq hσ hx) (h.run σ hσ)⟩
theorem WL.cond {t : Nat} {b : Bool} {c d : Code} {Q : Exit → Kn → S → Prop} {L : Kn} {s : S} (hx : lk L t = some (.bool b)) (hT : b = true → WL P N c Q ((t, .bool true) :: L) s) (hF : b = false → WL P N d Q ((t, .bool false) :: L) s) :
    WL P N (.cond (.tmp t) c d) Q L s := by
  refine ⟨fun σ hσ => VWp.cond (opd_eq (x := .tmp t) hσ hx) (fun e => (hT e).run σ ?_) (fun e => (hF e).run σ ?_)⟩
  · subst e; exact hσ.shadow hx
  · subst e; exact hσ.shadow hx
/-- The same, where a fact decides the test. -/
theorem WL.condT' {t : Nat} {b : Bool} {c d : Code} {Q : Exit → Kn → S → Prop} {L : Kn} {s : S} (hx : lk L t = some (.bool b)) (hb : b = true) (h : WL P N c Q L s) : WL P N (.cond (.tmp t) c d) Q L s :=
  WL.condT (by subst hb; exact hx) h
theorem WL.condF' {t : Nat} {b : Bool} {c d : Code} {Q : Exit → Kn → S → Prop} {L : Kn} {s : S} (hx : lk L t = some (.bool b)) (hb : b = false) (h : WL P N d Q L s) : WL P N (.cond (.tmp t) c d) Q L s :=
  WL.condF (by subst hb; exact hx) h
theorem WL.region {id : Nat} {ops : Array Oper} {Q : Exit → Kn → S → Prop} {L : Kn} {s : S} (hd : ops.toList.all (dstOk N) = true) (h : LOps P N ops ops.toList (Q .normal) L s) : WL P N (.region id ops false) Q L s :=
  ⟨fun σ hσ => VWp.region (h.run hd σ hσ)⟩
theorem lthen_n {K : Kn → S → Prop} {Q : Exit → Kn → S → Prop} {L : Kn} {s : S} (h : K L s) : lthen K Q .normal L s := ⟨h⟩
theorem lthen_e {K : Kn → S → Prop} {Q : Exit → Kn → S → Prop} {i : Nat} {L : Kn} {s : S} (h : Q (.exit i) L s) : lthen K Q (.exit i) L s := ⟨h⟩
theorem lthen_r {K : Kn → S → Prop} {Q : Exit → Kn → S → Prop} {L : Kn} {s : S} (h : Q .ret L s) : lthen K Q .ret L s := ⟨h⟩
theorem lblock_n {id : Nat} {Q : Exit → Kn → S → Prop} {L : Kn} {s : S} (h : Q .normal L s) : lblock id Q .normal L s := ⟨h⟩
theorem lblock_r {id : Nat} {Q : Exit → Kn → S → Prop} {L : Kn} {s : S} (h : Q .ret L s) : lblock id Q .ret L s := ⟨h⟩
theorem lblock_e {id : Nat} {Q : Exit → Kn → S → Prop} {L : Kn} {s : S} (h : Q .normal L s) : lblock id Q (.exit id) L s := by
  refine ⟨?_⟩
  simp only [lblockD, Nat.beq_refl]; exact h
theorem lblock_o {id i : Nat} {Q : Exit → Kn → S → Prop} {L : Kn} {s : S} (hi : Nat.beq i id = false) (h : Q (.exit i) L s) : lblock id Q (.exit i) L s := by
  refine ⟨?_⟩
  simp only [lblockD, hi]; exact h
/-! ### Operations -/
variable {ops : Array Oper} {l : List Oper} {K : Kn → S → Prop} {L : Kn}
theorem LOps.nil {s : S} (h : K L s) : LOps P N ops [] K L s := ⟨fun _ _ hσ => ⟨L, hσ, h⟩⟩
theorem VStep_of {o : Oper} {K : Fr → S → Prop} {σ : Fr} {s s' : S} {v : V} (hd : dstOk N o = true) (hg : o.guard = none) (hv : vop P o σ s = some (v, s')) (hk : K (putO σ o.dst v) s') : VStep P N ops o K σ s := by
  refine ⟨hd, ?_⟩
  simp only [vwanted, hg]
  exact VOp_of_vop hv hk
/-- An operation that leaves something in its slot. -/
theorem LOps.st {op : Op} {d : Nat} {ty : TypeId} {p : String} {a : Array Edge} {v : V} {s s' : S} (hv : ∀ σ, At L σ → vop P ⟨some d, op, ty, p, a, none⟩ σ s = some (v, s')) (hk : LOps P N ops l K ((d, v) :: L) s') :
    LOps P N ops (⟨some d, op, ty, p, a, none⟩ :: l) K L s := by
  refine ⟨fun hd σ hσ => ?_⟩
  simp only [List.all_cons, Bool.and_eq_true] at hd
  exact VStep_of hd.1 rfl (hv σ hσ) (hk.run hd.2 _ (hσ.cons d v))
theorem LOps.stN {op : Op} {ty : TypeId} {p : String} {a : Array Edge} {v : V} {s s' : S} (hv : ∀ σ, At L σ → vop P ⟨none, op, ty, p, a, none⟩ σ s = some (v, s')) (hk : LOps P N ops l K L s') :
    LOps P N ops (⟨none, op, ty, p, a, none⟩ :: l) K L s := by
  refine ⟨fun hd σ hσ => ?_⟩
  simp only [List.all_cons, Bool.and_eq_true] at hd
  exact VStep_of hd.1 rfl (hv σ hσ) (hk.run hd.2 _ hσ)
theorem LOps.ev {tt : BT} (ht : tt.ok P) {op : Op} {d : Nat} {ty : TypeId} {p : String} {a : Array Edge} {v : V} {s : S} (hv : ev tt L op = some v) (hk : LOps P N ops l K ((d, v) :: L) s) :
    LOps P N ops (⟨some d, op, ty, p, a, none⟩ :: l) K L s := .st (fun _ hσ => ev_eq ht hσ hv _ _ _ _ _ s) hk
/-! #### Guards -/
def gslot (ops : List Oper) (j : Nat) : Option Nat := match nthO ops j with
  | some ⟨some d, _, _, _, _, _⟩ => some d
  | _ => none
theorem gslot_eq {ops : Array Oper} {j d : Nat} (h : gslot ops.toList j = some d) : (ops[j]?).bind (·.dst) = some d := by
  unfold gslot at h
  split at h
  · rename_i e
    have := nthO_eq e
    rw [Array.getElem?_toList] at this
    simp only [this, Option.bind_some]; exact h
  · cases h
theorem LOps.gT {op : Op} {dst : Option Nat} {j d : Nat} {w b : Bool} {ty : TypeId} {p : String} {a : Array Edge} {s : S} (hj : gslot ops.toList j = some d) (hb : lk L d = some (.bool b)) (hw : (b == w) = true)
    (hk : LOps P N ops (⟨dst, op, ty, p, a, none⟩ :: l) K L s) : LOps P N ops (⟨dst, op, ty, p, a, some (j, w)⟩ :: l) K L s := by
  refine ⟨fun hd σ hσ => ?_⟩
  obtain ⟨h1, h2⟩ := hk.run hd σ hσ
  refine ⟨h1, ?_⟩
  simp only [vwanted, gslot_eq hj, hσ d _ hb, hw]
  exact h2
theorem LOps.gF {op : Op} {dst j d : Nat} {w b : Bool} {ty : TypeId} {p : String} {a : Array Edge} {s : S} (hj : gslot ops.toList j = some d) (hb : lk L d = some (.bool b)) (hw : (b == w) = false)
    (hk : LOps P N ops l K ((dst, .und) :: L) s) : LOps P N ops (⟨some dst, op, ty, p, a, some (j, w)⟩ :: l) K L s := by
  refine ⟨fun hd σ hσ => ?_⟩
  simp only [List.all_cons, Bool.and_eq_true] at hd
  refine ⟨hd.1, ?_⟩
  simp only [vwanted, gslot_eq hj, hσ d _ hb, hw]
  exact hk.run hd.2 _ (hσ.cons dst .und)
theorem LOps.gU {op : Op} {dst j d : Nat} {w : Bool} {ty : TypeId} {p : String} {a : Array Edge} {s : S} (hj : gslot ops.toList j = some d) (hb : lk L d = some .und)
    (hk : LOps P N ops l K ((dst, .und) :: L) s) : LOps P N ops (⟨some dst, op, ty, p, a, some (j, w)⟩ :: l) K L s := by
  refine ⟨fun hd σ hσ => ?_⟩
  simp only [List.all_cons, Bool.and_eq_true] at hd
  refine ⟨hd.1, ?_⟩
  simp only [vwanted, gslot_eq hj, hσ d _ hb]
  exact hk.run hd.2 _ (hσ.cons dst .und)
/-- A guard that is not known: both ways. -/
theorem LOps.gC {o : Oper} {j d : Nat} {w b : Bool} {s : S} (_ : o.guard = some (j, w)) (_ : gslot ops.toList j = some d) (hb : lk L d = some (.bool b))
    (hT : b = true → LOps P N ops (o :: l) K ((d, .bool true) :: L) s) (hF : b = false → LOps P N ops (o :: l) K ((d, .bool false) :: L) s) : LOps P N ops (o :: l) K L s := by
  refine ⟨fun hd σ hσ => ?_⟩
  cases b
  · exact (hF rfl).run hd σ (hσ.shadow hb)
  · exact (hT rfl).run hd σ (hσ.shadow hb)
end Go.Proofs.YtbnbmcplmipgdaaGreatDoor
namespace Go.Proofs.YtbnbmcplmipgdaaGreatDoor
open Go
variable {P : Program} {N : Nat} {ops : Array Oper} {l : List Oper} {K : Kn → S → Prop} {L : Kn} {s : S} {xs ys : List Own} {tt : BT}
variable {d : Nat} {ty : TypeId} {p : String} {a : Array Edge}
/-! ### Memory of one's own -/
theorem LOps.box {T : TypeId} {x : Operand} {v : V} {cs : List V} {n : Nat} (hx : opd L x = some v) (hc : cellsO v = some cs) (hl : lenO xs = some n) (hs : snocO xs (.var cs) = some ys)
    (hk : LOps P N ops l K ((d, .ptr (s.next + n) 0) :: L) (s.ext ys)) : LOps P N ops (⟨some d, .box T x, ty, p, a, none⟩ :: l) K L (s.ext xs) :=
  .st (fun σ hσ => by simp only [vop, opd_eq hσ hx, Option.map_some, ext_newVar, ext_next, lenO_eq hl, cellsO_eq hc, snocO_eq hs]) hk
theorem LOps.alloc (ht : tt.ok P) {T : TypeId} {t : Ty} {n : Nat} (hT : tt.get T = some t) (hz : (Nat.beq t.zero.length t.size && Nat.blt 0 t.size) = true) (hl : lenO xs = some n) (hs : snocO xs (.var t.zero) = some ys)
    (hk : LOps P N ops l K ((d, .ptr (s.next + n) 0) :: L) (s.ext ys)) : LOps P N ops (⟨some d, .alloc T, ty, p, a, none⟩ :: l) K L (s.ext xs) := by
  simp only [Bool.and_eq_true] at hz
  refine .st (fun σ hσ => ?_) hk
  simp only [vop, valloc, ht.get hT, Option.bind_some, ext_newVar, ext_next, lenO_eq hl, snocO_eq hs]
  rw [if_pos ⟨Nat.eq_of_beq_eq_true hz.1, by simpa using hz.2⟩]
theorem own_vars {k : Nat} {cs : List V} (hv : nthO xs k = some (.var cs)) : (s.ext xs).vars (s.next + k) = some cs := by rw [ext_vars, nthO_eq hv]; rfl
theorem LOps.storeP (ht : tt.ok P) {T : TypeId} {t : Ty} {x y : Operand} {k off : Nat} {cs vs cs' : List V} {v : V} (hx : opd L x = some (.ptr (s.next + k) off)) (hy : opd L y = some v) (hv : nthO xs k = some (.var cs)) (hT : tt.get T = some t)
    (hc : cellsO v = some vs) (ho : onesO vs = true) (hn : Nat.beq vs.length t.size = true) (hsp : splO cs off vs = some cs') (hset : setO xs k (.var cs') = some ys)
    (hk : LOps P N ops l K L (s.ext ys)) : LOps P N ops (⟨none, .store T x y, ty, p, a, none⟩ :: l) K L (s.ext xs) := by
  refine .stN (v := .und) (fun σ hσ => ?_) hk
  obtain ⟨h1, h2⟩ := splO_eq hsp
  have h3 : vs.length = t.size := Nat.eq_of_beq_eq_true hn
  simp only [vop, opd_eq hσ hx, opd_eq hσ hy, vstore, ht.get hT, own_vars hv, cellsO_eq hc, Option.bind_some]
  rw [if_pos ⟨h3, by omega, onesO_eq ho⟩, Option.map_some, ext_setVar _ _ _ _ (by rw [nthO_eq hv]; rfl), setO_eq hset, h1]
/-! ### Slices -/
def seqO : Nat → List (Nat × V) → Option (List V)
  | _, [] => some []
  | k, (i, v) :: l => match Nat.beq i k with
    | true => (match seqO (k + 1) l with
      | some r => some (v :: r)
      | none => none)
    | false => none
/-- Elements of this size, each put together as a slice's are. -/
def elemO (t : Ty) : V → Bool
  | .agg cs => t.agg && Nat.beq cs.length t.size
  | .raw _ => false
  | v => !t.agg && v.one && Nat.beq t.size 1
def elemsO (t : Ty) : List V → Bool
  | [] => true
  | v :: l => match elemO t v with
    | true => elemsO t l
    | false => false
theorem elemO_eq {t : Ty} {v : V} (h : elemO t v = true) : v.cells.length = t.size ∧ v.fits t.agg = true := by
  cases v <;> simp_all [elemO, V.fits, V.cells, V.one]
theorem elemsO_eq {t : Ty} : ∀ {l : List V}, elemsO t l = true → ∀ v ∈ l, elemO t v = true
  | [], _, v, hv => by cases hv
  | u :: l, h, v, hv => by
    unfold elemsO at h
    split at h
    · rename_i e
      rcases List.mem_cons.1 hv with rfl | hv
      · exact e
      · exact elemsO_eq h v hv
    · cases h
theorem vfill_seq {sz n : Nat} {z : List V} (hz : z.length = sz) : ∀ {ps : List (Nat × V)} {us vs : List V}, seqO us.length ps = some vs → (∀ v ∈ us ++ vs, v.cells.length = sz) → us.length + vs.length ≤ n →
    vfill (fun i => some (i * sz, sz)) (filled z n us) ps = some (filled z n (us ++ vs))
  | [], us, vs, h, _, _ => by cases h; simp [vfill]
  | (i, v) :: ps, us, vs, h, hall, hn => by
    unfold seqO at h
    split at h
    case h_2 => cases h
    rename_i e
    split at h
    case h_2 => cases h
    rename_i r e2
    cases h
    have hi : i = us.length := Nat.eq_of_beq_eq_true e
    subst hi
    have hv : v.cells.length = sz := hall v (by simp)
    have hus : ∀ u ∈ us, u.cells.length = z.length := fun u hu => by rw [hz]; exact hall u (by simp [hu])
    simp only [List.length_cons] at hn
    have hfl := filled_length (n := n) hus (by omega)
    have hstep := filled_snoc (n := n) hus (by omega) (hv.trans hz.symm)
    rw [hz] at hstep hfl
    have hle : us.length * sz + sz ≤ (filled z n us).length := by
      rw [hfl, ← Nat.succ_mul]
      exact Nat.mul_le_mul_right _ (by omega)
    simp only [vfill, Option.bind_some]
    rw [if_pos ⟨hv, hle⟩, hstep]
    have := vfill_seq (n := n) hz (ps := ps) (us := us ++ [v]) (vs := r) (by simpa using e2) (by simpa using hall) (by simp; omega)
    simpa using this
theorem LOps.bsl0 (ht : tt.ok P) {T e : TypeId} {t te : Ty} {parts : Array (Nat × Operand)} (hp : parts.toList = []) (hT : tt.get T = some t) (hkd : t.kd = .slice e) (hte : tt.get e = some te) (hz : (Nat.beq te.zero.length te.size && Nat.blt 0 te.size) = true)
    (hk : LOps P N ops l K ((d, .zsl) :: L) (s.ext xs)) : LOps P N ops (⟨some d, .buildSlice T 0 parts, ty, p, a, none⟩ :: l) K L (s.ext xs) := by
  simp only [Bool.and_eq_true] at hz
  refine .st (fun σ hσ => ?_) hk
  simp only [vop, hp, vparts, vbuildSlice, ht.get hT, hkd, ht.get hte, Option.bind_some]
  rw [if_pos ⟨Nat.eq_of_beq_eq_true hz.1, by simpa using hz.2, by omega⟩]
  simp [vfill]
theorem LOps.bsl (ht : tt.ok P) {T e : TypeId} {t te : Ty} {m n : Nat} {parts : Array (Nat × Operand)} {ps : List (Nat × V)} {vs : List V} (hp : opdP L parts.toList = some ps) (hT : tt.get T = some t) (hkd : t.kd = .slice e) (hte : tt.get e = some te)
    (hz : (Nat.beq te.zero.length te.size && Nat.blt 0 te.size && Nat.ble (m * te.size) 16777216) = true) (hsq : seqO 0 ps = some vs) (hlen : Nat.beq vs.length m = true) (hm : Nat.beq m 0 = false) (hel : elemsO te vs = true)
    (hl : lenO xs = some n) (hs : snocO xs (.fam m te.size) = some ys)
    (hk : LOps P N ops l K ((d, .sl (s.next + n) vs) :: L) (s.ext ys)) : LOps P N ops (⟨some d, .buildSlice T m parts, ty, p, a, none⟩ :: l) K L (s.ext xs) := by
  simp only [Bool.and_eq_true] at hz
  have hm' : vs.length = m := Nat.eq_of_beq_eq_true hlen
  have h0 : ¬ m = 0 := fun e => by rw [e] at hm; cases hm
  have hz1 : te.zero.length = te.size := Nat.eq_of_beq_eq_true hz.1.1
  have hz2 : 0 < te.size := by simpa using hz.1.2
  have hz3 : m * te.size ≤ 16777216 := Nat.le_of_ble_eq_true hz.2
  have hc : ∀ v ∈ vs, v.cells.length = te.size := fun v hv => (elemO_eq (elemsO_eq hel v hv)).1
  have hf : ∀ v ∈ vs, v.fits te.agg = true := fun v hv => (elemO_eq (elemsO_eq hel v hv)).2
  have hfill := vfill_seq (n := m) hz1 (us := []) (by simpa using hsq) (by simpa using hc) (by simp; omega)
  rw [List.nil_append, filled_full hm', filled_nil] at hfill
  have hsz1 : te.agg = false → te.size = 1 := fun hag => by
    cases vs with
    | nil => exact absurd hm'.symm h0
    | cons v r =>
      have h1 := elemsO_eq hel v (by simp)
      cases v <;> simp_all [elemO]
  refine .st (fun σ hσ => ?_) hk
  simp only [vop, opdP_eq hσ hp, vbuildSlice, ht.get hT, hkd, ht.get hte, Option.bind_some]
  rw [if_pos ⟨hz1, hz2, hz3⟩, hfill]
  simp only [Option.bind_some]
  have hck := chunk_flat hz2 hc hf
  rw [hm'] at hck
  rw [if_neg h0, if_pos (chunkOk_flat hf hsz1), hck, ext_newFam, snocO_eq hs, ext_next, lenO_eq hl]
/-- What may be read out of an appended slice. -/
def spreadO : V → Option (List V)
  | .sl _ ys => some ys
  | .zsl => some []
  | .nilsl => some []
  | _ => none
theorem spreadO_eq {te : Ty} {v : V} {us : List V} {s : S} (h : spreadO v = some us) : elemsOf te v s = some us := by
  cases v <;> first | cases h; rfl | cases h
def appCall (x y : Operand) (A : Array TypeId) : Op := .call ⟨.builtin .append, #[x, y], A⟩
def Elems (te : Ty) (us : List V) : Prop := (us.all fun y => decide (y.cells.length = te.size) && y.cells.all V.one) = true
def elemsA (te : Ty) : List V → Bool
  | [] => true
  | v :: l => match cellsO v with
    | some cs => match Nat.beq cs.length te.size && onesO cs with
      | true => elemsA te l
      | false => false
    | none => false
theorem Elems.of {te : Ty} : ∀ {us : List V}, elemsA te us = true → Elems te us
  | [], _ => rfl
  | v :: l, h => by
    unfold elemsA at h
    split at h
    case h_2 => cases h
    rename_i cs e
    split at h
    case h_2 => cases h
    rename_i e2
    simp only [Bool.and_eq_true] at e2
    have := Elems.of h
    unfold Elems at this ⊢
    rw [List.all_cons, this, cellsO_eq e, onesO_eq e2.2]
    simp [Nat.eq_of_beq_eq_true e2.1]
theorem Elems.map {α : Type} {te : Ty} {f : α → V} {us : List α} (h : ∀ x, elemsA te [f x] = true) : Elems te (us.map f) := by
  unfold Elems
  rw [List.all_map, List.all_eq_true]
  intro x _
  have := Elems.of (h x)
  unfold Elems at this
  simpa using this
/-- The bound of an append. -/
def AppB (n bytes : Nat) : Prop := n * bytes ≤ 140737488355328 ∧ n ≤ 140737488355328
theorem AppB.of {n b : Nat} (h : n ≤ 1099511627776) (hb : Nat.ble b 128 = true) : AppB n b := by
  have hb := Nat.le_of_ble_eq_true hb
  refine ⟨Nat.le_trans (Nat.mul_le_mul h hb) (by omega), by omega⟩
theorem LOps.app (ht : tt.ok P) {T U e : TypeId} {t te : Ty} {x y : Operand} {k n m : Nat} {us vs : List V} {w : V} (hx : opd L x = some (.sl (s.next + k) us)) (hy : opd L y = some w) (hw : spreadO w = some vs)
    (hT : tt.get T = some t) (hkd : t.kd = .slice e) (hte : tt.get e = some te) (hz : (Nat.beq te.zero.length te.size && Nat.blt 0 te.size) = true) (hf : nthO xs k = some (.fam n m)) (hm : Nat.beq m te.size = true)
    (hset : setO xs k (.fam (us.length + vs.length) te.size) = some ys) (hU : Nat.beq U T = true) (hn : n = us.length) (hall : Elems te vs) (hb : AppB (us.length + vs.length) te.bytes)
    (hk : LOps P N ops l K ((d, .sl (s.next + k) (us ++ vs)) :: L) (s.ext ys)) : LOps P N ops (⟨some d, appCall x y #[T, U], ty, p, a, none⟩ :: l) K L (s.ext xs) := by
  simp only [Bool.and_eq_true] at hz
  have hU' := Nat.eq_of_beq_eq_true hU
  subst hU'
  subst hn
  have hm' := Nat.eq_of_beq_eq_true hm
  refine .st (fun σ hσ => ?_) hk
  simp only [appCall, vop, vevL, opd_eq hσ hx, opd_eq hσ hy, vbuiltin, vappend, ht.get hT, hkd, ht.get hte, spreadO_eq hw, Option.bind_some, Option.map_some, if_true]
  rw [if_pos ⟨Nat.eq_of_beq_eq_true hz.1, by simpa using hz.2, hall⟩, ext_fams, nthO_eq hf]
  simp only [Own.fam?, Option.bind_some]
  rw [if_pos ⟨trivial, hm', hb.1, hb.2⟩, ext_setFam _ _ _ _ _ (by rw [nthO_eq hf]; rfl), setO_eq hset]
def nilO : V → Bool
  | .zsl => true
  | .nilsl => true
  | _ => false
theorem LOps.app0 (ht : tt.ok P) {T U e : TypeId} {t te : Ty} {x y : Operand} {n : Nat} {vs : List V} {u w : V} (hx : opd L x = some u) (hu : nilO u = true) (hy : opd L y = some w) (hw : spreadO w = some vs)
    (hT : tt.get T = some t) (hkd : t.kd = .slice e) (hte : tt.get e = some te) (hz : (Nat.beq te.zero.length te.size && Nat.blt 0 te.size) = true) (hl : lenO xs = some n)
    (hs : snocO xs (.fam vs.length te.size) = some ys) (hU : Nat.beq U T = true) (hall : Elems te vs) (hb : AppB vs.length te.bytes)
    (hk : LOps P N ops l K ((d, .sl (s.next + n) vs) :: L) (s.ext ys)) : LOps P N ops (⟨some d, appCall x y #[T, U], ty, p, a, none⟩ :: l) K L (s.ext xs) := by
  simp only [Bool.and_eq_true] at hz
  have hU' := Nat.eq_of_beq_eq_true hU
  subst hU'
  refine .st (fun σ hσ => ?_) hk
  simp only [appCall, vop, vevL, opd_eq hσ hx, opd_eq hσ hy, vbuiltin, vappend, ht.get hT, hkd, ht.get hte, spreadO_eq hw, Option.bind_some, Option.map_some, if_true]
  rw [if_pos ⟨Nat.eq_of_beq_eq_true hz.1, by simpa using hz.2, hall⟩]
  have hk : u = .zsl ∨ u = .nilsl := by
    unfold nilO at hu
    split at hu
    · exact .inl rfl
    · exact .inr rfl
    · cases hu
  rcases hk with rfl | rfl
  all_goals
    simp only
    rw [if_pos ⟨hb.1, hb.2⟩, ext_newFam, snocO_eq hs, ext_next, lenO_eq hl]
theorem LOps.idxM (ht : tt.ok P) {T e : TypeId} {t te : Ty} {x i : Operand} {ex : Cp} {b off len j : Nat} {k : IntKind} (hx : opd L x = some (.slm ex b off len)) (hi : opd L i = some (.int k (j : Int))) (hT : tt.get T = some t) (hkd : t.kd = .slice e)
    (hte : tt.get e = some te) (hj : j < len)
    (hk : LOps P N ops l K ((d, .ptr b (off + j * te.size)) :: L) s) : LOps P N ops (⟨some d, .indexAddr T x i, ty, p, a, none⟩ :: l) K L s := by
  refine .st (fun σ hσ => ?_) hk
  simp only [vop, opd_eq hσ hx, opd_eq hσ hi, vindexAddr, ht.get hT, hkd, ht.get hte, Option.bind_some]
  rw [if_pos ⟨Int.natCast_nonneg j, by omega⟩, Int.toNat_natCast]
  rfl
def opdO (L : Kn) : Option Operand → Option (Option V)
  | none => some none
  | some x => match opd L x with
    | some v => some (some v)
    | none => none
theorem opdO_eq {L : Kn} {σ : Fr} (ha : At L σ) {x : Option Operand} {v : Option V} (h : opdO L x = some v) : vevO σ x = some v := by
  cases x with
  | none => exact h
  | some x =>
    unfold opdO at h
    cases he : opd L x with
    | none => simp only [he] at h; cases h
    | some u => simp only [he] at h; simp only [vevO, opd_eq ha he, Option.map_some]; exact h
/-! ### Calls -/
theorem LOps.call {f : Operand} {g : FuncId} {args : Array Operand} {A : Array TypeId} {caps vs ws : List V} {R : V → S → Prop} (hf : opd L f = some (.fn g caps)) (ha : opdL L args.toList = some vs) (hap : appO vs caps = some ws) (hok : CallOk P g)
    (hc : VCalls P g ws s R) (hk : ∀ v s', R v s' → LOps P N ops l K ((d, v) :: L) s') : LOps P N ops (⟨some d, .call ⟨.value f, args, A⟩, ty, p, a, none⟩ :: l) K L s := by
  refine ⟨fun hd σ hσ => ?_⟩
  simp only [List.all_cons, Bool.and_eq_true] at hd
  refine ⟨hd.1, ?_⟩
  simp only [vwanted]
  refine .inl ?_
  simp only [VOp0, opd_eq hσ hf, opdL_eq hσ ha, VCall]
  refine ⟨hok.h, ?_⟩
  rw [← appO_eq hap]
  exact hc.mono fun v s' hr => (hk v s' hr).run hd.2 _ (hσ.cons d v)
/-! ### Functions -/
def argL : Nat → List V → Kn
  | _, [] => []
  | k, v :: vs => (k, v) :: argL (k + 1) vs
theorem argL_lk : ∀ (args : List V) (k x : Nat) (v : V), lk (argL k args) x = some v → k ≤ x ∧ args[x - k]? = some v
  | [], k, x, v, h => by cases h
  | u :: args, k, x, v, h => by
    unfold argL lk at h
    split at h
    · rename_i e
      cases h
      have := Nat.eq_of_beq_eq_true e
      subst this
      simp
    · rename_i e
      obtain ⟨h1, h2⟩ := argL_lk args (k + 1) x v h
      refine ⟨by omega, ?_⟩
      rw [show x - k = (x - (k + 1)) + 1 by omega]
      simpa using h2
theorem At.args (args : List V) : At (argL 0 args) (argsFr args) := by
  intro x v h
  have := (argL_lk args 0 x v h).2
  simp only [Nat.sub_zero] at this
  simp [argsFr, List.getD_eq_getElem?_getD, this]
def LPostD (P : Program) (rs : List ResultVar) (R : V → S → Prop) : Exit → Kn → S → Prop
  | .normal, L, s | .ret, L, s => ∃ vs, (∀ σ, At L σ → vresL P σ s rs = some vs) ∧ R (oneOf vs) s
  | _, _, _ => False
structure LPost (P : Program) (rs : List ResultVar) (R : V → S → Prop) (e : Exit) (L : Kn) (s : S) : Prop where
  h : LPostD P rs R e L s
theorem LCalls.body {f : FuncId} {fn : Func} {c : Code} {args : List V} {R : V → S → Prop} (hf : P.funcs[f]? = some fn) (hb : fn.body = some c) (hn : Nat.ble args.length fn.ntmps = true)
    (h : WL P fn.ntmps c (LPost P fn.results.toList R) (argL 0 args) (s.ext [])) : VCalls P f args s R := by
  refine VCalls.bodyE hf hb (Nat.le_of_ble_eq_true hn) (VWp.mono (h.run _ (At.args args)) ?_)
  rintro e σ' s' ⟨L', hat, ⟨hq⟩⟩
  cases e with
  | normal => obtain ⟨vs, h1, h2⟩ := hq; simp only [VPost, h1 σ' hat]; exact h2
  | ret => obtain ⟨vs, h1, h2⟩ := hq; simp only [VPost, h1 σ' hat]; exact h2
  | _ => exact hq.elim
def PureR (s : S) (d : V) (v : V) (s' : S) : Prop := v.forget = d ∧ ∃ xs, s' = s.ext xs
theorem PureR.mk {s : S} {d v : V} {xs : List Own} (h : v.forget = d) : PureR s d v (s.ext xs) := ⟨h, xs, rfl⟩
theorem LCalls.pure {f : FuncId} {fn : Func} {c : Code} {args : List V} {d : V} (hf : P.funcs[f]? = some fn) (hb : fn.body = some c) (hn : Nat.ble args.length fn.ntmps = true) (hd : d.dat = true)
    (h : WL P fn.ntmps c (LPost P fn.results.toList (PureR s d)) (argL 0 args) (s.ext [])) : VCalls P f args s (fun v s' => v = d ∧ s' = s) := by
  refine VCalls.pureE hf hb (Nat.le_of_ble_eq_true hn) hd (VWp.mono (h.run _ (At.args args)) ?_)
  rintro e σ' s' ⟨L', hat, ⟨hq⟩⟩
  cases e with
  | normal => obtain ⟨vs, h1, h2⟩ := hq; simp only [VPost, h1 σ' hat]; exact h2
  | ret => obtain ⟨vs, h1, h2⟩ := hq; simp only [VPost, h1 σ' hat]; exact h2
  | _ => exact hq.elim
def Res1 (P : Program) (r : ResultVar) (L : Kn) (s : S) (v : V) : Prop := ∀ σ, At L σ → vres1 P σ s r = some v
theorem Res1.tmp {t : Nat} {v : V} (h : lk L t = some v) : Res1 P (.tmp t) L s v := fun σ hσ => by simp [vres1, hσ t v h]
theorem Res1.cell (ht : tt.ok P) {x : Nat} {T : TypeId} {t : Ty} {k off : Nat} {cs : List V} {v : V} (hx : lk L x = some (.ptr (s.next + k) off)) (hv : nthO xs k = some (.var cs)) (hT : tt.get T = some t) (hr : takeO cs off t.size t.agg = some v) :
    Res1 P (.cell x T) L (s.ext xs) v := fun σ hσ => by simp only [vres1, hσ x _ hx, vload, ht.get hT, own_vars hv, takeO_eq hr, Option.bind_some]
theorem LPost.r0 {R : V → S → Prop} {e : Exit} (he : e = .ret ∨ e = .normal) (h : R (.tup []) s) : LPost P [] R e L s := by
  rcases he with rfl | rfl <;> exact ⟨⟨[], fun _ _ => rfl, h⟩⟩
theorem LPost.r1 {R : V → S → Prop} {r : ResultVar} {v : V} {e : Exit} (he : e = .ret ∨ e = .normal) (h1 : Res1 P r L s v) (h : R v s) : LPost P [r] R e L s := by
  rcases he with rfl | rfl <;> exact ⟨⟨[v], fun σ hσ => by simp [vresL, h1 σ hσ, -vres1], h⟩⟩
theorem LPost.r2 {R : V → S → Prop} {r r' : ResultVar} {v v' : V} {e : Exit} (he : e = .ret ∨ e = .normal) (h1 : Res1 P r L s v) (h2 : Res1 P r' L s v') (h : R (.tup [v, v']) s) : LPost P [r, r'] R e L s := by
  rcases he with rfl | rfl <;> exact ⟨⟨[v, v'], fun σ hσ => by simp [vresL, h1 σ hσ, h2 σ hσ, -vres1], h⟩⟩
theorem LPost.r3 {R : V → S → Prop} {r r' r'' : ResultVar} {v v' v'' : V} {e : Exit} (he : e = .ret ∨ e = .normal) (h1 : Res1 P r L s v) (h2 : Res1 P r' L s v') (h3 : Res1 P r'' L s v'') (h : R (.tup [v, v', v'']) s) : LPost P [r, r', r''] R e L s := by
  rcases he with rfl | rfl <;> exact ⟨⟨[v, v', v''], fun σ hσ => by simp [vresL, h1 σ hσ, h2 σ hσ, h3 σ hσ, -vres1], h⟩⟩
/-! ### Loops -/
def lbackO {α : Type} (M : α → Nat) (LI : α → Kn) (SI : α → S) (I : α → Prop) (x : α) (Q : Exit → Kn → S → Prop) : Exit → Kn → S → Prop
  | .normal, L', s' => ∃ y, I y ∧ M y < M x ∧ SubL (LI y) L' ∧ s' = SI y
  | e, L', s' => Q e L' s'
structure lback {α : Type} (M : α → Nat) (LI : α → Kn) (SI : α → S) (I : α → Prop) (x : α) (Q : Exit → Kn → S → Prop) (e : Exit) (L : Kn) (s : S) : Prop where
  h : lbackO M LI SI I x Q e L s
/-- A loop whose rounds leave nothing of their own. -/
theorem WL.loop0 {α : Type} {c : Code} {Q : Exit → Kn → S → Prop} (M : α → Nat) (LI : α → Kn) (SI : α → S) (I : α → Prop) (x0 : α) (h0 : I x0) (hL : SubL (LI x0) L) (hs : s = SI x0)
    (round : ∀ x, I x → WL P N c (lback M LI SI I x Q) (LI x) (SI x)) : WL P N (.loop c) Q L s := by
  refine ⟨fun σ hσ => VWp.loop (fun n σ s => ∃ x, M x = n ∧ I x ∧ At (LI x) σ ∧ s = SI x) (M x0) ⟨x0, rfl, h0, hL.at hσ, hs⟩ ?_⟩
  rintro n σ s ⟨x, rfl, hI, hat, rfl⟩
  refine ((round x hI).run σ hat).mono ?_
  rintro e σ' s' ⟨L', hat', ⟨q⟩⟩
  cases e with
  | normal =>
    obtain ⟨y, hy, hlt, hsub, rfl⟩ := q
    exact ⟨M y, hlt, y, rfl, hy, hsub.at hat', rfl⟩
  | _ => exact ⟨L', hat', q⟩
/-- What was made since is forgotten: state and world. -/
theorem dropExt {E0 E1 : Env} {s0 s : S} {xs ys : List Own} (h1 : RelS E0 s0) (hn : s0.next = s.next + xs.length) (k : RelS E1 (s.ext (xs ++ ys))) (st : Step E0 s0 E1 (s.ext (xs ++ ys)))
    (hun : ∀ l cs, (s.ext xs).vars l = some cs → s0.vars l = some cs ∨ cs.all (V.under (s.next + xs.length)) = true) :
    ∃ E', E'.w = E1.w ∧ RelS E' (s.ext xs) ∧ Step E0 s0 E' (s.ext xs) ∧ ∀ v val, v.under (s.next + xs.length) = true → RepV E1 v val → RepV E' v val := by
  let n := s.next + xs.length
  let E' : Env := { w := E1.w, imm := E1.imm, loc := fun l => if l < n then E1.loc l else none, fam := fun l => if l < n then E1.fam l else none }
  have hloc : ∀ l, l < n → E'.loc l = E1.loc l := fun l hl => by show (if l < n then E1.loc l else none) = _; rw [if_pos hl]
  have hfam : ∀ l, l < n → E'.fam l = E1.fam l := fun l hl => by show (if l < n then E1.fam l else none) = _; rw [if_pos hl]
  have hlt2 : ∀ l g, E0.loc l = some g → l < n := fun l g hl => by
    rcases Nat.lt_or_ge l n with h | h
    · exact h
    · rw [(h1.fresh l (by omega)).1] at hl; cases hl
  have hltf2 : ∀ l F, E0.fam l = some F → l < n := fun l g hl => by
    rcases Nat.lt_or_ge l n with h | h
    · exact h
    · rw [(h1.fresh l (by omega)).2] at hl; cases hl
  have ev : Evolve E0 E' := ⟨st.ev.imm, st.ev.cell, fun l g hl => (hloc l (hlt2 l g hl)).trans (st.ev.loc l g hl), fun id F hF => by rw [hfam id (hltf2 id F hF)]; exact st.ev.fam id F hF⟩
  have hvars : ∀ l cs, (s.ext xs).vars l = some cs → l < n ∧ (s.ext (xs ++ ys)).vars l = some cs := by
    intro l cs hl
    simp only [S.ext] at hl ⊢
    by_cases e : l < s.next
    · rw [if_pos e] at hl ⊢
      exact ⟨by omega, hl⟩
    · rw [if_neg e] at hl ⊢
      have hlt : l - s.next < xs.length := by
        rcases Nat.lt_or_ge (l - s.next) xs.length with h | h
        · exact h
        · rw [List.getElem?_eq_none h] at hl; cases hl
      refine ⟨by omega, ?_⟩
      rw [List.getElem?_append_left hlt]; exact hl
  have hfams : ∀ l q, (s.ext xs).fams l = some q → l < n ∧ (s.ext (xs ++ ys)).fams l = some q := by
    intro l q hl
    simp only [S.ext] at hl ⊢
    by_cases e : l < s.next
    · rw [if_pos e] at hl ⊢
      exact ⟨by omega, hl⟩
    · rw [if_neg e] at hl ⊢
      have hlt : l - s.next < xs.length := by
        rcases Nat.lt_or_ge (l - s.next) xs.length with h | h
        · exact h
        · rw [List.getElem?_eq_none h] at hl; cases hl
      refine ⟨by omega, ?_⟩
      rw [List.getElem?_append_left hlt]; exact hl
  have hvs : ∀ l, ((s.ext xs).vars l).isSome = true → l < n ∧ ((s.ext (xs ++ ys)).vars l).isSome = true := fun l hl => by
    obtain ⟨cs, hcs⟩ := Option.isSome_iff_exists.1 hl
    obtain ⟨a, b⟩ := hvars l cs hcs
    exact ⟨a, by rw [b]; rfl⟩
  have hfs : ∀ l, ((s.ext xs).fams l).isSome = true → l < n ∧ ((s.ext (xs ++ ys)).fams l).isSome = true := fun l hl => by
    obtain ⟨cs, hcs⟩ := Option.isSome_iff_exists.1 hl
    obtain ⟨a, b⟩ := hfams l cs hcs
    exact ⟨a, by rw [b]; rfl⟩
  have hposn : 0 < n := by have := h1.pos; omega
  refine ⟨E', rfl, h1.fin2 ⟨fun l cs hl => ?_, fun l l' g hl hl' hg hg' => ?_, fun id m sz hid => ?_, fun id id' F F' g hid hid' hF hF' => ?_, fun l g id F hl hg hid hF => ?_, fun l hl => ?_, hposn, k.imm⟩
    ⟨ev, st.os, st.tape, st.output, st.size, st.block, fun q hq ht => st.track q hq ?_, by rw [hn, ext_next]; exact Nat.le_refl _⟩
    fun v val hu hr => RepV.restrict (E := E1) (E' := E') (n := n) rfl rfl hloc hfam hr hu⟩
  · obtain ⟨hl0, hl1⟩ := hvars l cs hl
    obtain ⟨g, arr, e, fr, m3, m4⟩ := k.var l cs hl1
    have hbel : cs.all (V.under n) = true := by
      rcases hun l cs hl with hs | hs
      · obtain ⟨g0, arr0, e0, fr0, m1, m2⟩ := h1.var l cs hs
        exact m2.rep.isBelow (n := n) hposn (fun l hl => (h1.fresh l (by omega)).1) (fun l hl => (h1.fresh l (by omega)).2)
      · exact hs
    exact ⟨g, arr, e, fr, (hloc l hl0).trans m3, ⟨m4.heap, RepL.restrict (E := E1) (E' := E') rfl rfl hloc hfam m4.rep hbel, m4.le, m4.free, m4.imm⟩⟩
  · obtain ⟨a1, a2⟩ := hvs l hl
    obtain ⟨b1, b2⟩ := hvs l' hl'
    rw [hloc l a1] at hg
    rw [hloc l' b1] at hg'
    exact k.varinj l l' g a2 b2 hg hg'
  · obtain ⟨a1, a2⟩ := hfams id _ hid
    obtain ⟨h00, F, m1, m2⟩ := k.fam id m sz a2
    exact ⟨h00, F, (hfam id a1).trans m1, m2⟩
  · obtain ⟨a1, a2⟩ := hfs id hid
    obtain ⟨b1, b2⟩ := hfs id' hid'
    rw [hfam id a1] at hF
    rw [hfam id' b1] at hF'
    exact k.faminj id id' F F' g a2 b2 hF hF'
  · obtain ⟨a1, a2⟩ := hvs l hl
    obtain ⟨b1, b2⟩ := hfs id hid
    rw [hloc l a1] at hg
    rw [hfam id b1] at hF
    exact k.famvar l g id F a2 hg b2 hF
  · have hl' : ¬ l < n := Nat.not_lt.2 (by rw [ext_next] at hl; exact hl)
    exact ⟨by show (if l < n then E1.loc l else none) = none; rw [if_neg hl'], by show (if l < n then E1.fam l else none) = none; rw [if_neg hl']⟩
  · rcases ht with ⟨l, hl, hg⟩ | ⟨id, F, hl, hF, hg⟩
    · obtain ⟨a1, a2⟩ := hvs l hl
      rw [hloc l a1] at hg
      exact .inl ⟨l, a2, hg⟩
    · obtain ⟨a1, a2⟩ := hfs id hl
      rw [hfam id a1] at hF
      exact .inr ⟨id, F, a2, hF, hg⟩
def Own.under (n : Nat) : Own → Bool
  | .var cs => V.underL n cs
  | _ => true
def UnderK (n : Nat) (L : Kn) : Prop := L.all (fun kv => kv.2.under n) = true
def UnderX (n : Nat) (xs : List Own) : Prop := xs.all (Own.under n) = true
def lbackDO {α : Type} (M : α → Nat) (LI : α → Kn) (XI : α → List Own) (I : α → Prop) (s : S) (x : α) (Q : Exit → Kn → S → Prop) : Exit → Kn → S → Prop
  | .normal, L', s' => ∃ y zs, I y ∧ M y < M x ∧ SubL (LI y) L' ∧ s' = s.ext (XI y ++ zs)
  | e, L', s' => Q e L' s'
structure lbackD {α : Type} (M : α → Nat) (LI : α → Kn) (XI : α → List Own) (I : α → Prop) (s : S) (x : α) (Q : Exit → Kn → S → Prop) (e : Exit) (L : Kn) (s' : S) : Prop where
  h : lbackDO M LI XI I s x Q e L s'
theorem lk_all {L : Kn} {f : V → Bool} (h : L.all (fun kv => f kv.2) = true) {k : Nat} {v : V} (hv : lk L k = some v) : f v = true := by
  induction L with
  | nil => cases hv
  | cons x L ih =>
    obtain ⟨j, u⟩ := x
    simp only [List.all_cons, Bool.and_eq_true] at h
    unfold lk at hv
    split at hv
    · cases hv; exact h.1
    · exact ih h.2 hv
/-- A loop: what a round has made of its own is forgotten behind it. -/
theorem WL.loopD {α : Type} {c : Code} {Q : Exit → Kn → S → Prop} (M : α → Nat) (LI : α → Kn) (XI : α → List Own) (I : α → Prop) (m : Nat) (x0 : α) (h0 : I x0) (hm : ∀ x, (XI x).length = m) (hL : SubL (LI x0) L) (hs : xs = XI x0)
    (hu : ∀ x, I x → UnderK (s.next + m) (LI x) ∧ UnderX (s.next + m) (XI x))
    (round : ∀ x, I x → WL P N c (lbackD M LI XI I s x Q) (LI x) (s.ext (XI x))) : WL P N (.loop c) Q L (s.ext xs) := by
  subst hs
  refine ⟨fun σ hσ E act h1 h2 => ?_⟩
  refine wp_loop_ghost (fun n a w => ∃ x E1 σ1, M x = n ∧ I x ∧ E1.w = w ∧ RelS E1 (s.ext (XI x)) ∧ At (LI x) σ1 ∧ RepA E1 σ1 N a ∧ Step E (s.ext (XI x0)) E1 (s.ext (XI x))) (M x0) ⟨x0, E, σ, rfl, h0, rfl, h1, hL.at hσ, h2, .refl _ _⟩ ?_
  rintro n a1 w1 ⟨x, E1, σ1, rfl, hI, rfl, h3, hat, h4, h5⟩
  refine wp_mono ((round x hI).run σ1 hat E1 a1 h3 h4) ?_
  rintro e a' w' ⟨E', σ', s', rfl, ⟨L', hat', ⟨q⟩⟩, k3, k4, k5⟩
  cases e with
  | normal =>
    obtain ⟨y, zs, hIy, hlt, hsub, rfl⟩ := q
    obtain ⟨uK, uX⟩ := hu y hIy
    have hmy := hm y
    obtain ⟨E'', hw, r2, st2, rep2⟩ := dropExt (s := s) (xs := XI y) (ys := zs) h3 (by rw [ext_next, hm, hm]) k3 k5 (fun l cs hl => by
      simp only [S.ext] at hl ⊢
      by_cases e : l < s.next
      · rw [if_pos e] at hl ⊢; exact .inl hl
      · rw [if_neg e] at hl
        right
        cases hc : (XI y)[l - s.next]? with
        | none => rw [hc] at hl; cases hl
        | some o =>
          rw [hc] at hl
          cases o with
          | var cs' =>
            cases hl
            have := List.all_eq_true.1 uX (.var cs) (List.mem_of_getElem? hc)
            rw [hm, ← V.underL_eq]
            exact this
          | _ => cases hl)
    rw [hm] at rep2
    refine ⟨M y, hlt, y, E'', fun t => if (lk (LI y) t).isSome then σ' t else .raw (a'.tmps.getD t undef), rfl, hIy, hw, r2, fun t v hv => ?_, ⟨fun t => ?_, k4.size, k4.defers⟩, h5.trans st2⟩
    · simp only [hv, Option.isSome_some, if_true]
      exact hsub.at hat' t v hv
    · cases hlk : lk (LI y) t with
      | none => simp only [Option.isSome_none, Bool.false_eq_true, if_false]; exact .raw
      | some v =>
        simp only [Option.isSome_some, if_true]
        refine rep2 _ _ ?_ (k4.slot t)
        rw [hsub.at hat' t v hlk]
        exact lk_all (f := V.under (s.next + m)) uK hlk
  | _ => exact ⟨E', σ', s', rfl, ⟨L', hat', q⟩, k3, k4, h5.trans k5⟩
/-- A slice of nothing may be taken for one that may be appended to. -/
theorem WL.zfam {c : Code} {Q : Exit → Kn → S → Prop} {t n : Nat} {v : V} (sz : Nat) (hx : lk L t = some v) (hv : nilO v = true) (hl : lenO xs = some n) (hs : snocO xs (.fam 0 sz) = some ys) (h : WL P N c Q ((t, .sl (s.next + n) []) :: L) (s.ext ys)) :
    WL P N c Q L (s.ext xs) := by
  refine ⟨fun σ hσ E act h1 h2 => ?_⟩
  obtain ⟨st, r⟩ := step_emptyFam h1 sz
  have e1 : (s.ext xs).newFam 0 sz = s.ext ys := by rw [ext_newFam, snocO_eq hs]
  have e2 : (s.ext xs).next = s.next + n := by rw [ext_next, lenO_eq hl]
  rw [e1] at st r
  rw [e2] at st r
  have ha : RepA { E with fam := fun x => if x = s.next + n then some ⟨0, none, 0, sz⟩ else E.fam x } (put σ t (.sl (s.next + n) [])) N act := by
    have ha := h2.evolve st.ev
    refine ⟨fun u => ?_, h2.size, h2.defers⟩
    unfold put
    by_cases e : u = t
    · rw [if_pos e, e]
      have h3 := h2.slot t
      rw [hσ t v hx] at h3
      have hk : v = .zsl ∨ v = .nilsl := by
        unfold nilO at hv
        split at hv
        · exact .inl rfl
        · exact .inr rfl
        · cases hv
      have hf : FamOkZ { E with fam := fun x => if x = s.next + n then some ⟨0, none, 0, sz⟩ else E.fam x } (s.next + n) := .inr ⟨⟨0, none, 0, sz⟩, by simp, fun _ => rfl⟩
      rcases hk with rfl | rfl
      · generalize act.tmps.getD t undef = val at h3
        cases h3
        exact .slz hf
      · generalize act.tmps.getD t undef = val at h3
        cases h3
        exact .slz hf
    · rw [if_neg e]
      exact ha.slot u
  have hw := h.run _ (hσ.cons t _) { E with fam := fun x => if x = s.next + n then some ⟨0, none, 0, sz⟩ else E.fam x } act r ha
  exact wp_mono hw fun _ _ _ hz => After.trans st hz
theorem under_dat : ∀ {v : V} {n : Nat}, v.dat = true → v.under n = true := by
  intro v n
  refine V.rec (motive_1 := fun v => v.dat = true → v.under n = true) (motive_2 := fun vs => V.datL vs = true → V.underL n vs = true) ?_ ?_ ?_ ?_ ?_ ?_ ?_ ?_ ?_ ?_ ?_ ?_ ?_ ?_ ?_ ?_ ?_ v
  all_goals (intros; simp_all [V.dat, V.under, V.datL, V.underL])
theorem underL_dat {vs : List V} {n : Nat} (h : V.datL vs = true) : V.underL n vs = true := by
  rw [V.underL_eq, List.all_eq_true]
  intro v hv
  rw [V.datL_eq, List.all_eq_true] at h
  exact under_dat (h v hv)
end Go.Proofs.YtbnbmcplmipgdaaGreatDoor
namespace Go.Proofs.YtbnbmcplmipgdaaGreatDoor
open Go
/-- The operation may answer v, and changes nothing. -/
def VAns (P : Program) (o : Oper) (σ : Fr) (s : S) (v : V) : Prop := ∀ K : Fr → S → Prop, K (putO σ o.dst v) s → VOp P o K σ s
theorem VAns.congr {P : Program} {ops : Array Oper} {o : Oper} {σ σ' : Fr} {s : S} {v : V} (h : VAns P o σ s v) (hs : SameAt σ σ' (o.looksAt ops)) : VAns P o σ' s v := by
  intro K hk
  refine VOp_congr (h (fun τ t => τ = putO σ o.dst v ∧ t = s) ⟨rfl, rfl⟩) hs fun v' s' hh => ?_
  obtain ⟨e1, rfl⟩ := hh
  have : putO σ' o.dst v' = putO σ' o.dst v := by
    cases hd : o.dst with
    | none => rfl
    | some d =>
      have := congrFun e1 d
      rw [hd, putO_same, putO_same] at this
      rw [this]
  rw [this]
  exact hk
/-- Done again, here, the operation answers what its slot holds. -/
def VSt (P : Program) (ops : Array Oper) (p : Nat) (σ : Fr) (s : S) : Prop :=
  match ops[p]? with
  | none => False
  | some o => match vwanted ops σ o with
    | some true => ∃ v, VAns P o σ s v ∧ atO σ o.dst v
    | some false => atO σ o.dst .und
    | none => False
def VSts (P : Program) (ops : Array Oper) (σ : Fr) (s : S) : List Nat → Prop
  | [] => True
  | p :: ps => VSt P ops p σ s ∧ VSts P ops σ s ps
theorem VSts.get {P : Program} {ops : Array Oper} {σ : Fr} {s : S} : ∀ {l : List Nat}, VSts P ops σ s l → ∀ p ∈ l, VSt P ops p σ s
  | [], _, p, hp => by cases hp
  | q :: l, h, p, hp => by
    rcases List.mem_cons.1 hp with rfl | hp
    · exact h.1
    · exact VSts.get h.2 p hp
/-- One order, walked. -/
def VDw (P : Program) (N : Nat) (ops : Array Oper) (F : List Nat) (A : List (List Nat)) (K : Fr → S → Prop) : List Nat → List Nat → Fr → S → Prop
  | _, [], σ, s => K σ s
  | pre, i :: rest, σ, s =>
    match ops[i]? with
    | none => False
    | some o =>
      match effOf F i with
      | true => VStep P N ops o (fun σ' s' => VSts P ops σ' s' (floats F A pre i) ∧ VDw P N ops F A K (i :: pre) rest σ' s') σ s
      | false => match vwanted ops σ o with
        | some true => ∃ v, VAns P o σ s v ∧ VDw P N ops F A K (i :: pre) rest (putO σ o.dst v) s
        | some false => VDw P N ops F A K (i :: pre) rest (putO σ o.dst .und) s
        | none => False
theorem st_congr {P : Program} {ops : Array Oper} {p : Nat} {o : Oper} {σ σ' : Fr} {s : S} (h : VSt P ops p σ s) (ho : ops[p]? = some o) (hs : SameAt σ σ' (o.looksAt ops)) (hd : ∀ d, o.dst = some d → σ' d = σ d) : VSt P ops p σ' s := by
  have ha : ∀ v, atO σ o.dst v → atO σ' o.dst v := by
    intro v hv
    cases e : o.dst with
    | none => trivial
    | some d => rw [e] at hv; exact (hd d e).trans hv
  unfold VSt at h ⊢
  rw [ho] at h ⊢
  simp only at h ⊢
  rw [← vwanted_congr hs]
  split at h
  · obtain ⟨v, h1, h2⟩ := h
    exact ⟨v, h1.congr hs, ha _ h2⟩
  · exact ha _ h
  · exact h.elim
structure InvT (P : Program) (N : Nat) (ops : Array Oper) (order F : List Nat) (A : List (List Nat)) (K : Fr → S → Prop) (pre rest : List Nat) (D : Array Bool) (σD σC : Fr) (s : S) : Prop where
  size : D.size = ops.size
  closed : Closed ops D
  split : order = pre.reverse ++ rest
  hrest : ∀ i ∈ rest, ¬ dn D i
  hpre : ∀ p ∈ pre, ¬ dn D p → effOf F p = false ∧ VSt P ops p σC s
  agree : ∀ d, (∀ p ∈ pre, ¬ dn D p → ∀ o, ops[p]? = some o → o.dst ≠ some d) → σD d = σC d
  walk : VDw P N ops F A K pre rest σC s
section
variable {P : Program} {N : Nat} {ops : Array Oper} {order F : List Nat} {A : List (List Nat)} {K : Fr → S → Prop}
theorem InvT.rel {pre rest : List Nat} {D : Array Bool} {σD σC : Fr} {s : S} (pl : Plan N ops order F A) (h : InvT P N ops order F A K pre rest D σD σC s) :
    (∀ p ∈ pre, ∀ r ∈ rest, r ∉ ancOf A p ∧ (effOf F p = true → p ∈ ancOf A r) ∧ p ≠ r) ∧ rest.Pairwise fun x y => y ∉ ancOf A x ∧ (effOf F x = true → x ∈ ancOf A y) := by
  have h1 := pl.pair
  have h2 := pl.nodup
  rw [h.split] at h1 h2
  rw [List.pairwise_append] at h1
  rw [List.nodup_append] at h2
  exact ⟨fun p hp r hr => ⟨(h1.2.2 p (by simpa using hp) r hr).1, (h1.2.2 p (by simpa using hp) r hr).2, h2.2.2 p (by simpa using hp) r hr⟩, h1.2.1⟩
/-- What floats, done in the one order's turn. -/
theorem InvT.float {pre rest : List Nat} {i : Nat} {o : Oper} {v : V} {D : Array Bool} {σD σC : Fr} {s : S} (pl : Plan N ops order F A) (h : InvT P N ops order F A K pre (i :: rest) D σD σC s) (ho : ops[i]? = some o) (he : effOf F i = false)
    (hst : (match vwanted ops σC o with | some true => VAns P o σC s v | some false => v = .und | none => False)) (hw : VDw P N ops F A K (i :: pre) rest (putO σC o.dst v) s) : InvT P N ops order F A K (i :: pre) rest D σD (putO σC o.dst v) s := by
  have hrel := (h.rel pl).1
  have hnd : ¬ dn D i := h.hrest i (by simp)
  have hsame : ∀ p o', ops[p]? = some o' → i ∉ ancOf A p → SameAt σC (putO σC o.dst v) (o'.looksAt ops) := by
    intro p o' hp' hn t ht
    refine (putO_other fun e => hn ?_).symm
    exact pl.look i p o o' ho hp' he t e ht
  refine ⟨h.size, h.closed, by rw [h.split]; simp, fun j hj => h.hrest j (by simp [hj]), fun p hp hd => ?_, fun d hd => ?_, hw⟩
  · rcases List.mem_cons.1 hp with rfl | hp
    · refine ⟨he, ?_⟩
      have hs := hsame p o ho (pl.irr p)
      unfold VSt
      rw [ho]
      simp only
      rw [← vwanted_congr hs]
      have hat : atO (putO σC o.dst v) o.dst v := by
        cases e : o.dst with
        | none => trivial
        | some d => exact putO_same
      split at hst
      · exact ⟨v, hst.congr hs, hat⟩
      · subst hst; exact hat
      · exact hst.elim
    · obtain ⟨k1, k2⟩ := h.hpre p hp hd
      refine ⟨k1, ?_⟩
      have hpi := hrel p hp i (by simp)
      have hpo : ∃ o', ops[p]? = some o' := by
        have hps : p < ops.size := (pl.all p).2 (by rw [h.split]; simp [hp])
        exact ⟨_, Array.getElem?_eq_getElem hps⟩
      obtain ⟨o', ho'⟩ := hpo
      refine st_congr k2 ho' (hsame p o' ho' hpi.1) fun d hd' => putO_other fun e => ?_
      exact pl.dst i p o o' ho ho' he (fun x => hpi.2.2 x.symm) d e hd'
  · rw [putO_other (hd i (by simp) hnd o ho)]
    exact h.agree d fun p hp => hd p (by simp [hp])
theorem InvT.advance (pl : Plan N ops order F A) {D : Array Bool} {σD : Fr} {s : S} : ∀ (rest pre : List Nat) (σC : Fr), InvT P N ops order F A K pre rest D σD σC s →
    ∃ pre' rest' σC', InvT P N ops order F A K pre' rest' D σD σC' s ∧ (rest' = [] ∨ ∃ h t, rest' = h :: t ∧ effOf F h = true)
  | [], pre, σC, h => ⟨pre, [], σC, h, .inl rfl⟩
  | i :: rest, pre, σC, h => by
    cases he : effOf F i with
    | true => exact ⟨pre, i :: rest, σC, h, .inr ⟨i, rest, rfl, he⟩⟩
    | false =>
      have hw := h.walk
      unfold VDw at hw
      cases ho : ops[i]? with
      | none => rw [ho] at hw; exact hw.elim
      | some o =>
        rw [ho] at hw
        simp only [he] at hw
        cases hv : vwanted ops σC o with
        | none => rw [hv] at hw; exact hw.elim
        | some b =>
          rw [hv] at hw
          cases b with
          | true =>
            obtain ⟨v, hvop, hw⟩ := hw
            exact InvT.advance pl rest (i :: pre) _ (h.float pl ho he (by rw [hv]; exact hvop) hw)
          | false => exact InvT.advance pl rest (i :: pre) _ (h.float pl ho he (by rw [hv]) hw)
theorem InvT.finish (pl : Plan N ops order F A) {pre rest : List Nat} {D : Array Bool} {σD σC : Fr} {s : S} (h : InvT P N ops order F A K pre rest D σD σC s) (hr : Region.ready .any ops D = []) : K σD s := by
  have hall := all_done pl h.size hr
  have hmem : ∀ i, i ∈ pre.reverse ++ rest → dn D i := fun i hi => hall i ((pl.all i).2 (by rw [h.split]; exact hi))
  cases hrest : rest with
  | cons i r =>
    exact (h.hrest i (by rw [hrest]; simp) (hmem i (by rw [hrest]; simp))).elim
  | nil =>
    have hw := h.walk
    rw [hrest] at hw
    have : σD = σC := funext fun d => h.agree d fun p hp hd => (hd (hmem p (by simp [hp]))).elim
    rw [this]
    exact hw
theorem VDw_any (pl : Plan N ops order F A) : ∀ (fuel : Nat) (D : Array Bool) (pre rest : List Nat) (σD σC : Fr) (s : S), InvT P N ops order F A K pre rest D σD σC s → left ops D ≤ fuel → VAny P N ops K fuel D σD s
  | 0, D, pre, rest, σD, σC, s, h, hf => by
    have hr : Region.ready .any ops D = [] := by
      cases hr : Region.ready .any ops D with
      | nil => rfl
      | cons i r =>
        have hi : i ∈ Region.ready .any ops D := by rw [hr]; simp
        have hlt := ready_lt hi
        have ho : ops[i]? = some ops[i] := Array.getElem?_eq_getElem hlt
        have := left_set h.size hlt ((ready_iff h.size ho).1 hi).1
        omega
    exact ⟨hr, h.finish pl hr⟩
  | fuel + 1, D, pre, rest, σD, σC, s, h, hf => by
    refine ⟨fun hr => h.finish pl hr, fun i hi => ?_⟩
    obtain ⟨pre, rest, σC, h, hadv⟩ := InvT.advance pl rest pre σC h
    have hlt := ready_lt hi
    have ho : ops[i]? = some ops[i] := Array.getElem?_eq_getElem hlt
    generalize ops[i] = o at ho
    obtain ⟨hnd, hedge⟩ := (ready_iff h.size ho).1 hi
    have hanc := pl.anc_done h.closed i o ho hedge
    have hsz : i < D.size := by rw [h.size]; exact hlt
    have hset : ∀ j, dn (D.setIfInBounds i true) j ↔ (j = i ∨ dn D j) := fun j => dn_set hsz
    have hleft : left ops (D.setIfInBounds i true) ≤ fuel := by have := left_set h.size hlt hnd; omega
    have hclosed : Closed ops (D.setIfInBounds i true) := by
      intro j o' ho' hj e he hb
      rcases (hset j).1 hj with rfl | hj
      · rw [ho] at ho'; cases ho'
        exact (hset _).2 (.inr (hedge e he hb))
      · exact (hset _).2 (.inr (h.closed j o' ho' hj e he hb))
    have hsame : SameAt σC σD (o.looksAt ops) := by
      intro t ht
      refine (h.agree t fun p hp hd o' ho' e => hd ?_).symm
      exact hanc p (pl.look p i o' o ho' ho (h.hpre p hp hd).1 t e ht)
    have hrel := h.rel pl
    unfold VStepAt
    rw [ho]
    simp only
    have hmem : i ∈ pre ∨ i ∈ rest := by
      have := (pl.all i).1 hlt
      rw [h.split] at this
      simpa using this
    -- in what is still to come only the head can be done now
    have hhead : i ∈ rest → ∃ t, rest = i :: t ∧ effOf F i = true := by
      intro hir
      rcases hadv with rfl | ⟨x, t, rfl, hx⟩
      · cases hir
      · rcases List.mem_cons.1 hir with rfl | hit
        · exact ⟨t, rfl, hx⟩
        · have := (List.pairwise_cons.1 hrel.2).1 i hit
          exact (h.hrest x (by simp) (hanc x (this.2 hx))).elim
    by_cases hip : i ∈ pre
    · obtain ⟨he, hst⟩ := h.hpre i hip hnd
      have hnr : i ∉ rest := fun hr => ((hrel.1 i hip i hr).2.2 rfl).elim
      have next : ∀ v, atO σC o.dst v → VAny P N ops K fuel (D.setIfInBounds i true) (putO σD o.dst v) s := by
        intro v hv
        refine VDw_any pl fuel _ pre rest _ σC s ⟨by simp [h.size], hclosed, h.split, fun j hj hd => ?_, fun p hp hd => h.hpre p hp fun hd' => hd ((hset p).2 (.inr hd')), fun d hd => ?_, h.walk⟩ hleft
        · rcases (hset j).1 hd with rfl | hd
          · exact hnr hj
          · exact h.hrest j hj hd
        · by_cases e : o.dst = some d
          · rw [e] at hv ⊢
            rw [putO_same]
            exact hv.symm
          · rw [putO_other e]
            refine h.agree d fun p hp hd' o' ho' => ?_
            by_cases epi : p = i
            · subst epi; rw [ho] at ho'; cases ho'; exact e
            · exact hd p hp (fun x => ((hset p).1 x).elim epi hd') o' ho'
      unfold VSt at hst
      rw [ho] at hst
      simp only at hst
      refine ⟨pl.dok i o ho, ?_⟩
      rw [← vwanted_congr hsame]
      split at hst
      · rename_i e; rw [e]
        obtain ⟨v, hv, hat⟩ := hst
        exact hv.congr hsame _ (next v hat)
      · rename_i e; rw [e]; exact next _ hst
      · exact hst.elim
    · have hir : i ∈ rest := hmem.resolve_left hip
      obtain ⟨t, rfl, he⟩ := hhead hir
      have hw := h.walk
      unfold VDw at hw
      rw [ho] at hw
      simp only [he] at hw
      refine VStep_congr hw hsame fun v s' hk => ?_
      obtain ⟨hk1, hk2⟩ := hk
      have hnt : i ∉ t := by
        have h2 := pl.nodup
        rw [h.split, List.nodup_append] at h2
        exact (List.nodup_cons.1 h2.2.1).1
      refine VDw_any pl fuel _ (i :: pre) t _ (putO σC o.dst v) s' ⟨by simp [h.size], hclosed, by rw [h.split]; simp, fun j hj hd => ?_, fun p hp hd => ?_, fun d hd => ?_, hk2⟩ hleft
      · rcases (hset j).1 hd with rfl | hd
        · exact hnt hj
        · exact h.hrest j (by simp [hj]) hd
      · rcases List.mem_cons.1 hp with rfl | hp
        · exact (hd ((hset p).2 (.inl rfl))).elim
        · have hd' : ¬ dn D p := fun x => hd ((hset p).2 (.inr x))
          have hpe := (h.hpre p hp hd').1
          refine ⟨hpe, hk1.get p ?_⟩
          unfold floats
          simp only [List.mem_filter, Bool.and_eq_true, Bool.not_eq_true', hpe, List.contains_eq_mem, decide_eq_false_iff_not, true_and]
          exact ⟨hp, fun x => hd' (hanc p x)⟩
      · by_cases e : o.dst = some d
        · rw [e, putO_same, putO_same]
        · rw [putO_other e, putO_other e]
          refine h.agree d fun p hp hd' o' ho' => hd p (by simp [hp]) (fun x => ((hset p).1 x).elim (fun y => hip (y ▸ hp)) hd') o' ho'
end
theorem VWp.drawnT {P : Program} {N id : Nat} {ops : Array Oper} {Q : Exit → Fr → S → Prop} {σ : Fr} {s : S} (order F : List Nat) (A : List (List Nat)) (hm : P.follows .mixedOrders = true) (hp : planB N ops order F A = true)
    (h : VDw P N ops F A (Q .normal) [] order σ s) : VWp P N (.region id ops true) Q σ s := by
  refine VWp.drawn hm (VDw_any (planB_spec hp) _ _ [] order σ σ s ⟨by simp, fun i o ho hd => ?_, by simp, fun i hi hd => ?_, by simp, fun d _ => rfl, h⟩ ?_)
  · unfold dn at hd
    by_cases hi : i < ops.size <;> simp [Array.getD_eq_getD_getElem?, hi] at hd
  · unfold dn at hd
    by_cases hi : i < ops.size <;> simp [Array.getD_eq_getD_getElem?, hi] at hd
  · unfold left
    exact Nat.le_trans (List.length_filter_le _ _) (by simp)
/-! ### With frames known at some slots -/
variable {P : Program} {N : Nat} {ops : Array Oper} {K : Kn → S → Prop} {L : Kn} {s : S} {xs ys : List Own} {tt : BT} {F : List Nat} {A : List (List Nat)} {pre rest : List Nat}
variable {d : Nat} {ty : TypeId} {p : String} {a : Array Edge}
structure LDr (P : Program) (N : Nat) (ops : Array Oper) (F : List Nat) (A : List (List Nat)) (K : Kn → S → Prop) (pre rest : List Nat) (L : Kn) (s : S) : Prop where
  run : ∀ σ, At L σ → VDw P N ops F A (fun σ' s' => ∃ L', At L' σ' ∧ K L' s') pre rest σ s
structure AnsL (P : Program) (op : Op) (L : Kn) (s : S) (v : V) : Prop where
  run : ∀ σ, At L σ → ∀ (dst : Option Nat) (ty : TypeId) (p : String) (a : Array Edge) (g : Option (Nat × Bool)), VAns P ⟨dst, op, ty, p, a, g⟩ σ s v
theorem AnsL.of {op : Op} {v : V} (h : ∀ σ, At L σ → ∀ (dst : Option Nat) (ty : TypeId) (p : String) (a : Array Edge) (g : Option (Nat × Bool)), vop P ⟨dst, op, ty, p, a, g⟩ σ s = some (v, s)) : AnsL P op L s v :=
  ⟨fun σ hσ dst ty p a g _ hk => VOp_of_vop (h σ hσ dst ty p a g) hk⟩
theorem AnsL.ev (ht : tt.ok P) {op : Op} {v : V} (h : Go.Proofs.YtbnbmcplmipgdaaGreatDoor.ev tt L op = some v) : AnsL P op L s v := .of fun _ hσ dst ty p a g => ev_eq ht hσ h dst ty p a g s
theorem AnsL.loadP (ht : tt.ok P) {T : TypeId} {t : Ty} {x : Operand} {k off : Nat} {cs : List V} {v : V} (hx : opd L x = some (.ptr (s.next + k) off)) (hv : nthO xs k = some (.var cs)) (hT : tt.get T = some t)
    (hr : takeO cs off t.size t.agg = some v) : AnsL P (.load T x) L (s.ext xs) v :=
  .of fun σ hσ _ _ _ _ _ => by simp only [vop, opd_eq hσ hx, vload, ht.get hT, own_vars hv, takeO_eq hr, Option.bind_some, Option.map_some]
theorem AnsL.loadO (ht : tt.ok P) {T : TypeId} {t : Ty} {x : Operand} {k off : Nat} {cs : List V} {v : V} (hx : opd L x = some (.ptr k off)) (hlt : k < s.next) (hv : s.vars k = some cs) (hT : tt.get T = some t)
    (hr : takeO cs off t.size t.agg = some v) : AnsL P (.load T x) L (s.ext xs) v :=
  .of fun σ hσ _ _ _ _ _ => by simp only [vop, opd_eq hσ hx, vload, ht.get hT, ext_vars_lt _ _ hlt, hv, takeO_eq hr, Option.bind_some, Option.map_some]
theorem AnsL.idx (ht : tt.ok P) {T e : TypeId} {t te : Ty} {x i : Operand} {id j : Nat} {k : IntKind} {us : List V} {y : V} {cs : List V} (hx : opd L x = some (.sl id us)) (hi : opd L i = some (.int k (j : Int))) (hT : tt.get T = some t) (hkd : t.kd = .slice e)
    (hte : tt.get e = some te) (hj : us[j]? = some y) (hc : cellsO y = some cs) (hn : Nat.beq cs.length te.size = true) : AnsL P (.indexAddr T x i) L s (.eptr cs 0) :=
  .of fun σ hσ _ _ _ _ _ => by
    simp only [vop, opd_eq hσ hx, opd_eq hσ hi, vindexAddr, ht.get hT, hkd, ht.get hte, Option.bind_some]
    rw [if_pos (Int.natCast_nonneg j), Int.toNat_natCast, hj]
    simp only [Option.bind_some, cellsO_eq hc, Nat.eq_of_beq_eq_true hn, if_true, Option.map_some]
theorem AnsL.idxZ (ht : tt.ok P) {T e : TypeId} {t te : Ty} {x i : Operand} {id : Nat} {n : Int} {k : IntKind} {us : List V} {y : V} {cs : List V} (hx : opd L x = some (.sl id us)) (hi : opd L i = some (.int k n)) (hT : tt.get T = some t) (hkd : t.kd = .slice e)
    (hte : tt.get e = some te) (h0 : 0 ≤ n) (hj : us[n.toNat]? = some y) (hc : cellsO y = some cs) (hn : Nat.beq cs.length te.size = true) : AnsL P (.indexAddr T x i) L s (.eptr cs 0) :=
  .of fun σ hσ _ _ _ _ _ => by
    simp only [vop, opd_eq hσ hx, opd_eq hσ hi, vindexAddr, ht.get hT, hkd, ht.get hte, Option.bind_some]
    rw [if_pos h0, hj]
    simp only [Option.bind_some, cellsO_eq hc, Nat.eq_of_beq_eq_true hn, if_true, Option.map_some]
theorem AnsL.idxM (ht : tt.ok P) {T e : TypeId} {t te : Ty} {x i : Operand} {ex : Cp} {b off len j : Nat} {k : IntKind} (hx : opd L x = some (.slm ex b off len)) (hi : opd L i = some (.int k (j : Int))) (hT : tt.get T = some t) (hkd : t.kd = .slice e)
    (hte : tt.get e = some te) (hj : j < len) : AnsL P (.indexAddr T x i) L s (.ptr b (off + j * te.size)) :=
  .of fun σ hσ _ _ _ _ _ => by
    simp only [vop, opd_eq hσ hx, opd_eq hσ hi, vindexAddr, ht.get hT, hkd, ht.get hte, Option.bind_some]
    rw [if_pos ⟨Int.natCast_nonneg j, by omega⟩, Int.toNat_natCast]
    rfl
theorem AnsL.sidx (ht : tt.ok P) {T : TypeId} {t : Ty} {x i : Operand} {j : Nat} {k : IntKind} {u : List UInt8} {b : UInt8} (hx : opd L x = some (.str u)) (hi : opd L i = some (.int k (j : Int))) (hT : tt.get T = some t) (hkd : t.kd = .string) (hj : u[j]? = some b) :
    AnsL P (.index T x i) L s (.int .u8 b.toNat) :=
  .of fun σ hσ _ _ _ _ _ => by
    simp only [vop, opd_eq hσ hx, opd_eq hσ hi, vindex, ht.get hT, hkd, Option.bind_some]
    rw [if_pos (Int.natCast_nonneg j), Int.toNat_natCast, hj]
    rfl
theorem AnsL.slc {T : TypeId} {x : Operand} {lo hi mx : Option Operand} {xv v : V} {lo' hi' mx' : Option V} (hx : opd L x = some xv) (h1 : opdO L lo = some lo') (h2 : opdO L hi = some hi') (h3 : opdO L mx = some mx') (hv : vslice P T xv lo' hi' mx' = some v) :
    AnsL P (.slice T x lo hi mx) L s v :=
  .of fun σ hσ _ _ _ _ _ => by simp only [vop, opd_eq hσ hx, opdO_eq hσ h1, opdO_eq hσ h2, opdO_eq hσ h3, hv, Option.bind_some, Option.map_some]
theorem AnsL.cat {T U : TypeId} {x y : Operand} {u w : List UInt8} (hx : opd L x = some (.str u)) (hy : opd L y = some (.str w)) (hb : u.length + w.length ≤ maxLen) : AnsL P (.binOp .add T x y U) L s (.str (u ++ w)) :=
  .of fun σ hσ _ _ _ _ _ => by simp only [vop, opd_eq hσ hx, opd_eq hσ hy, vbin, vstrOp, Option.bind_some]; rw [if_pos hb]; rfl
theorem AnsL.callP {f : Operand} {g : FuncId} {args : Array Operand} {B : Array TypeId} {caps vs ws : List V} {v : V} (hf : opd L f = some (.fn g caps)) (ha : opdL L args.toList = some vs) (hap : appO vs caps = some ws) (hok : CallOk P g)
    (hc : VCalls P g ws s (fun r s' => r = v ∧ s' = s)) : AnsL P (.call ⟨.value f, args, B⟩) L s v := by
  refine ⟨fun σ hσ dst ty p a gd K hk => ?_⟩
  refine .inl ?_
  simp only [VOp0, opd_eq hσ hf, opdL_eq hσ ha, VCall]
  refine ⟨hok.h, ?_⟩
  rw [← appO_eq hap]
  exact hc.mono fun r s' hr => by obtain ⟨rfl, rfl⟩ := hr; exact hk
theorem WL.drawn {id : Nat} {Q : Exit → Kn → S → Prop} (order F : List Nat) (A : List (List Nat)) (hm : P.follows .mixedOrders = true) (hp : planB N ops order F A = true) (h : LDr P N ops F A (Q .normal) [] order L s) : WL P N (.region id ops true) Q L s :=
  ⟨fun σ hσ => VWp.drawnT order F A hm hp (h.run σ hσ)⟩
theorem LDr.nil (h : K L s) : LDr P N ops F A K pre [] L s := ⟨fun _ hσ => ⟨L, hσ, h⟩⟩
theorem nth_ops {i : Nat} {o : Oper} (h : nthO ops.toList i = some o) : ops[i]? = some o := by
  have := nthO_eq h
  rwa [Array.getElem?_toList] at this
theorem LDr.fl {i : Nat} {op : Op} {v : V} (ho : nthO ops.toList i = some ⟨some d, op, ty, p, a, none⟩) (he : effOf F i = false) (h : AnsL P op L s v) (hk : LDr P N ops F A K (i :: pre) rest ((d, v) :: L) s) : LDr P N ops F A K pre (i :: rest) L s := by
  refine ⟨fun σ hσ => ?_⟩
  simp only [VDw, nth_ops ho, he, vwanted]
  exact ⟨v, h.run σ hσ _ _ _ _ _, hk.run _ (hσ.cons d v)⟩
theorem LDr.gT {i j e : Nat} {w b : Bool} {op : Op} {v : V} (ho : nthO ops.toList i = some ⟨some d, op, ty, p, a, some (j, w)⟩) (he : effOf F i = false) (hj : gslot ops.toList j = some e) (hb : lk L e = some (.bool b)) (hw : (b == w) = true) (h : AnsL P op L s v)
    (hk : LDr P N ops F A K (i :: pre) rest ((d, v) :: L) s) : LDr P N ops F A K pre (i :: rest) L s := by
  refine ⟨fun σ hσ => ?_⟩
  simp only [VDw, nth_ops ho, he, vwanted, gslot_eq hj, hσ e _ hb, hw]
  exact ⟨v, h.run σ hσ _ _ _ _ _, hk.run _ (hσ.cons d v)⟩
theorem LDr.gF {i j e : Nat} {w b : Bool} {op : Op} (ho : nthO ops.toList i = some ⟨some d, op, ty, p, a, some (j, w)⟩) (he : effOf F i = false) (hj : gslot ops.toList j = some e) (hb : lk L e = some (.bool b)) (hw : (b == w) = false)
    (hk : LDr P N ops F A K (i :: pre) rest ((d, .und) :: L) s) : LDr P N ops F A K pre (i :: rest) L s := by
  refine ⟨fun σ hσ => ?_⟩
  simp only [VDw, nth_ops ho, he, vwanted, gslot_eq hj, hσ e _ hb, hw]
  exact hk.run _ (hσ.cons d .und)
theorem LDr.gC {i j e : Nat} {w b : Bool} {o : Oper} (_ : nthO ops.toList i = some o) (_ : o.guard = some (j, w)) (_ : gslot ops.toList j = some e) (hb : lk L e = some (.bool b))
    (hT : b = true → LDr P N ops F A K pre (i :: rest) ((e, .bool true) :: L) s) (hF : b = false → LDr P N ops F A K pre (i :: rest) ((e, .bool false) :: L) s) : LDr P N ops F A K pre (i :: rest) L s := by
  refine ⟨fun σ hσ => ?_⟩
  cases b
  · exact (hF rfl).run σ (hσ.shadow hb)
  · exact (hT rfl).run σ (hσ.shadow hb)
/-- What is asked of what floats past an effect. -/
structure StL (P : Program) (ops : Array Oper) (q : Nat) (L : Kn) (s : S) : Prop where
  run : ∀ σ, At L σ → VSt P ops q σ s
inductive StsL (P : Program) (ops : Array Oper) (L : Kn) (s : S) : List Nat → Prop
  | nil : StsL P ops L s []
  | cons {q : Nat} {l : List Nat} : StL P ops q L s → StsL P ops L s l → StsL P ops L s (q :: l)
theorem StsL.run {l : List Nat} (h : StsL P ops L s l) {σ : Fr} (hσ : At L σ) : VSts P ops σ s l := by
  induction h with
  | nil => trivial
  | cons h _ ih => exact ⟨h.run σ hσ, ih⟩
theorem StL.fl {q : Nat} {op : Op} {v : V} (ho : nthO ops.toList q = some ⟨some d, op, ty, p, a, none⟩) (hd : lk L d = some v) (h : AnsL P op L s v) : StL P ops q L s := by
  refine ⟨fun σ hσ => ?_⟩
  simp only [VSt, nth_ops ho, vwanted, atO]
  exact ⟨v, h.run σ hσ _ _ _ _ _, hσ d v hd⟩
theorem StL.gT {q j e : Nat} {w b : Bool} {op : Op} {v : V} (ho : nthO ops.toList q = some ⟨some d, op, ty, p, a, some (j, w)⟩) (hj : gslot ops.toList j = some e) (hb : lk L e = some (.bool b)) (hw : (b == w) = true) (hd : lk L d = some v) (h : AnsL P op L s v) : StL P ops q L s := by
  refine ⟨fun σ hσ => ?_⟩
  simp only [VSt, nth_ops ho, vwanted, gslot_eq hj, hσ e _ hb, hw, atO]
  exact ⟨v, h.run σ hσ _ _ _ _ _, hσ d v hd⟩
theorem StL.gF {q j e : Nat} {w b : Bool} {op : Op} (ho : nthO ops.toList q = some ⟨some d, op, ty, p, a, some (j, w)⟩) (hj : gslot ops.toList j = some e) (hb : lk L e = some (.bool b)) (hw : (b == w) = false) (hd : lk L d = some .und) : StL P ops q L s := by
  refine ⟨fun σ hσ => ?_⟩
  simp only [VSt, nth_ops ho, vwanted, gslot_eq hj, hσ e _ hb, hw, atO]
  exact hσ d _ hd
/-- An effect, in its turn. -/
theorem LDr.eff {i : Nat} {o : Oper} (ho : nthO ops.toList i = some o) (he : effOf F i = true) (hd : dstOk N o = true) (h : LOps P N ops [o] (fun L' s' => StsL P ops L' s' (floats F A pre i) ∧ LDr P N ops F A K (i :: pre) rest L' s') L s) : LDr P N ops F A K pre (i :: rest) L s := by
  refine ⟨fun σ hσ => ?_⟩
  simp only [VDw, nth_ops ho, he]
  have h1 := h.run (by simp only [List.all_cons, List.all_nil, hd, Bool.and_self]) σ hσ
  obtain ⟨h2, h3⟩ := h1
  refine ⟨h2, ?_⟩
  have key : ∀ σ' s', VOps P N ops [] (fun σ' s' => ∃ L', At L' σ' ∧ (StsL P ops L' s' (floats F A pre i) ∧ LDr P N ops F A K (i :: pre) rest L' s')) σ' s' → VSts P ops σ' s' (floats F A pre i) ∧ VDw P N ops F A (fun σ' s' => ∃ L', At L' σ' ∧ K L' s') (i :: pre) rest σ' s' := by
    rintro σ' s' ⟨L', hat, hst, hw⟩
    exact ⟨hst.run hat, hw.run _ hat⟩
  split at h3
  · rename_i e
    rcases h3 with h3 | ⟨vs, R, hvs, hdo, hkk⟩
    case inr => exact .inr ⟨vs, R, hvs, hdo, fun v s' hR => key _ _ (hkk v s' hR)⟩
    refine .inl ?_
    unfold VOp0 at h3 ⊢
    split at h3
    · rename_i e2
      unfold VCall at h3 ⊢
      split at h3
      · exact ⟨h3.1, h3.2.mono fun _ _ hk => key _ _ hk⟩
      · exact h3.elim
    · rcases h3 with ⟨v, s', hv, hk⟩ | ⟨ps, v, hps, hv, hk⟩
      · exact .inl ⟨v, s', hv, key _ _ hk⟩
      · exact .inr ⟨ps, v, hps, hv, key _ _ hk⟩
    · rcases h3 with ⟨v, s', hv, hk⟩ | ⟨x, y, v, hx, hy, hv, hk⟩
      · exact .inl ⟨v, s', hv, key _ _ hk⟩
      · exact .inr ⟨x, y, v, hx, hy, hv, key _ _ hk⟩
    · split at h3
      · exact key _ _ h3
      · exact h3.elim
  · exact key _ _ h3
  · exact h3.elim
end Go.Proofs.YtbnbmcplmipgdaaGreatDoor
namespace Go.Proofs.YtbnbmcplmipgdaaGreatDoor
open Go
variable {P : Program} {N : Nat} {ops : Array Oper} {l : List Oper} {K : Kn → S → Prop} {L : Kn} {s : S} {xs ys : List Own} {tt : BT}
variable {d : Nat} {ty : TypeId} {p : String} {a : Array Edge}
theorem SubL.mk {A L : Kn} {k : Nat} {v w : V} (h : lk L k = some w) (e : w = v) (r : SubL A L) : SubL ((k, v) :: A) L := ⟨by rw [h, e], r⟩
theorem SubL.nil {L : Kn} : SubL [] L := trivial
theorem lbackD.of {α : Type} {M : α → Nat} {LI : α → Kn} {XI : α → List Own} {I : α → Prop} {x : α} {Q : Exit → Kn → S → Prop} {ws : List Own} (y : α) (hI : I y) (hM : M y < M x) (hL : SubL (LI y) L) (hX : ws.take (XI y).length = XI y) :
    lbackD M LI XI I s x Q .normal L (s.ext ws) :=
  ⟨⟨y, ws.drop (XI y).length, hI, hM, hL, by
    have h := List.take_append_drop (XI y).length ws
    rw [hX] at h
    rw [h]⟩⟩
theorem lback.of {α : Type} {M : α → Nat} {LI : α → Kn} {SI : α → S} {I : α → Prop} {x : α} {Q : Exit → Kn → S → Prop} (y : α) (hI : I y) (hM : M y < M x) (hL : SubL (LI y) L) (hs : s = SI y) : lback M LI SI I x Q .normal L s := ⟨⟨y, hI, hM, hL, hs⟩⟩
theorem lback_r {α : Type} {M : α → Nat} {LI : α → Kn} {SI : α → S} {I : α → Prop} {x : α} {Q : Exit → Kn → S → Prop} (h : Q .ret L s) : lback M LI SI I x Q .ret L s := ⟨h⟩
theorem lback_e {α : Type} {M : α → Nat} {LI : α → Kn} {SI : α → S} {I : α → Prop} {x : α} {Q : Exit → Kn → S → Prop} {i : Nat} (h : Q (.exit i) L s) : lback M LI SI I x Q (.exit i) L s := ⟨h⟩
theorem lbackD_r {α : Type} {M : α → Nat} {LI : α → Kn} {XI : α → List Own} {I : α → Prop} {s0 : S} {x : α} {Q : Exit → Kn → S → Prop} (h : Q .ret L s) : lbackD M LI XI I s0 x Q .ret L s := ⟨h⟩
theorem lbackD_e {α : Type} {M : α → Nat} {LI : α → Kn} {XI : α → List Own} {I : α → Prop} {s0 : S} {x : α} {Q : Exit → Kn → S → Prop} {i : Nat} (h : Q (.exit i) L s) : lbackD M LI XI I s0 x Q (.exit i) L s := ⟨h⟩
/-! ### Lists of things -/
@[simp] theorem forgetL_map {α : Type} {f : α → V} (h : ∀ x, (f x).forget = f x) (l : List α) : V.forgetL (l.map f) = l.map f := by
  rw [V.forgetL_eq, List.map_map]
  exact List.map_congr_left fun x _ => h x
@[simp] theorem map_forget_map {α : Type} {f : α → V} (h : ∀ x, (f x).forget = f x) (l : List α) : (l.map f).map V.forget = l.map f := by
  rw [List.map_map]
  exact List.map_congr_left fun x _ => h x
@[simp] theorem datL_map {α : Type} {f : α → V} (h : ∀ x, (f x).dat = true) (l : List α) : V.datL (l.map f) = true := by
  rw [V.datL_eq, List.all_map, List.all_eq_true]
  exact fun x _ => h x
@[simp] theorem underL_map {α : Type} {f : α → V} (h : ∀ x, (f x).dat = true) (n : Nat) (l : List α) : V.underL n (l.map f) = true := underL_dat (datL_map h l)
theorem underL_take' {n : Nat} {l : List V} (h : V.underL n l = true) (i : Nat) : V.underL n (l.take i) = true := by
  rw [V.underL_eq, List.all_eq_true] at h ⊢
  exact fun v hv => h v (List.mem_of_mem_take hv)
@[simp] theorem underL_map_take {α : Type} {f : α → V} (h : ∀ x, (f x).dat = true) (n i : Nat) (l : List α) : V.underL n ((l.map f).take i) = true := underL_take' (underL_map h n l) i
/-- Numbers and strings as values. -/
def iV (n : Int) : V := .int .i64 n
def sV (b : List UInt8) : V := .str b
@[simp] theorem iV_dat (n : Int) : (iV n).dat = true := by simp [iV]
@[simp] theorem sV_dat (b : List UInt8) : (sV b).dat = true := by simp [sV]
@[simp] theorem iV_forget (n : Int) : (iV n).forget = iV n := by simp [iV]
@[simp] theorem sV_forget (b : List UInt8) : (sV b).forget = sV b := by simp [sV]
theorem forgetL_take (l : List V) (n : Nat) : V.forgetL (l.take n) = (V.forgetL l).take n := by
  rw [V.forgetL_eq, V.forgetL_eq, List.map_take]
theorem get_map {α : Type} {f : α → V} {l : List α} {i : Nat} (h : i < l.length) : (l.map f)[i]? = some (f l[i]) := by simp [h]
theorem lt_map {α : Type} {f : α → V} {l : List α} {i : Nat} (h : i < l.length) : decide ((i : Int) < ((l.map f).length : Int)) = true := by simp [h]
theorem ge_map {α : Type} {f : α → V} {l : List α} {i : Nat} (h : ¬ i < l.length) : decide ((i : Int) < ((l.map f).length : Int)) = false := by simp; omega
/-! ### Numbers within their bounds, lengths and elements of mapped lists -/
def In64 (n : Int) : Prop := -9223372036854775808 ≤ n ∧ n ≤ 9223372036854775807
theorem wrap_in {n : Int} (h : In64 n) : IntKind.i64.wrap n = n := by rw [IntKind.wrap_i64]; unfold In64 at h; omega
theorem AnsL.add {T U : TypeId} {x y : Operand} {m n : Int} (hx : opd L x = some (.int .i64 m)) (hy : opd L y = some (.int .i64 n)) (h : In64 (m + n)) : AnsL P (.binOp .add T x y U) L s (.int .i64 (m + n)) :=
  .of fun σ hσ _ _ _ _ _ => by simp only [vop, opd_eq hσ hx, opd_eq hσ hy, vbin, vint, Option.bind_some, if_true, wrap_in h, Option.map_some]
theorem AnsL.sub {T U : TypeId} {x y : Operand} {m n : Int} (hx : opd L x = some (.int .i64 m)) (hy : opd L y = some (.int .i64 n)) (h : In64 (m - n)) : AnsL P (.binOp .sub T x y U) L s (.int .i64 (m - n)) :=
  .of fun σ hσ _ _ _ _ _ => by simp only [vop, opd_eq hσ hx, opd_eq hσ hy, vbin, vint, Option.bind_some, if_true, wrap_in h, Option.map_some]
theorem AnsL.mul {T U : TypeId} {x y : Operand} {m n : Int} (hx : opd L x = some (.int .i64 m)) (hy : opd L y = some (.int .i64 n)) (h : In64 (m * n)) : AnsL P (.binOp .mul T x y U) L s (.int .i64 (m * n)) :=
  .of fun σ hσ _ _ _ _ _ => by simp only [vop, opd_eq hσ hx, opd_eq hσ hy, vbin, vint, Option.bind_some, if_true, wrap_in h, Option.map_some]
/-- Numbers of any kind, wrapped. -/
def arO (op : BinOp) (k : IntKind) (m n : Int) : Option V := match op with
  | .add => some (.int k (k.wrap (m + n)))
  | .sub => some (.int k (k.wrap (m - n)))
  | .mul => some (.int k (k.wrap (m * n)))
  | _ => none
theorem AnsL.arith {op : BinOp} {T U : TypeId} {x y : Operand} {k : IntKind} {m n : Int} {v : V} (hx : opd L x = some (.int k m)) (hy : opd L y = some (.int k n)) (h : arO op k m n = some v) : AnsL P (.binOp op T x y U) L s v :=
  .of fun σ hσ _ _ _ _ _ => by
    unfold arO at h
    split at h
    all_goals first
      | cases h; simp only [vop, opd_eq hσ hx, opd_eq hσ hy, vbin, vint, Option.bind_some, if_true, Option.map_some]
      | cases h
theorem AnsL.lenS (ht : tt.ok P) {zs : List V} {T e : TypeId} {t : Ty} {x : Operand} {id n : Nat} (hx : opd L x = some (.sl id zs)) (hT : tt.get T = some t) (hkd : t.kd = .slice e) (hn : lenO zs = some n) :
    AnsL P (.call ⟨.builtin .len, #[x], #[T]⟩) L s (.int .i64 n) :=
  .of fun σ hσ _ _ _ _ _ => by simp only [vop, vevL, opd_eq hσ hx, vbuiltin, vlen, ht.get hT, hkd, Option.bind_some, Option.map_some, lenO_eq hn]
theorem AnsL.lenG (ht : tt.ok P) {zs : List V} {T e : TypeId} {t : Ty} {x : Operand} {id : Nat} (hx : opd L x = some (.sl id zs)) (hT : tt.get T = some t) (hkd : t.kd = .slice e) :
    AnsL P (.call ⟨.builtin .len, #[x], #[T]⟩) L s (.int .i64 zs.length) :=
  .of fun σ hσ _ _ _ _ _ => by simp only [vop, vevL, opd_eq hσ hx, vbuiltin, vlen, ht.get hT, hkd, Option.bind_some, Option.map_some]
theorem AnsL.lenM (ht : tt.ok P) {α : Type} {f : α → V} {zs : List α} {T e : TypeId} {t : Ty} {x : Operand} {id : Nat} (hx : opd L x = some (.sl id (zs.map f))) (hT : tt.get T = some t) (hkd : t.kd = .slice e) :
    AnsL P (.call ⟨.builtin .len, #[x], #[T]⟩) L s (.int .i64 zs.length) :=
  .of fun σ hσ _ _ _ _ _ => by simp only [vop, vevL, opd_eq hσ hx, vbuiltin, vlen, ht.get hT, hkd, Option.bind_some, Option.map_some, List.length_map]
theorem AnsL.idxA (ht : tt.ok P) {α : Type} {f : α → V} {zs : List α} {T e : TypeId} {t te : Ty} {x i : Operand} {id j : Nat} {k : IntKind} {cs : List V} (hx : opd L x = some (.sl id (zs.map f))) (hi : opd L i = some (.int k (j : Int))) (hT : tt.get T = some t) (hkd : t.kd = .slice e)
    (hte : tt.get e = some te) (hj : j < zs.length) (hc : cellsO (f zs[j]) = some cs) (hn : Nat.beq cs.length te.size = true) : AnsL P (.indexAddr T x i) L s (.eptr cs 0) := .idx ht hx hi hT hkd hte (get_map hj) hc hn
theorem LOps.ans {op : Op} {v : V} (h : AnsL P op L s v) (hk : LOps P N ops l K ((d, v) :: L) s) : LOps P N ops (⟨some d, op, ty, p, a, none⟩ :: l) K L s := by
  refine ⟨fun hd σ hσ => ?_⟩
  simp only [List.all_cons, Bool.and_eq_true] at hd
  refine ⟨hd.1, ?_⟩
  simp only [vwanted]
  exact h.run σ hσ _ _ _ _ _ _ (hk.run hd.2 _ (hσ.cons d v))
/-! ### A made slice -/
structure FrzR (s : S) (d : V) (v : V) (s' : S) : Prop where
  ex : ∃ k n sz agg us xs, v = .slm .eq (s.next + k) 0 n ∧ s' = s.ext xs ∧ xs[k]? = some (.var (V.flat us)) ∧ us.length = n ∧ 0 < sz ∧ (∀ u ∈ us, u.cells.length = sz) ∧ (∀ u ∈ us, u.fits agg = true) ∧ (agg = false → sz = 1) ∧ V.forget (.sl 0 us) = d
/-- What is left behind a weight: -1 when it is not enough. -/
def szI (w : Nat) (left : Int) : Int := if left - w < 0 then -1 else left - w
theorem szI_neg {w : Nat} {left : Int} (h : left - w < 0) : szI w left = -1 := by rw [szI, if_pos h]
theorem szI_pos {w : Nat} {left : Int} (h : ¬ left - w < 0) : szI w left = left - w := by rw [szI, if_neg h]
theorem szI_le {w : Nat} {left : Int} (h : 0 ≤ szI w left) : (w : Int) ≤ left := by
  unfold szI at h
  split at h <;> omega
theorem mul_room {i n k : Nat} (h : i < n) : 0 + i * k + k ≤ n * k := by
  have : (i + 1) * k ≤ n * k := Nat.mul_le_mul_right _ h
  rw [Nat.add_mul] at this
  omega
theorem underL_append {n : Nat} {a b : List V} (ha : V.underL n a = true) (hb : V.underL n b = true) : V.underL n (a ++ b) = true := by
  rw [V.underL_eq] at *
  rw [List.all_append, ha, hb]; rfl
end Go.Proofs.YtbnbmcplmipgdaaGreatDoor
namespace Go.Proofs.YtbnbmcplmipgdaaGreatDoor
open Go
variable {P : Program} {N : Nat} {ops : Array Oper} {l : List Oper} {K : Kn → S → Prop} {L : Kn} {s : S} {xs ys : List Own} {tt : BT} {F : List Nat} {A : List (List Nat)} {pre rest : List Nat}
variable {dst : Option Nat} {d : Nat} {op : Op} {ty : TypeId} {p : String} {a : Array Edge} {Q : Exit → Kn → S → Prop} {c : Code} {v : V}
theorem kOps (h : LOps P N ops l K L s) : LOps P N ops l K L s := h
theorem kWL (h : WL P N c Q L s) : WL P N c Q L s := h
theorem kDr (h : LDr P N ops F A K pre rest L s) : LDr P N ops F A K pre rest L s := h
theorem kCond {x : Operand} {e : Code} (h : WL P N (.cond x c e) Q L s) : WL P N (.cond x c e) Q L s := h
theorem kG {g : Nat × Bool} (h : LOps P N ops (⟨dst, op, ty, p, a, some g⟩ :: l) K L s) : LOps P N ops (⟨dst, op, ty, p, a, some g⟩ :: l) K L s := h
theorem kN (h : LOps P N ops (⟨none, op, ty, p, a, none⟩ :: l) K L s) : LOps P N ops (⟨none, op, ty, p, a, none⟩ :: l) K L s := h
theorem kA (h : LOps P N ops (⟨some d, op, ty, p, a, none⟩ :: l) K L s) : LOps P N ops (⟨some d, op, ty, p, a, none⟩ :: l) K L s := h
theorem kStore {T : TypeId} {x y : Operand} (h : LOps P N ops (⟨none, .store T x y, ty, p, a, none⟩ :: l) K L s) : LOps P N ops (⟨none, .store T x y, ty, p, a, none⟩ :: l) K L s := h
theorem kBox {T : TypeId} {x : Operand} (h : LOps P N ops (⟨some d, .box T x, ty, p, a, none⟩ :: l) K L s) : LOps P N ops (⟨some d, .box T x, ty, p, a, none⟩ :: l) K L s := h
theorem kAlloc {T : TypeId} (h : LOps P N ops (⟨some d, .alloc T, ty, p, a, none⟩ :: l) K L s) : LOps P N ops (⟨some d, .alloc T, ty, p, a, none⟩ :: l) K L s := h
theorem kBsl {T : TypeId} {n : Nat} {ps : Array (Nat × Operand)} (h : LOps P N ops (⟨some d, .buildSlice T n ps, ty, p, a, none⟩ :: l) K L s) : LOps P N ops (⟨some d, .buildSlice T n ps, ty, p, a, none⟩ :: l) K L s := h
theorem kMake {T : TypeId} {x y : Operand} (h : LOps P N ops (⟨some d, .makeSlice T x y, ty, p, a, none⟩ :: l) K L s) : LOps P N ops (⟨some d, .makeSlice T x y, ty, p, a, none⟩ :: l) K L s := h
theorem kApp {x y : Operand} {B : Array TypeId} (h : LOps P N ops (⟨some d, .call ⟨.builtin .append, #[x, y], B⟩, ty, p, a, none⟩ :: l) K L s) : LOps P N ops (⟨some d, .call ⟨.builtin .append, #[x, y], B⟩, ty, p, a, none⟩ :: l) K L s := h
theorem kLoad {T : TypeId} {x : Operand} (h : LOps P N ops (⟨some d, .load T x, ty, p, a, none⟩ :: l) K L s) : LOps P N ops (⟨some d, .load T x, ty, p, a, none⟩ :: l) K L s := h
theorem kDLoad {T : TypeId} {x : Operand} {i : Nat} {g : Option (Nat × Bool)} (_ : nthO ops.toList i = some ⟨some d, .load T x, ty, p, a, g⟩) (h : LDr P N ops F A K pre (i :: rest) L s) : LDr P N ops F A K pre (i :: rest) L s := h
theorem kLen {x : Operand} {B : Array TypeId} (h : LOps P N ops (⟨some d, .call ⟨.builtin .len, #[x], B⟩, ty, p, a, none⟩ :: l) K L s) : LOps P N ops (⟨some d, .call ⟨.builtin .len, #[x], B⟩, ty, p, a, none⟩ :: l) K L s := h
theorem kDLen {x : Operand} {B : Array TypeId} {i : Nat} {g : Option (Nat × Bool)} (_ : nthO ops.toList i = some ⟨some d, .call ⟨.builtin .len, #[x], B⟩, ty, p, a, g⟩) (h : LDr P N ops F A K pre (i :: rest) L s) : LDr P N ops F A K pre (i :: rest) L s := h
theorem kBin {o : BinOp} {T U : TypeId} {x y : Operand} (h : LOps P N ops (⟨some d, .binOp o T x y U, ty, p, a, none⟩ :: l) K L s) : LOps P N ops (⟨some d, .binOp o T x y U, ty, p, a, none⟩ :: l) K L s := h
theorem kDBin {o : BinOp} {T U : TypeId} {x y : Operand} {i : Nat} {g : Option (Nat × Bool)} (_ : nthO ops.toList i = some ⟨some d, .binOp o T x y U, ty, p, a, g⟩) (h : LDr P N ops F A K pre (i :: rest) L s) : LDr P N ops F A K pre (i :: rest) L s := h
theorem kIdx {T : TypeId} {x i : Operand} (h : LOps P N ops (⟨some d, .indexAddr T x i, ty, p, a, none⟩ :: l) K L s) : LOps P N ops (⟨some d, .indexAddr T x i, ty, p, a, none⟩ :: l) K L s := h
theorem kDIdx {T : TypeId} {x y : Operand} {i : Nat} {g : Option (Nat × Bool)} (_ : nthO ops.toList i = some ⟨some d, .indexAddr T x y, ty, p, a, g⟩) (h : LDr P N ops F A K pre (i :: rest) L s) : LDr P N ops F A K pre (i :: rest) L s := h
theorem kSidx {T : TypeId} {x i : Operand} (h : LOps P N ops (⟨some d, .index T x i, ty, p, a, none⟩ :: l) K L s) : LOps P N ops (⟨some d, .index T x i, ty, p, a, none⟩ :: l) K L s := h
theorem kSlc {T : TypeId} {x : Operand} {lo hi mx : Option Operand} (h : LOps P N ops (⟨some d, .slice T x lo hi mx, ty, p, a, none⟩ :: l) K L s) : LOps P N ops (⟨some d, .slice T x lo hi mx, ty, p, a, none⟩ :: l) K L s := h
theorem kDSlc {T : TypeId} {x : Operand} {lo hi mx : Option Operand} {i : Nat} {g : Option (Nat × Bool)} (_ : nthO ops.toList i = some ⟨some d, .slice T x lo hi mx, ty, p, a, g⟩) (h : LDr P N ops F A K pre (i :: rest) L s) : LDr P N ops F A K pre (i :: rest) L s := h
theorem kCall {f : Operand} {args : Array Operand} {B : Array TypeId} (h : LOps P N ops (⟨some d, .call ⟨.value f, args, B⟩, ty, p, a, none⟩ :: l) K L s) : LOps P N ops (⟨some d, .call ⟨.value f, args, B⟩, ty, p, a, none⟩ :: l) K L s := h
theorem kCallN (g : FuncId) {args : Array Operand} {B : Array TypeId} (h : LOps P N ops (⟨some d, .call ⟨.value (.func g), args, B⟩, ty, p, a, none⟩ :: l) K L s) : LOps P N ops (⟨some d, .call ⟨.value (.func g), args, B⟩, ty, p, a, none⟩ :: l) K L s := h
theorem kDCallN (g' : FuncId) {args : Array Operand} {B : Array TypeId} {i : Nat} {g : Option (Nat × Bool)} (_ : nthO ops.toList i = some ⟨some d, .call ⟨.value (.func g'), args, B⟩, ty, p, a, g⟩) (h : LDr P N ops F A K pre (i :: rest) L s) : LDr P N ops F A K pre (i :: rest) L s := h
/-- A guard that a fact decides. -/
theorem LOps.gD {o : Oper} {j e : Nat} {w b : Bool} (c : Bool) (_ : o.guard = some (j, w)) (_ : gslot ops.toList j = some e) (hb : lk L e = some (.bool b)) (hc : b = c) (h : LOps P N ops (o :: l) K ((e, .bool c) :: L) s) : LOps P N ops (o :: l) K L s := by
  subst hc
  exact ⟨fun hd σ hσ => h.run hd σ (hσ.shadow hb)⟩
theorem LDr.gD {i j e : Nat} {w b : Bool} {o : Oper} (c : Bool) (_ : nthO ops.toList i = some o) (_ : o.guard = some (j, w)) (_ : gslot ops.toList j = some e) (hb : lk L e = some (.bool b)) (hc : b = c)
    (h : LDr P N ops F A K pre (i :: rest) ((e, .bool c) :: L) s) : LDr P N ops F A K pre (i :: rest) L s := by
  subst hc
  exact ⟨fun σ hσ => h.run σ (hσ.shadow hb)⟩
end Go.Proofs.YtbnbmcplmipgdaaGreatDoor
