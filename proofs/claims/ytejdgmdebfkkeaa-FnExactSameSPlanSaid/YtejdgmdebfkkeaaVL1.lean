/-
  The value level's logic with frames known at some slots: rules that one step of unification applies. Own work; no condition.
-/
import Derived.Test.YtejdgmdebfkkeaaVDrop
import Derived.Test.YtejdgmdebfkkeaaVGlue
namespace Go.Proofs.Ytejdgmdebfkkeaa
open Go

/-! ### Types in a tree -/
inductive BT where
  | leaf
  | node (k : Nat) (t : Ty) (l r : BT)
def BT.get : BT → Nat → Option Ty
  | .leaf, _ => none
  | .node k t l r, n => match Nat.beq n k with
    | true => some t
    | false => match Nat.blt n k with
      | true => l.get n
      | false => r.get n
def BT.ok (P : Program) : BT → Prop
  | .leaf => True
  | .node k t l r => tyOf P k = some t ∧ l.ok P ∧ r.ok P
theorem BT.ok.get {P : Program} : ∀ {b : BT}, b.ok P → ∀ {n t}, b.get n = some t → tyOf P n = some t
  | .leaf, _, n, t, h => by cases h
  | .node k u l r, ⟨h1, h2, h3⟩, n, t, h => by
    unfold BT.get at h
    split at h
    · rename_i e
      cases h
      rw [Nat.eq_of_beq_eq_true e]; exact h1
    · split at h
      · exact BT.ok.get h2 h
      · exact BT.ok.get h3 h

/-! ### Frames known at some slots -/
abbrev Kn := List (Nat × V)
def lk : Kn → Nat → Option V
  | [], _ => none
  | (k, v) :: L, x => match Nat.beq k x with
    | true => some v
    | false => lk L x
def At (L : Kn) (σ : Fr) : Prop := ∀ x v, lk L x = some v → σ x = v
theorem At.nil (σ : Fr) : At [] σ := fun _ _ h => by cases h
theorem At.cons {L : Kn} {σ : Fr} (h : At L σ) (d : Nat) (v : V) : At ((d, v) :: L) (put σ d v) := by
  intro x u hx
  unfold lk at hx
  unfold put
  split at hx
  · rename_i e
    rw [if_pos (Nat.eq_of_beq_eq_true e).symm]
    cases hx; rfl
  · rename_i e
    have : x ≠ d := fun e' => by rw [e', show Nat.beq d d = true from Nat.beq_refl d] at e; cases e
    rw [if_neg this]
    exact h x u hx
/-- A slot known to hold something is known to hold it. -/
theorem At.shadow {L : Kn} {σ : Fr} (h : At L σ) {d : Nat} {v : V} (hd : lk L d = some v) : At ((d, v) :: L) σ := by
  intro x u hx
  unfold lk at hx
  split at hx
  · rename_i e
    cases hx
    rw [← Nat.eq_of_beq_eq_true e]; exact h d v hd
  · exact h x u hx

def SubL : Kn → Kn → Prop
  | [], _ => True
  | (k, v) :: A, L => lk L k = some v ∧ SubL A L
theorem SubL.at {A L : Kn} (h : SubL A L) {σ : Fr} (ha : At L σ) : At A σ := by
  induction A with
  | nil => exact At.nil σ
  | cons x A ih =>
    obtain ⟨k, v⟩ := x
    exact fun y u hy => by
      unfold lk at hy
      split at hy
      · rename_i e
        cases hy
        rw [← Nat.eq_of_beq_eq_true e]; exact ha k v h.1
      · exact ih h.2 y u hy

/-! ### Strict helpers: what they answer is written out -/
def nthO {α : Type} : List α → Nat → Option α
  | [], _ => none
  | x :: _, 0 => some x
  | _ :: l, n + 1 => nthO l n
theorem nthO_eq {α : Type} : ∀ {l : List α} {n : Nat} {x : α}, nthO l n = some x → l[n]? = some x
  | [], _, _, h => by cases h
  | _ :: _, 0, _, h => by simpa [nthO] using h
  | _ :: l, n + 1, _, h => by simpa using nthO_eq (l := l) (n := n) h
def lenO {α : Type} : List α → Option Nat
  | [] => some 0
  | _ :: l => match lenO l with
    | some n => some (n + 1)
    | none => none
theorem lenO_eq {α : Type} : ∀ {l : List α} {n : Nat}, lenO l = some n → l.length = n
  | [], n, h => by cases h; rfl
  | x :: l, n, h => by
    unfold lenO at h
    split at h
    · rename_i m e
      cases h
      simp [lenO_eq e]
    · cases h
def snocO {α : Type} : List α → α → Option (List α)
  | [], y => some [y]
  | x :: l, y => match snocO l y with
    | some r => some (x :: r)
    | none => none
theorem snocO_eq {α : Type} : ∀ {l : List α} {y : α} {r : List α}, snocO l y = some r → r = l ++ [y]
  | [], y, r, h => by cases h; rfl
  | x :: l, y, r, h => by
    unfold snocO at h
    split at h
    · rename_i q e
      cases h
      simp [snocO_eq e]
    · cases h
def setO {α : Type} : List α → Nat → α → Option (List α)
  | [], _, _ => none
  | _ :: l, 0, y => some (y :: l)
  | x :: l, n + 1, y => match setO l n y with
    | some r => some (x :: r)
    | none => none
theorem setO_eq {α : Type} : ∀ {l : List α} {n : Nat} {y : α} {r : List α}, setO l n y = some r → r = l.set n y
  | [], _, _, _, h => by cases h
  | _ :: _, 0, _, _, h => by cases h; rfl
  | x :: l, n + 1, y, r, h => by
    unfold setO at h
    split at h
    · rename_i q e
      cases h
      simp [setO_eq e]
    · cases h
def dropO : Nat → List V → Option (List V)
  | 0, l => some l
  | n + 1, _ :: l => dropO n l
  | _ + 1, [] => none
theorem dropO_eq : ∀ {n : Nat} {l r : List V}, dropO n l = some r → r = l.drop n ∧ n ≤ l.length
  | 0, l, r, h => by cases h; simp
  | n + 1, _ :: l, r, h => by
    have := dropO_eq (n := n) (l := l) h
    simp [this.1]; exact this.2
  | _ + 1, [], _, h => by cases h
def firstO : Nat → List V → Option (List V)
  | 0, _ => some []
  | n + 1, x :: l => match firstO n l with
    | some r => some (x :: r)
    | none => none
  | _ + 1, [] => none
theorem firstO_eq : ∀ {n : Nat} {l r : List V}, firstO n l = some r → r = l.take n ∧ n ≤ l.length
  | 0, l, r, h => by cases h; simp
  | n + 1, x :: l, r, h => by
    unfold firstO at h
    split at h
    · rename_i q e
      cases h
      have := firstO_eq e
      simp [this.1]; exact this.2
    · cases h
  | _ + 1, [], _, h => by cases h
def takeO (cs : List V) (off sz : Nat) (agg : Bool) : Option V :=
  match dropO off cs with
  | some l => match agg with
    | true => (match firstO sz l with
      | some r => some (.agg r)
      | none => none)
    | false => (match Nat.beq sz 1, l with
      | true, x :: _ => some x
      | _, _ => none)
  | none => none
theorem takeO_eq {cs : List V} {off sz : Nat} {agg : Bool} {v : V} (h : takeO cs off sz agg = some v) : takeV cs off sz agg = some v := by
  unfold takeO at h
  split at h
  case h_2 => cases h
  rename_i l e
  obtain ⟨rfl, h1⟩ := dropO_eq e
  split at h
  · split at h
    case h_2 => cases h
    rename_i r e2
    obtain ⟨rfl, h2⟩ := firstO_eq e2
    cases h
    rw [List.length_drop] at h2
    simp [takeV, show off + sz ≤ cs.length by omega]
  · split at h
    case h_2 => cases h
    rename_i x l' e2 e3
    cases h
    have hs : sz = 1 := Nat.eq_of_beq_eq_true e2
    subst hs
    have hlt : off < cs.length := by
      rcases Nat.lt_or_ge off cs.length with hh | hh
      · exact hh
      · rw [List.drop_of_length_le hh] at e3; cases e3
    rw [List.drop_eq_getElem_cons hlt] at e3
    simp only [List.cons.injEq] at e3
    simp [takeV, show off + 1 ≤ cs.length by omega, ← e3.1, hlt]
def cellsO : V → Option (List V)
  | .agg cs => some cs
  | .raw _ => none
  | .int k n => some [.int k n]
  | .bool b => some [.bool b]
  | .str s => some [.str s]
  | .ptr l o => some [.ptr l o]
  | .eptr cs o => some [.eptr cs o]
  | .nilp => some [.nilp]
  | .sl i xs => some [.sl i xs]
  | .zsl => some [.zsl]
  | .nilsl => some [.nilsl]
  | .slm x l o n => some [.slm x l o n]
  | .fn f cs => some [.fn f cs]
  | .tup vs => some [.tup vs]
  | .und => some [.und]
theorem cellsO_eq {v : V} {cs : List V} (h : cellsO v = some cs) : v.cells = cs := by
  cases v <;> cases h <;> rfl
def onesO : List V → Bool
  | [] => true
  | v :: l => match v.one with
    | true => onesO l
    | false => false
theorem onesO_eq : ∀ {l : List V}, onesO l = true → l.all V.one = true
  | [], _ => rfl
  | v :: l, h => by
    unfold onesO at h
    split at h
    · rename_i e; simp only [List.all_cons, e, onesO_eq h, Bool.and_self]
    · cases h
def appO {α : Type} : List α → List α → Option (List α)
  | [], r => some r
  | x :: l, r => match appO l r with
    | some q => some (x :: q)
    | none => none
theorem appO_eq {α : Type} : ∀ {l r q : List α}, appO l r = some q → q = l ++ r
  | [], r, q, h => by cases h; rfl
  | x :: l, r, q, h => by
    unfold appO at h
    split at h
    · rename_i p e
      cases h
      simp [appO_eq e]
    · cases h
/-- The cells with some of them written over. -/
def splO (cs : List V) (off : Nat) (vs : List V) : Option (List V) :=
  match off, cs with
  | 0, cs => match dropO vs.length cs with
    | some r => appO vs r
    | none => none
  | n + 1, c :: cs => match splO cs n vs with
    | some r => some (c :: r)
    | none => none
  | _ + 1, [] => none
theorem splO_eq : ∀ {off : Nat} {cs vs r : List V}, splO cs off vs = some r → r = splice cs off vs ∧ off + vs.length ≤ cs.length
  | 0, cs, vs, r, h => by
    unfold splO at h
    split at h
    · rename_i q e
      obtain ⟨rfl, h1⟩ := dropO_eq e
      have := appO_eq h
      subst this
      exact ⟨by simp [splice], by omega⟩
    · cases h
  | n + 1, c :: cs, vs, r, h => by
    unfold splO at h
    split at h
    · rename_i q e
      cases h
      obtain ⟨rfl, h1⟩ := splO_eq e
      exact ⟨by rw [splice_succ], by simp; omega⟩
    · cases h
  | _ + 1, [], _, _, h => by cases h

def opd (L : Kn) : Operand → Option V
  | .tmp t => lk L t
  | .const v => vOf v
  | .func f => some (.fn f [])
  | .global _ => none
theorem opd_eq {L : Kn} {x : Operand} {v : V} {σ : Fr} (ha : At L σ) (h : opd L x = some v) : vev σ x = some v := by
  cases x with
  | tmp t => simp [vev, ha t v h]
  | const c => exact h
  | func f => exact h
  | global g => exact h
def opdL (L : Kn) : List Operand → Option (List V)
  | [] => some []
  | x :: xs => match opd L x with
    | some v => match opdL L xs with
      | some vs => some (v :: vs)
      | none => none
    | none => none
theorem opdL_eq {L : Kn} {σ : Fr} (ha : At L σ) : ∀ {xs : List Operand} {vs : List V}, opdL L xs = some vs → vevL σ xs = some vs
  | [], vs, h => by cases h; rfl
  | x :: xs, vs, h => by
    unfold opdL at h
    split at h
    case h_2 => cases h
    rename_i v e
    split at h
    case h_2 => cases h
    rename_i us e2
    cases h
    simp only [vevL, opd_eq ha e, opdL_eq ha e2, Option.bind_some, Option.map_some]
def opdP (L : Kn) : List (Nat × Operand) → Option (List (Nat × V))
  | [] => some []
  | (i, x) :: xs => match opd L x with
    | some v => match opdP L xs with
      | some vs => some ((i, v) :: vs)
      | none => none
    | none => none
theorem opdP_eq {L : Kn} {σ : Fr} (ha : At L σ) : ∀ {xs : List (Nat × Operand)} {vs : List (Nat × V)}, opdP L xs = some vs → vparts σ xs = some vs
  | [], vs, h => by cases h; rfl
  | (i, x) :: xs, vs, h => by
    unfold opdP at h
    split at h
    case h_2 => cases h
    rename_i v e
    split at h
    case h_2 => cases h
    rename_i us e2
    cases h
    simp only [vparts, opd_eq ha e, opdP_eq ha e2, Option.bind_some, Option.map_some]
/-- A slot always holds something. -/
def thereO : Operand → Bool
  | .tmp _ => true
  | .const v => (vOf v).isSome
  | .func _ => true
  | .global _ => false
theorem thereO_eq {x : Operand} (h : thereO x = true) (σ : Fr) : ∃ v, vev σ x = some v := by
  cases x with
  | tmp t => exact ⟨_, rfl⟩
  | const v => exact Option.isSome_iff_exists.1 h
  | func f => exact ⟨_, rfl⟩
  | global g => cases h

def ikEq : IntKind → IntKind → Bool
  | .i8, .i8 | .i16, .i16 | .i32, .i32 | .i64, .i64 | .u8, .u8 | .u16, .u16 | .u32, .u32 | .u64, .u64 => true
  | _, _ => false
theorem ikEq_eq {a b : IntKind} (h : ikEq a b = true) : a = b := by cases a <;> cases b <;> first | rfl | cases h

/-- Parts of a struct, filled in. -/
def fillO (fs : List FieldI) (cells : List V) : List (Nat × V) → Option (List V)
  | [] => some cells
  | (i, v) :: rest => match nthO fs i with
    | some f => (match cellsO v with
      | some vs => (match Nat.beq vs.length f.size with
        | true => (match splO cells f.off vs with
          | some cells' => fillO fs cells' rest
          | none => none)
        | false => none)
      | none => none)
    | none => none
theorem fillO_eq {fs : List FieldI} : ∀ {ps : List (Nat × V)} {cells r : List V}, fillO fs cells ps = some r → vfill (placeS fs) cells ps = some r
  | [], cells, r, h => h
  | (i, v) :: rest, cells, r, h => by
    unfold fillO at h
    split at h
    case h_2 => cases h
    rename_i f e1
    split at h
    case h_2 => cases h
    rename_i vs e2
    split at h
    case h_2 => cases h
    rename_i e3
    split at h
    case h_2 => cases h
    rename_i c' e4
    obtain ⟨rfl, h4⟩ := splO_eq e4
    have h3 : vs.length = f.size := Nat.eq_of_beq_eq_true e3
    simp only [vfill, placeS, nthO_eq e1, Option.map_some, Option.bind_some, cellsO_eq e2, h3, true_and]
    rw [if_pos (by omega)]
    exact fillO_eq h

def vlenO : Option Ty → Option V → Option V
  | some ⟨_, _, _, .string⟩, some (.str s) => some (.int .i64 s.length)
  | some ⟨_, _, _, .slice _⟩, some .nilsl => some (.int .i64 0)
  | some ⟨_, _, _, .slice _⟩, some .zsl => some (.int .i64 0)
  | some ⟨_, _, _, .slice _⟩, some (.slm _ _ _ n) => some (.int .i64 n)
  | _, _ => none

def isPosO : Int → Bool
  | .ofNat (_ + 1) => true
  | _ => false

def vintO (op : BinOp) (k : IntKind) (a b : Int) : Option V :=
  match op with
  | .quo => match isPosO b with
    | true => some (.int k (k.wrap (a.tdiv b)))
    | false => none
  | .rem => match isPosO b with
    | true => some (.int k (a.tmod b))
    | false => none
  | .shl => match isPosO b with
    | true => some (.int k (k.wrap (a * 2 ^ (min b.toNat k.bits))))
    | false => none
  | .shr => match isPosO b with
    | true => some (.int k (a.fdiv (2 ^ (min b.toNat k.bits))))
    | false => none
  | .add => none
  | .sub => none
  | .mul => none
  | op => vint op k a b

def vstrO (op : BinOp) (a b : List UInt8) : Option V :=
  match op with
  | .add => none
  | op => vstrOp op a b

def binO (tt : BT) (op : BinOp) (T : TypeId) (x y : Option V) : Option V :=
  match x, y with
  | some (.int k a), some (.int k' b) => match ikEq k k' with
    | true => vintO op k a b
    | false => none
  | some (.str a), some (.str b) => vstrO op a b
  | some (.bool a), some (.bool b) => match tt.get T with
    | some ⟨_, _, _, .bool⟩ => match op with
      | .eql => some (.bool (decide (a = b)))
      | .neq => some (.bool (!decide (a = b)))
      | _ => none
    | _ => none
  | some (.agg xs), some (.agg ys) => match tt.get T with
    | some ⟨_, _, _, .struct fs true⟩ => match op with
      | .eql => (eqF fs 0 xs ys).map .bool
      | .neq => (eqF fs 0 xs ys).map fun b => .bool !b
      | _ => none
    | _ => none
  | _, _ => none

theorem isPosO_eq {b : Int} (h : isPosO b = true) : 0 < b := by
  unfold isPosO at h
  split at h
  · rename_i n; show (0 : Int) < ((n + 1 : Nat) : Int); omega
  · cases h

theorem vintO_eq {P : Program} {T : TypeId} {op : BinOp} {k : IntKind} {a b : Int} {v : V} (h : vintO op k a b = some v) : vbin P op T (.int k a) (.int k b) = some v := by
  unfold vintO at h
  split at h
  · split at h
    · rename_i e; have := isPosO_eq e
      simpa [vbin, vint, show b ≠ 0 by omega] using h
    · cases h
  · split at h
    · rename_i e; have := isPosO_eq e
      simpa [vbin, vint, show b ≠ 0 by omega] using h
    · cases h
  · split at h
    · rename_i e; have := isPosO_eq e
      simpa [vbin, show 0 ≤ b by omega] using h
    · cases h
  · split at h
    · rename_i e; have := isPosO_eq e
      simpa [vbin, show 0 ≤ b by omega] using h
    · cases h
  · cases h
  · cases h
  · cases h
  · cases op <;> first | (simp [vbin, vint] at h ⊢; exact h) | simp_all

theorem vstrO_eq {P : Program} {T : TypeId} {op : BinOp} {a b : List UInt8} {v : V} (h : vstrO op a b = some v) : vbin P op T (.str a) (.str b) = some v := by
  unfold vstrO at h
  split at h
  · cases h
  · rename_i hne
    cases op <;> first | exact absurd rfl hne | exact h

theorem binO_eq {P : Program} {tt : BT} (ht : tt.ok P) {op : BinOp} {T : TypeId} {x y v : V} (h : binO tt op T (some x) (some y) = some v) : vbin P op T x y = some v := by
  unfold binO at h
  split at h
  · rename_i k a k' b e1 e2
    cases e1; cases e2
    split at h
    · rename_i e
      have := ikEq_eq e
      subst this
      exact vintO_eq h
    · cases h
  · rename_i e1 e2
    cases e1; cases e2
    exact vstrO_eq h
  · rename_i e1 e2
    cases e1; cases e2
    split at h
    · rename_i e
      have := ht.get e
      split at h
      · simpa [vbin, veq, this] using h
      · simpa [vbin, veq, this] using h
      · cases h
    · cases h
  · rename_i e1 e2
    cases e1; cases e2
    split at h
    · rename_i e
      have := ht.get e
      split at h
      · simpa [vbin, veq, this] using h
      · simpa [vbin, veq, this] using h
      · cases h
    · cases h
  · cases h

/-- What an operation answers that changes nothing: by unification. -/
def ev (tt : BT) (L : Kn) (op : Op) : Option V :=
  match op with
  | .move x => opd L x
  | .assign x => opd L x
  | .pick c a b => match opd L c with
    | some (.bool true) => match thereO b with
      | true => opd L a
      | false => none
    | some (.bool false) => match thereO a with
      | true => opd L b
      | false => none
    | _ => none
  | .fieldAddr T x f => match tt.get T with
    | some ⟨_, _, _, .struct fs _⟩ => match nthO fs f with
      | some fi => match Nat.beq fi.size 0 with
        | true => none
        | false => match opd L x with
          | some (.ptr l o) => some (.ptr l (o + fi.off))
          | some (.eptr cs o) => some (.eptr cs (o + fi.off))
          | _ => none
      | none => none
    | _ => none
  | .load T x => match opd L x with
    | some (.eptr cs off) => match tt.get T with
      | some t => takeO cs off t.size t.agg
      | none => none
    | _ => none
  | .field T x f => match tt.get T with
    | some ⟨_, _, _, .struct fs _⟩ => match nthO fs f with
      | some fi => match opd L x with
        | some (.agg cs) => takeO cs fi.off fi.size fi.agg
        | _ => none
      | none => none
    | _ => none
  | .build T parts => match tt.get T with
    | some ⟨sz, _, zero, .struct fs _⟩ => match Nat.beq zero.length sz && Nat.blt 0 sz with
      | true => match opdP L parts.toList with
        | some ps => (match fillO fs zero ps with
          | some cs => some (.agg cs)
          | none => none)
        | none => none
      | false => none
    | _ => none
  | .binOp op T x y _ => binO tt op T (opd L x) (opd L y)
  | .unOp op _ x => match opd L x with
    | some v => vun op v
    | none => none
  | .convert U T x => match tt.get U with
    | some _ => (match tt.get T, opd L x with
      | some ⟨_, _, _, .int k⟩, some (.int _ n) => some (.int k (k.wrap n))
      | some ⟨_, _, _, .string⟩, some (.str s) => some (.str s)
      | _, _ => none)
    | none => none
  | .extract x i => match opd L x with
    | some (.tup vs) => nthO vs i
    | _ => none
  | .makeFunc fn first captured => match fn, first.toList with
    | .func f, [] => (match opdL L captured.toList with
      | some cs => some (.fn f cs)
      | none => none)
    | _, _ => none
  | .nilCheck x => match opd L x with
    | some (.ptr l k) => some (.ptr l k)
    | some (.eptr cs k) => some (.eptr cs k)
    | some (.fn f cs) => some (.fn f cs)
    | _ => none
  | .call c => match c.callee, c.args.toList, c.argTypes.toList with
    | .builtin .len, [x], [T] => vlenO (tt.get T) (opd L x)
    | .builtin .max, [x, y], _ => (match opd L x, opd L y with
      | some x, some y => vmax x y
      | _, _ => none)
    | .builtin .min, [x, y], _ => (match opd L x, opd L y with
      | some x, some y => vmin x y
      | _, _ => none)
    | _, _, _ => none
  | _ => none

end Go.Proofs.Ytejdgmdebfkkeaa
