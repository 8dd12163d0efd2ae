/-
  More operations at the value level: addresses, indexes, slices of strings and of slices, len, max, min, structs built. Own work; no condition.
-/
import Derived.Test.YtejdgmdebfkkeaaVOp2
namespace Go.Proofs.Ytejdgmdebfkkeaa
open Go

/-! ### unary -/
def vun (op : UnOp) (x : V) : Option V :=
  match op, x with
  | .neg, .int k n => some (.int k (k.wrap (0 - n)))
  | .not, .bool b => some (.bool !b)
  | _, _ => none

theorem vun_sound {P : Program} {op : UnOp} {x v : V} {E : Env} {xv : Value} (hx : RepV E x xv) (h : vun op x = some v) : ∃ val, (Op.unary op xv).run P E.w = .ok val E.w ∧ RepV E v val := by
  unfold vun at h
  split at h
  · cases h; cases hx
    exact ⟨_, by simp [Op.unary, Op.intArith], .int (wrap_range _ _).1 (wrap_range _ _).2⟩
  · cases h; cases hx
    exact ⟨_, by simp [Op.unary], .bool⟩
  · cases h

/-! ### conversions between integers -/
def vconv (P : Program) (U T : TypeId) (x : V) : Option V :=
  (tyOf P U).bind fun _ => (tyOf P T).bind fun t => match t.kd, x with
    | .int k, .int _ n => some (.int k (k.wrap n))
    | .string, .str s => some (.str s)
    | _, _ => none

theorem vconv_sound {P : Program} {U T : TypeId} {x v : V} {E : Env} {xv : Value} (hx : RepV E x xv) (h : vconv P U T x = some v) : ∃ val, (convert U T xv).run P E.w = .ok val E.w ∧ RepV E v val := by
  unfold vconv at h
  simp only [Option.bind_eq_some_iff] at h
  obtain ⟨u, hu, t, ht, h⟩ := h
  obtain ⟨_, d', _, hd', _⟩ := tyOf_parts hu
  obtain ⟨_, d, _, hd, hk, _⟩ := tyOf_parts ht
  split at h
  · rename_i k k' n hkd
    cases h; cases hx
    rw [hkd] at hk
    have : d = .int k := by cases d <;> simp [kdOf] at hk; rw [hk]
    subst this
    exact ⟨.int k (k.wrap n), by cases d' <;> simp [convert, run_underlying hd', run_underlying hd, Conv.intToInt], .int (wrap_range _ _).1 (wrap_range _ _).2⟩
  · rename_i s hkd
    cases h
    rw [hkd] at hk
    have : d = .string := by cases d <;> simp [kdOf] at hk; rfl
    subst this
    cases hx with
    | str hl => exact ⟨_, by cases d' <;> simp [convert, run_underlying hd', run_underlying hd], .str hl⟩
  · cases h

/-! ### addresses -/
def vfieldAddr (P : Program) (T : TypeId) (x : V) (f : Nat) : Option V :=
  (tyOf P T).bind fun t => match t.kd with
    | .struct fs _ => (fs[f]?).bind fun fi => if fi.size = 0 then none else match x with
      | .ptr l off => some (.ptr l (off + fi.off))
      | .eptr cs off => some (.eptr cs (off + fi.off))
      | _ => none
    | _ => none

theorem vfieldAddr_sound {P : Program} {T : TypeId} {f : Nat} {x v : V} {E : Env} {xv : Value} (hx : RepV E x xv) (h : vfieldAddr P T x f = some v) :
    ∃ val, (Instr.fieldAt T xv f).run P E.w = .ok val E.w ∧ RepV E v val := by
  simp only [vfieldAddr, Option.bind_eq_some_iff] at h
  obtain ⟨t, ht, h⟩ := h
  obtain ⟨_, d, _, hd, hk, _⟩ := tyOf_parts ht
  cases hkd : t.kd with
  | struct fs b =>
    rw [hkd] at hk h
    simp only [Option.bind_eq_some_iff] at h
    obtain ⟨fi, hfi, h⟩ := h
    split at h
    · cases h
    rename_i hsz
    cases d <;> simp [kdOf] at hk
    rename_i flds _
    obtain ⟨l, hl, ⟨rfl, _⟩⟩ := hk
    obtain ⟨fld, hfld, hof⟩ := fieldsOf_get hl hfi
    simp only [fieldOf, Option.bind_eq_some_iff, Option.map_eq_some_iff] at hof
    obtain ⟨i, hi, d, hd2, rfl⟩ := hof
    have hfld' : flds[f]? = some fld := by simpa using hfld
    have key : ∀ g o, (Instr.fieldAt T (.pointer (some ⟨g, o, none⟩)) f).run P E.w = .ok (.pointer (some ⟨g, o + fld.offset, none⟩)) E.w := by
      intro g o
      simp only at hsz
      simp [Instr.fieldAt, run_underlying hd, hfld', Instr.sureAddr, fieldPlace, run_sizeOf' hi, hsz, add_eq]
    cases hx with
    | ptr hg => cases h; exact ⟨_, key _ _, .ptr hg⟩
    | eptr r sg => cases h; exact ⟨_, key _ _, by rw [Nat.add_assoc]; exact .eptr r sg⟩
    | _ => simp at h
  | _ => rw [hkd] at h; simp at h

theorem flat_uniform {xs : List V} {sz : Nat} (h : ∀ x ∈ xs, x.cells.length = sz) : (V.flat xs).length = xs.length * sz := by
  induction xs with
  | nil => simp [V.flat]
  | cons x xs ih =>
    have h1 := h x (by simp)
    have h2 := ih (fun y hy => h y (by simp [hy]))
    simp only [V.flat, List.flatMap_cons, List.length_append, List.length_cons] at *
    rw [h1, h2, Nat.add_mul]
    omega

theorem flat_drop {xs : List V} {sz : Nat} (h : ∀ x ∈ xs, x.cells.length = sz) : ∀ (i : Nat), (V.flat xs).drop (i * sz) = V.flat (xs.drop i) := by
  induction xs with
  | nil => intro i; simp [V.flat]
  | cons x xs ih =>
    intro i
    have h1 := h x (by simp)
    cases i with
    | zero => simp
    | succ i =>
      have h2 := ih (fun y hy => h y (by simp [hy])) i
      rw [Nat.add_mul, Nat.one_mul, List.drop_succ_cons, ← h2, Nat.add_comm, ← List.drop_drop]
      congr 1
      have e : V.flat (x :: xs) = x.cells ++ V.flat xs := by simp [V.flat]
      rw [e, ← h1, List.drop_left]

theorem flat_take {xs : List V} {sz : Nat} (h : ∀ x ∈ xs, x.cells.length = sz) : ∀ (i : Nat), (V.flat xs).take (i * sz) = V.flat (xs.take i) := by
  induction xs with
  | nil => intro i; simp [V.flat]
  | cons x xs ih =>
    intro i
    have h1 := h x (by simp)
    cases i with
    | zero => simp [V.flat]
    | succ i =>
      have h2 := ih (fun y hy => h y (by simp [hy])) i
      have e : V.flat (x :: xs) = x.cells ++ V.flat xs := by simp [V.flat]
      have e2 : V.flat (x :: xs.take i) = x.cells ++ V.flat (xs.take i) := by simp [V.flat]
      rw [List.take_succ_cons, e, e2, List.take_append, Nat.add_mul, Nat.one_mul, h1, ← h2]
      congr 1
      · exact List.take_of_length_le (by omega)
      · congr 1
        omega

theorem Seg.drop {E : Env} {g off : Nat} {vals : List Value} (h : Seg E g off vals) (n : Nat) : Seg E g (off + n) (vals.drop n) := by
  intro j v hj
  rw [List.getElem?_drop] at hj
  have := h _ _ hj
  rwa [← Nat.add_assoc] at this

theorem Seg.take {E : Env} {g off : Nat} {vals : List Value} (h : Seg E g off vals) (n : Nat) : Seg E g off (vals.take n) := by
  intro j v hj
  rw [List.getElem?_take] at hj
  split at hj
  · exact h j v hj
  · cases hj

def vindexAddr (P : Program) (T : TypeId) (x i : V) : Option V :=
  (tyOf P T).bind fun t => match t.kd with
    | .slice e => (tyOf P e).bind fun te => match x, i with
      | .sl _ xs, .int _ n => if 0 ≤ n then (xs[n.toNat]?).bind fun y => if y.cells.length = te.size then some (.eptr y.cells 0) else none else none
      | .slm _ l off len, .int _ n => if 0 ≤ n ∧ n < len then some (.ptr l (off + n.toNat * te.size)) else none
      | _, _ => none
    | _ => none

theorem vindexAddr_sound {P : Program} {T : TypeId} {x i v : V} {E : Env} {xv iv : Value} (hx : RepV E x xv) (hi : RepV E i iv) (h : vindexAddr P T x i = some v) :
    ∃ val, (Instr.indexAt T xv iv).run P E.w = .ok val E.w ∧ RepV E v val := by
  simp only [vindexAddr, Option.bind_eq_some_iff] at h
  obtain ⟨t, ht, h⟩ := h
  obtain ⟨_, d, _, hd, hk, _⟩ := tyOf_parts ht
  cases hkd : t.kd with
  | slice e =>
    rw [hkd] at hk h
    simp only [Option.bind_eq_some_iff] at h
    obtain ⟨te, hte, h⟩ := h
    obtain ⟨ie, _, hie, _, _, hse, _⟩ := tyOf_parts hte
    have hd' : d = .slice e := by cases d <;> simp [kdOf] at hk; rw [hk]
    subst hd'
    have key : ∀ g o len cap (k : IntKind) (n : Int), 0 ≤ n → n < (len : Nat) → (Instr.indexAt T (.slice (some ⟨g, o, none⟩) len cap) (.int k n)).run P E.w = .ok (.pointer (some ⟨g, o + n.toNat * ie.size, none⟩)) E.w := by
      intro g o len cap k n h0 h1
      simp [Instr.indexAt, asIntOf, run_underlying hd, run_sizeOf' hie, h0, h1, add_eq]
    split at h
    · split at h
      case isFalse => cases h
      rename_i h0
      simp only [Option.bind_eq_some_iff] at h
      obtain ⟨y, hy, h⟩ := h
      split at h
      case isFalse => cases h
      rename_i hyl
      cases h
      cases hi
      rename_i id xs k n _ _
      have hlt : n.toNat < xs.length := (List.getElem?_eq_some_iff.1 hy).1
      cases hx with
      | @sl id' xs' vals g off cap sz a b c r s f =>
        refine ⟨_, key _ _ _ _ _ _ h0 (by omega), ?_⟩
        have hsz : sz = te.size := by rw [← hyl]; exact (a y (List.mem_of_getElem? hy)).symm
        subst hsz
        have hd1 : y.cells = ((V.flat xs).drop (n.toNat * te.size)).take te.size := by
          rw [flat_drop a]
          have e1 : xs.drop n.toNat = y :: xs.drop (n.toNat + 1) := by
            rw [List.drop_eq_getElem_cons hlt]
            rw [List.getElem?_eq_getElem hlt] at hy
            cases hy
            rfl
          rw [e1, ← hyl]
          simp [V.flat]
        rw [← hse, hd1]
        have := RepV.eptr (k := 0) ((r.drop (n.toNat * te.size)).take te.size) ((s.drop (n.toNat * te.size)).take te.size)
        simpa using this
      | slz => simp at hlt
    · split at h
      case isFalse => cases h
      rename_i h0
      cases h
      cases hi
      cases hx with
      | slm hl _ _ _ => exact ⟨_, key _ _ _ _ _ _ h0.1 h0.2, by rw [← hse]; exact .ptr hl⟩
    · cases h
  | _ => rw [hkd] at h; simp at h

/-! ### fields and parts of values; strings by index -/
def vfield (P : Program) (T : TypeId) (x : V) (f : Nat) : Option V :=
  (tyOf P T).bind fun t => match t.kd, x with
    | .struct fs _, .agg cs => (fs[f]?).bind fun fi => takeV cs fi.off fi.size fi.agg
    | _, _ => none

theorem vfield_sound {P : Program} {T : TypeId} {f : Nat} {x v : V} {E : Env} {xv : Value} (hx : RepV E x xv) (h : vfield P T x f = some v) :
    ∃ val, (Instr.field T xv f).run P E.w = .ok val E.w ∧ RepV E v val := by
  simp only [vfield, Option.bind_eq_some_iff] at h
  obtain ⟨t, ht, h⟩ := h
  obtain ⟨_, d, _, hd, hk, _⟩ := tyOf_parts ht
  split at h
  · rename_i fs b cs hkd
    rw [hkd] at hk
    simp only [Option.bind_eq_some_iff] at h
    obtain ⟨fi, hfi, h⟩ := h
    cases d <;> simp [kdOf] at hk
    rename_i flds _
    obtain ⟨l, hl, ⟨rfl, _⟩⟩ := hk
    obtain ⟨fld, hfld, hof⟩ := fieldsOf_get hl hfi
    simp only [fieldOf, Option.bind_eq_some_iff, Option.map_eq_some_iff] at hof
    obtain ⟨i, hi, d, hd2, rfl⟩ := hof
    have hfld' : flds[f]? = some fld := by simpa using hfld
    cases hx with
    | @agg cs vals r =>
      simp only [Instr.field, Sem.run_bind, run_underlying hd, Result.andThen_ok, hfld', asAgg, Sem.run_pure, part, run_isAgg hd2]
      simp only [takeV] at h
      split at h
      case isFalse => cases h
      rename_i hle
      split at h
      · rename_i ha
        cases h
        have e1 : vals.toArray.extract fld.offset (fld.offset + i.size) = ((vals.drop fld.offset).take i.size).toArray := by
          apply Array.ext'
          simp [List.take_drop]
        refine ⟨.agg (vals.toArray.extract fld.offset (fld.offset + i.size)), by simp [ha, run_sizeOf' hi], ?_⟩
        rw [e1]
        exact .agg ((r.drop _).take _)
      · rename_i ha
        obtain ⟨val, hv, hrep⟩ := r.get h
        refine ⟨val, ?_, hrep⟩
        simp [ha, hv]
  · cases h

def vindex (P : Program) (T : TypeId) (x i : V) : Option V :=
  (tyOf P T).bind fun t => match t.kd, x, i with
    | .string, .str s, .int _ n => if 0 ≤ n then (s[n.toNat]?).map fun b => .int .u8 b.toNat else none
    | _, _, _ => none

theorem vindex_sound {P : Program} {T : TypeId} {x i v : V} {E : Env} {xv iv : Value} (hx : RepV E x xv) (hi : RepV E i iv) (h : vindex P T x i = some v) :
    ∃ val, (Instr.index T xv iv).run P E.w = .ok val E.w ∧ RepV E v val := by
  simp only [vindex, Option.bind_eq_some_iff] at h
  obtain ⟨t, ht, h⟩ := h
  obtain ⟨_, d, _, hd, hk, _⟩ := tyOf_parts ht
  split at h
  · rename_i s k n hkd
    split at h
    case isFalse => cases h
    rename_i h0
    obtain ⟨b, hb, rfl⟩ := Option.map_eq_some_iff.1 h
    rw [hkd] at hk
    have : d = .string := by cases d <;> simp [kdOf] at hk; rfl
    subst this
    cases hi
    cases hx
    have hlt : n.toNat < s.length := (List.getElem?_eq_some_iff.1 hb).1
    have hb' : (⟨s.toArray⟩ : ByteArray)[n.toNat]? = some b := by
      have hs : n.toNat < (⟨s.toArray⟩ : ByteArray).size := by simpa [ByteArray.size] using hlt
      rw [getElem?_pos (⟨s.toArray⟩ : ByteArray) n.toNat hs]
      rw [List.getElem?_eq_getElem hlt] at hb
      cases hb
      rfl
    refine ⟨.int .u8 b.toNat, ?_, .int (by simp [IntKind.min, IntKind.signed]) ?_⟩
    · simp [Instr.index, asIntOf, run_underlying hd, h0, hb']
    · have := b.toNat_lt
      simp [IntKind.max, IntKind.signed, IntKind.bits]
      omega
  · cases h

/-! ### slices of strings and of slices -/
def bound (x : Option V) (dflt : Nat) : Option Nat :=
  match x with
  | none => some dflt
  | some (.int _ n) => if 0 ≤ n then some n.toNat else none
  | _ => none

def vslice (P : Program) (T : TypeId) (x : V) (lo hi mx : Option V) : Option V :=
  (tyOf P T).bind fun t => match t.kd, x, mx with
    | .string, .str s, none => (bound lo 0).bind fun l => (bound hi s.length).bind fun h => if l ≤ h ∧ h ≤ s.length then some (.str ((s.drop l).take (h - l))) else none
    | .slice e, .sl _ xs, none => (tyOf P e).bind fun te => (bound lo 0).bind fun l => (bound hi xs.length).bind fun h =>
      if l ≤ h ∧ h ≤ xs.length ∧ (l = 0 ∨ (xs.all fun x => decide (x.cells.length = te.size)) = true) then some (.sl 0 ((xs.drop l).take (h - l))) else none
    | .slice e, .nilsl, _ => (tyOf P e).bind fun _ => (bound lo 0).bind fun l => (bound hi 0).bind fun h => (bound mx 0).bind fun m => if l = 0 ∧ h = 0 ∧ m = 0 ∧ (hi.isSome || mx.isNone) = true then some .nilsl else none
    | .slice e, .sl _ xs, some m => (tyOf P e).bind fun _ => (bound lo 0).bind fun l => (bound hi xs.length).bind fun h => (bound (some m) 0).bind fun m => if l = 0 ∧ h = 0 ∧ m = 0 ∧ hi.isSome = true then some .zsl else none
    | _, _, _ => none

def RepO (E : Env) : Option V → Option Value → Prop
  | none, none => True
  | some v, some val => RepV E v val
  | _, _ => False

theorem run_sliceBound {P : Program} {E : Env} {x : V} {xv : Value} (hx : RepV E x xv) {d n : Nat} (h : bound (some x) d = some n) {y : Nat} (hy : n ≤ y) (c : BoundsCode) :
    (Instr.sliceBound xv y c).run P E.w = .ok n E.w := by
  unfold bound at h
  split at h
  · cases ‹some x = none›
  · rename_i k m e
    cases e
    split at h
    case isFalse => cases h
    cases h
    cases hx
    have : m ≤ (y : Int) := by omega
    simp [Instr.sliceBound, asIntOf, *]
  · cases h

theorem run_sliceBounds2 {P : Program} {E : Env} {lo hi : Option V} {lv hv : Option Value} (hlo : RepO E lo lv) (hhi : RepO E hi hv) {len cap l h : Nat} (e1 : bound lo 0 = some l) (e2 : bound hi len = some h)
    (h1 : l ≤ h) (h2 : h ≤ len) (h3 : len ≤ cap) (b : Bool) : (Instr.sliceBounds b len cap lv hv none).run P E.w = .ok (l, h, cap) E.w := by
  unfold Instr.sliceBounds
  cases hi with
  | none =>
    cases hv with
    | some _ => exact absurd hhi (by simp [RepO])
    | none =>
      cases e2
      cases lo with
      | none => cases lv with
        | some _ => exact absurd hlo (by simp [RepO])
        | none => cases e1; simp
      | some x => cases lv with
        | none => exact absurd hlo (by simp [RepO])
        | some xv => simp [run_sliceBound (P := P) hlo e1 h1]
  | some y =>
    cases hv with
    | none => exact absurd hhi (by simp [RepO])
    | some yv =>
      have k1 := run_sliceBound (P := P) hhi e2 (y := cap) (by omega)
      cases lo with
      | none => cases lv with
        | some _ => exact absurd hlo (by simp [RepO])
        | none => cases e1; simp [k1]
      | some x => cases lv with
        | none => exact absurd hlo (by simp [RepO])
        | some xv => simp [k1, run_sliceBound (P := P) hlo e1 h1]

theorem run_sliceBounds0 {P : Program} {E : Env} {lo hi mx : Option V} {lv hv mv : Option Value} (hlo : RepO E lo lv) (hhi : RepO E hi hv) (hmx : RepO E mx mv) {len cap a : Nat} (e1 : bound lo 0 = some 0) (e2 : bound hi len = some 0)
    (e3 : bound mx a = some 0) (hh : hi = none → mx = none) (hc : mx = none → cap = 0) (b : Bool) : (Instr.sliceBounds b len cap lv hv mv).run P E.w = .ok (0, 0, 0) E.w := by
  unfold Instr.sliceBounds
  cases mx with
  | none =>
    cases mv with
    | some _ => exact absurd hmx (by simp [RepO])
    | none =>
      have := hc rfl
      subst this
      cases hi with
      | none => cases hv with
        | some _ => exact absurd hhi (by simp [RepO])
        | none =>
          cases e2
          cases lo with
          | none => cases lv with
            | some _ => exact absurd hlo (by simp [RepO])
            | none => simp
          | some x => cases lv with
            | none => exact absurd hlo (by simp [RepO])
            | some xv => simp [run_sliceBound (P := P) hlo e1 (Nat.le_refl 0)]
      | some y => cases hv with
        | none => exact absurd hhi (by simp [RepO])
        | some yv =>
          have k1 := run_sliceBound (P := P) hhi e2 (Nat.le_refl 0)
          cases lo with
          | none => cases lv with
            | some _ => exact absurd hlo (by simp [RepO])
            | none => simp [k1]
          | some x => cases lv with
            | none => exact absurd hlo (by simp [RepO])
            | some xv => simp [k1, run_sliceBound (P := P) hlo e1 (Nat.le_refl 0)]
  | some m =>
    cases mv with
    | none => exact absurd hmx (by simp [RepO])
    | some mval =>
      have k0 := run_sliceBound (P := P) hmx e3 (Nat.zero_le cap)
      cases hi with
      | none => cases hh rfl
      | some y => cases hv with
        | none => exact absurd hhi (by simp [RepO])
        | some yv =>
          have k1 := run_sliceBound (P := P) hhi e2 (Nat.le_refl 0)
          cases lo with
          | none => cases lv with
            | some _ => exact absurd hlo (by simp [RepO])
            | none => simp [k0, k1]
          | some x => cases lv with
            | none => exact absurd hlo (by simp [RepO])
            | some xv => simp [k0, k1, run_sliceBound (P := P) hlo e1 (Nat.le_refl 0)]

end Go.Proofs.Ytejdgmdebfkkeaa
