/-
  More operations at the value level: slicing, len, max, min, structs and slices built, make. Own work; no condition.
-/
import Derived.Test.YtejdgmdebfkkeaaVOp3
namespace Go.Proofs.Ytejdgmdebfkkeaa
open Go

theorem vslice_sound {P : Program} {T : TypeId} {x v : V} {lo hi mx : Option V} {lv hv mv : Option Value} {E : Env} {xv : Value} (hx : RepV E x xv) (hlo : RepO E lo lv) (hhi : RepO E hi hv) (hmx : RepO E mx mv)
    (h : vslice P T x lo hi mx = some v) : ∃ val, (Instr.sliceAt T xv lv hv mv).run P E.w = .ok val E.w ∧ RepV E v val := by
  simp only [vslice, Option.bind_eq_some_iff] at h
  obtain ⟨t, ht, h⟩ := h
  obtain ⟨_, d, _, hd, hk, _⟩ := tyOf_parts ht
  split at h
  · rename_i s hkd
    simp only [Option.bind_eq_some_iff] at h
    obtain ⟨l, hl, n, hn, h⟩ := h
    split at h
    case isFalse => cases h
    rename_i hc
    cases h
    rw [hkd] at hk
    have : d = .string := by cases d <;> simp [kdOf] at hk; rfl
    subst this
    have hmv : mv = none := by cases mv with | none => rfl | some _ => exact absurd hmx (by simp [RepO])
    subst hmv
    cases hx with
    | str hlen =>
      have k := run_sliceBounds2 (P := P) hlo hhi hl hn hc.1 hc.2 (Nat.le_refl _) false
      have hsz : (⟨s.toArray⟩ : ByteArray).size = s.length := by simp [ByteArray.size]
      refine ⟨.string ⟨((s.drop l).take (n - l)).toArray⟩, ?_, .str (by simp; omega)⟩
      have hex : (⟨s.toArray⟩ : ByteArray).extract l n = ⟨((s.drop l).take (n - l)).toArray⟩ := by
        apply ByteArray.ext
        rw [ByteArray.data_extract]
        apply Array.ext'
        simp [List.take_drop]
      simp only [Instr.sliceAt, Sem.run_bind, run_underlying hd, Result.andThen_ok, Instr.slice, Option.isSome_none, Bool.false_eq_true, if_false, Sem.run_pure, hsz, k, hex]
  · rename_i e id xs hkd
    simp only [Option.bind_eq_some_iff] at h
    obtain ⟨te, hte, l, hl, n, hn, h⟩ := h
    split at h
    case isFalse => cases h
    rename_i hc
    cases h
    obtain ⟨ie, _, hie, _, _, hse, _⟩ := tyOf_parts hte
    rw [hkd] at hk
    have : d = .slice e := by cases d <;> simp [kdOf] at hk; rw [hk]
    subst this
    have hmv : mv = none := by cases mv with | none => rfl | some _ => exact absurd hmx (by simp [RepO])
    subst hmv
    obtain ⟨c1, c2, c3⟩ := hc
    cases hx with
    | @sl id' xs' vals g off cap sz a b c r sg f =>
      have k := run_sliceBounds2 (P := P) hlo hhi hl hn c1 c2 b true
      refine ⟨.slice (if cap = l then some ⟨g, off, none⟩ else some ⟨g, off + l * ie.size, none⟩) (n - l) (cap - l), ?_, ?_⟩
      · simp only [Instr.sliceAt, Sem.run_bind, run_underlying hd, Result.andThen_ok, Instr.slice, k, run_sizeOf' hie, Sem.run_pure, Option.map_some, add_eq]
      · have hlen : ((xs.drop l).take (n - l)).length = n - l := by simp; omega
        by_cases hz : n = l
        · subst hz
          have e1 : (xs.drop n).take (n - n) = [] := by simp
          rw [e1, Nat.sub_self]
          by_cases hz2 : cap = n
          · rw [hz2, Nat.sub_self]; exact .slz (.inl rfl)
          · rw [if_neg hz2]
            have := RepV.sl (E := E) (id := 0) (xs := []) (vals := []) (g := g) (off := off + n * ie.size) (cap := cap - n) (sz := sz) (by simp) (by simp) (by omega) (by simpa [V.flat] using RepL.nil) (by intro j v hj; simp at hj) (.inl rfl)
            simpa using this
        · have hne : cap ≠ l := by omega
          have hoff : l * ie.size = l * sz := by
            rcases c3 with e0 | e0
            · simp [e0]
            · have hx0 : xs[l]'(by omega) ∈ xs := List.getElem_mem _
              have := List.all_eq_true.1 e0 _ hx0
              rw [← hse, ← of_decide_eq_true this, a _ hx0]
          rw [if_neg hne, hoff]
          have e2 : V.flat ((xs.drop l).take (n - l)) = ((V.flat xs).drop (l * sz)).take ((n - l) * sz) := by
            rw [flat_drop a, flat_take (fun x hx => a x (List.mem_of_mem_drop hx))]
          have e3 := RepV.sl (E := E) (id := 0) (xs := (xs.drop l).take (n - l)) (vals := (vals.drop (l * sz)).take ((n - l) * sz)) (g := g) (off := off + l * sz) (cap := cap - l) (sz := sz)
            (fun x hx => a x (List.mem_of_mem_drop (List.mem_of_mem_take hx))) (by rw [hlen]; omega) (by omega) (by rw [e2]; exact (r.drop _).take _) ((sg.drop _).take _) (.inl rfl)
          rw [hlen] at e3
          exact e3
    | slz f =>
      simp at c2
      subst c2
      have c1' : l = 0 := by omega
      subst c1'
      have k := run_sliceBounds2 (P := P) hlo hhi hl (show bound hi 0 = some 0 from hn) (Nat.le_refl 0) (Nat.le_refl 0) (Nat.le_refl 0) true
      refine ⟨_, by simp only [Instr.sliceAt, Sem.run_bind, run_underlying hd, Result.andThen_ok, Instr.slice, k, run_sizeOf' hie, Sem.run_pure]; rfl, ?_⟩
      simpa using RepV.slz (E := E) (id := 0) (.inl rfl)
  · rename_i e hkd
    simp only [Option.bind_eq_some_iff] at h
    obtain ⟨te, hte, l, hl, n, hn, m, hm, h⟩ := h
    split at h
    case isFalse => cases h
    rename_i hc
    cases h
    obtain ⟨ie, _, hie, _, _, hse, _⟩ := tyOf_parts hte
    rw [hkd] at hk
    have : d = .slice e := by cases d <;> simp [kdOf] at hk; rw [hk]
    subst this
    obtain ⟨rfl, rfl, rfl, c4⟩ := hc
    cases hx with
    | nilsl =>
      have k := run_sliceBounds0 (P := P) hlo hhi hmx (len := 0) (cap := 0) hl hn hm (fun e1 => by subst e1; simpa using c4) (fun _ => rfl) true
      refine ⟨_, by simp only [Instr.sliceAt, Sem.run_bind, run_underlying hd, Result.andThen_ok, Instr.slice, k, run_sizeOf' hie, Sem.run_pure]; rfl, ?_⟩
      simpa using RepV.nilsl
  · rename_i e id xs m0 hkd
    simp only [Option.bind_eq_some_iff] at h
    obtain ⟨te, hte, l, hl, n, hn, m, hm, h⟩ := h
    split at h
    case isFalse => cases h
    rename_i hc
    cases h
    obtain ⟨ie, _, hie, _, _, hse, _⟩ := tyOf_parts hte
    rw [hkd] at hk
    have : d = .slice e := by cases d <;> simp [kdOf] at hk; rw [hk]
    subst this
    obtain ⟨rfl, rfl, rfl, c4⟩ := hc
    cases hx with
    | @sl id' xs' vals g off cap sz a b c r sg f =>
      have k := run_sliceBounds0 (P := P) hlo hhi hmx (len := xs.length) (cap := cap) hl hn hm (fun e1 => by subst e1; simp at c4) (fun e => by cases e) true
      refine ⟨_, by simp only [Instr.sliceAt, Sem.run_bind, run_underlying hd, Result.andThen_ok, Instr.slice, k, run_sizeOf' hie, Sem.run_pure]; rfl, ?_⟩
      simpa using RepV.zsl
    | slz f =>
      have k := run_sliceBounds0 (P := P) hlo hhi hmx (len := 0) (cap := 0) hl (show bound hi 0 = some 0 from hn) hm (fun e1 => by subst e1; simp at c4) (fun _ => rfl) true
      refine ⟨_, by simp only [Instr.sliceAt, Sem.run_bind, run_underlying hd, Result.andThen_ok, Instr.slice, k, run_sizeOf' hie, Sem.run_pure]; rfl, ?_⟩
      simpa using RepV.zsl
  · cases h

/-! ### len, max, min, extract, functions -/
def vlen (P : Program) (T : TypeId) (x : V) : Option V :=
  (tyOf P T).bind fun t => match t.kd, x with
    | .string, .str s => some (.int .i64 s.length)
    | .slice _, .sl _ xs => some (.int .i64 xs.length)
    | .slice _, .nilsl => some (.int .i64 0)
    | .slice _, .zsl => some (.int .i64 0)
    | .slice _, .slm _ _ _ n => some (.int .i64 n)
    | _, _ => none

theorem len_rep {E : Env} {n : Nat} (h : n ≤ maxLen) : RepV E (.int .i64 n) (.int .i64 n) := by
  have h1 : IntKind.i64.min = -9223372036854775808 := by decide
  have h2 : IntKind.i64.max = 9223372036854775807 := by decide
  unfold maxLen at h
  exact .int (by rw [h1]; omega) (by rw [h2]; omega)

theorem vlen_sound {P : Program} {T ty : TypeId} {x v : V} {E : Env} {xv : Value} (hx : RepV E x xv) (h : vlen P T x = some v) :
    ∃ val, (Builtin.len_ #[T] ty #[xv]).run P E.w = .ok val E.w ∧ RepV E v val := by
  simp only [vlen, Option.bind_eq_some_iff] at h
  obtain ⟨t, ht, h⟩ := h
  obtain ⟨_, d, _, hd, hk, _⟩ := tyOf_parts ht
  split at h
  · rename_i s hkd
    cases h
    rw [hkd] at hk
    have : d = .string := by cases d <;> simp [kdOf] at hk; rfl
    subst this
    cases hx with
    | str hl => exact ⟨_, by simp [Builtin.len_, run_underlying hd, goInt]; rfl, by simpa [ByteArray.size] using len_rep hl⟩
  all_goals first | (cases h; done) | skip
  all_goals
    rename_i hkd
    rw [hkd] at hk
    cases h
  · rename_i e id xs
    have hd' : d = .slice e := by cases d <;> simp [kdOf] at hk; rw [hk]
    subst hd'
    cases hx with
    | sl a b c => exact ⟨_, by simp [Builtin.len_, run_underlying hd, goInt], len_rep (by omega)⟩
    | slz => exact ⟨_, by simp [Builtin.len_, run_underlying hd, goInt], len_rep (Nat.zero_le _)⟩
  · rename_i e
    have hd' : d = .slice e := by cases d <;> simp [kdOf] at hk; rw [hk]
    subst hd'
    cases hx
    exact ⟨_, by simp [Builtin.len_, run_underlying hd, goInt], len_rep (Nat.zero_le _)⟩
  · rename_i e
    have hd' : d = .slice e := by cases d <;> simp [kdOf] at hk; rw [hk]
    subst hd'
    cases hx
    exact ⟨_, by simp [Builtin.len_, run_underlying hd, goInt], len_rep (Nat.zero_le _)⟩
  · rename_i e x l o n
    have hd' : d = .slice e := by cases d <;> simp [kdOf] at hk; rw [hk]
    subst hd'
    cases hx with
    | slm a b c _ => exact ⟨_, by simp [Builtin.len_, run_underlying hd, goInt], len_rep (by omega)⟩

def vmax (x y : V) : Option V :=
  match x, y with
  | .int k a, .int k' b => if k = k' then some (.int k (if b > a then b else a)) else none
  | _, _ => none

theorem vmax_sound {P : Program} {x y v : V} {ty : TypeId} {A : Array TypeId} {E : Env} {xv yv : Value} (hx : RepV E x xv) (hy : RepV E y yv) (h : vmax x y = some v) :
    ∃ val, (Builtin.max_ A ty #[xv, yv]).run P E.w = .ok val E.w ∧ RepV E v val := by
  unfold vmax at h
  split at h
  · split at h
    case isFalse => cases h
    rename_i hk
    subst hk
    cases h
    cases hx with
    | int l1 l2 => cases hy with
      | int m1 m2 =>
        refine ⟨_, by simp [Builtin.max_, Builtin.max2]; rfl, ?_⟩
        split
        · exact .int m1 m2
        · exact .int l1 l2
  · cases h

def vmin (x y : V) : Option V :=
  match x, y with
  | .int k a, .int k' b => if k = k' then some (.int k (if b < a then b else a)) else none
  | _, _ => none

theorem vmin_sound {P : Program} {x y v : V} {ty : TypeId} {A : Array TypeId} {E : Env} {xv yv : Value} (hx : RepV E x xv) (hy : RepV E y yv) (h : vmin x y = some v) :
    ∃ val, (Builtin.min_ A ty #[xv, yv]).run P E.w = .ok val E.w ∧ RepV E v val := by
  unfold vmin at h
  split at h
  · split at h
    case isFalse => cases h
    rename_i hk
    subst hk
    cases h
    cases hx with
    | int l1 l2 => cases hy with
      | int m1 m2 =>
        refine ⟨_, by simp [Builtin.min_, Builtin.min2]; rfl, ?_⟩
        split
        · exact .int m1 m2
        · exact .int l1 l2
  · cases h

def vextract (x : V) (i : Nat) : Option V :=
  match x with
  | .tup vs => vs[i]?
  | _ => none

theorem vextract_sound {P : Program} {x v : V} {i : Nat} {E : Env} {xv : Value} (hx : RepV E x xv) (h : vextract x i = some v) : ∃ val, (Instr.extract xv i).run P E.w = .ok val E.w ∧ RepV E v val := by
  unfold vextract at h
  split at h
  · cases hx with
    | tup r =>
      obtain ⟨val, hv, hr⟩ := r.get h
      exact ⟨val, by simp [Instr.extract, hv], hr⟩
  · cases h

/-! ### structs and slices built -/
def vfill (place : Nat → Option (Nat × Nat)) (cells : List V) : List (Nat × V) → Option (List V)
  | [] => some cells
  | (i, v) :: rest => (place i).bind fun p => if v.cells.length = p.2 ∧ p.1 + p.2 ≤ cells.length then vfill place (splice cells p.1 v.cells) rest else none

theorem foldl_set (cs : List Value) : ∀ (off k : Nat) (A : Array Value), off + k + cs.length ≤ A.size →
    (cs.zipIdx k).foldl (fun a x => a.setIfInBounds (off + x.2) x.1) A = (A.toList.take (off + k) ++ cs ++ A.toList.drop (off + k + cs.length)).toArray := by
  induction cs with
  | nil => intro off k A _; simp
  | cons c cs ih =>
    intro off k A h
    simp only [List.length_cons] at *
    rw [List.zipIdx_cons, List.foldl_cons, ih off (k + 1) _ (by simp only [Array.size_setIfInBounds]; omega)]
    simp only [Array.toList_setIfInBounds]
    have := list_seg_step A.toList (off + k) c cs (by simp only [Array.length_toList]; omega)
    rw [← Nat.add_assoc] at this ⊢
    rw [this]
    rfl

inductive RepP (E : Env) : List (Nat × V) → List (Nat × Value) → Prop
  | nil : RepP E [] []
  | cons {i v val ps qs} : RepV E v val → RepP E ps qs → RepP E ((i, v) :: ps) ((i, val) :: qs)

theorem vfill_sound {E : Env} {place : Nat → Option (Nat × Nat)} : ∀ {parts : List (Nat × V)} {pv : List (Nat × Value)} {cells cs : List V} {cv : List Value}, RepP E parts pv →
    RepL E cells cv → vfill place cells parts = some cs → ∃ A, Instr.fill place cv.toArray pv = some A ∧ RepL E cs A.toList := by
  intro parts
  induction parts with
  | nil => intro pv cells cs cv hp r h; cases hp; cases h; exact ⟨_, rfl, by simpa using r⟩
  | cons p parts ih =>
    intro pv cells cs cv hp r h
    cases hp with
    | @cons i v val _ qs hv hps =>
      simp only [vfill, Option.bind_eq_some_iff] at h
      obtain ⟨⟨off, size⟩, hpl, h⟩ := h
      split at h
      case isFalse => cases h
      rename_i hc
      simp only at hc
      obtain ⟨c1, c2⟩ := hc
      have hvc := hv.cells
      have l1 := hvc.length
      have l2 := r.length
      have hrep : RepL E (splice cells off v.cells) (cv.take off ++ val.cells.toList ++ cv.drop (off + val.cells.toList.length)) := by
        unfold splice
        rw [l1]
        exact ((r.take off).append hvc).append (r.drop _)
      obtain ⟨A, hA, hAr⟩ := ih hps hrep h
      refine ⟨A, ?_, hAr⟩
      have hzip : ∀ A : Array Value, Array.foldl (fun a x => a.setIfInBounds (off + x.2) x.1) A val.cells.zipIdx = (val.cells.toList.zipIdx 0).foldl (fun a x => a.setIfInBounds (off + x.2) x.1) A := fun A => by
        rw [← Array.foldl_toList, Array.toList_zipIdx]
      have hfold := foldl_set val.cells.toList off 0 cv.toArray (by simp only [Nat.add_zero, List.size_toArray]; omega)
      simp only [Nat.add_zero] at hfold
      have hb1 : val.cells.size = size := by simp only [Array.length_toList] at l1; omega
      have hb2 : ¬ (off + size > cv.toArray.size) := by simp only [List.size_toArray]; omega
      simp only [Instr.fill, hpl]
      rw [if_neg (by rw [hb1]; simpa using hb2), hzip, hfold]
      exact hA

end Go.Proofs.Ytejdgmdebfkkeaa
