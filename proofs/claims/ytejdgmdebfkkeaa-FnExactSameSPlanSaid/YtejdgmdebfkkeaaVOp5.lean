/-
  Operations that make memory: structs built, slices built and made, append; bytes and strings. Own work; no condition.
-/
import Derived.Test.YtejdgmdebfkkeaaVOp4
namespace Go.Proofs.Ytejdgmdebfkkeaa
open Go

/-! ### structs built -/
def placeS (fs : List FieldI) (i : Nat) : Option (Nat × Nat) := (fs[i]?).map fun f => (f.off, f.size)

def vbuild (P : Program) (T : TypeId) (parts : List (Nat × V)) : Option V :=
  (tyOf P T).bind fun t => match t.kd with
    | .struct fs _ => if t.zero.length = t.size ∧ 0 < t.size then (vfill (placeS fs) t.zero parts).map .agg else none
    | _ => none

theorem fieldsOf_length {P : Program} : ∀ {fs : List Field} {l : List FieldI}, fieldsOf P fs = some l → l.length = fs.length
  | [], l, h => by cases h; rfl
  | f :: fs, l, h => by
    simp only [fieldsOf, Option.bind_eq_some_iff, Option.map_eq_some_iff] at h
    obtain ⟨x, hx, r, hr, rfl⟩ := h
    simp [fieldsOf_length hr]

theorem run_places {P : Program} {w : World} : ∀ {fs : List Field} {l : List FieldI}, fieldsOf P fs = some l →
    (fs.mapM (fun f => do pure (f.offset, ← sizeOf f.type) : Field → Sem (Nat × Nat))).run P w = .ok (l.map fun f => (f.off, f.size)) w
  | [], l, h => by cases h; simp
  | f :: fs, l, h => by
    simp only [fieldsOf, Option.bind_eq_some_iff, Option.map_eq_some_iff] at h
    obtain ⟨x, hx, r, hr, rfl⟩ := h
    simp only [fieldOf, Option.bind_eq_some_iff, Option.map_eq_some_iff] at hx
    obtain ⟨i, hi, d, hd, rfl⟩ := hx
    have ih := run_places (w := w) hr
    simp only [List.mapM_cons, Sem.run_bind, run_sizeOf' hi, Result.andThen_ok, Sem.run_pure, List.map_cons]
    rw [ih]
    simp

theorem vbuild_sound {P : Program} {T : TypeId} {parts : List (Nat × V)} {pv : List (Nat × Value)} {v : V} {E : Env} (hp : RepP E parts pv) (h : vbuild P T parts = some v) :
    ∃ val, (Instr.build T pv.toArray).run P E.w = .ok val E.w ∧ RepV E v val := by
  simp only [vbuild, Option.bind_eq_some_iff] at h
  obtain ⟨t, ht, h⟩ := h
  obtain ⟨_, d, _, hd, hk, _⟩ := tyOf_parts ht
  split at h
  case h_2 => cases h
  rename_i fs b hkd
  split at h
  case isFalse => cases h
  rename_i h0
  obtain ⟨cs, hcs, rfl⟩ := Option.map_eq_some_iff.1 h
  obtain ⟨i, z, hi, hz, hs, hzs, hrep⟩ := zero_rep ht h0
  rw [hkd] at hk
  cases d <;> simp [kdOf] at hk
  rename_i flds _
  obtain ⟨l, hl, ⟨rfl, _⟩⟩ := hk
  have hpl := run_places (P := P) (w := E.w) hl
  obtain ⟨A, hA, hAr⟩ := vfill_sound hp (hrep E) hcs
  have hplace : (fun i => ((l.map fun f => (f.off, f.size)).toArray)[i]?) = placeS l := by
    funext i
    simp [placeS]
  refine ⟨.agg A, ?_, by simpa using RepV.agg hAr⟩
  have hmap : (flds.mapM (fun f => do pure (f.offset, ← sizeOf f.type) : Field → Sem (Nat × Nat))).run P E.w = .ok (l.map fun f => (f.off, f.size)).toArray E.w := by
    rw [← Array.toArray_toList (xs := flds), List.mapM_toArray]
    simp only [Sem.run_map, hpl, Result.andThen_ok]
  simp only [Instr.build, Sem.run_bind, zeroValue, run_typeInfo' hi, Result.andThen_ok, hz, Sem.run_pure, run_underlying hd, hmap, hplace]
  rw [Array.toArray_toList] at hA
  simp only [hA, Sem.run_pure]

/-! ### slices built and made -/
def chunkV (sz : Nat) (agg : Bool) : Nat → List V → List V
  | 0, _ => []
  | n + 1, cs => (if agg then .agg (cs.take sz) else cs.headD .und) :: chunkV sz agg n (cs.drop sz)

/-- The cells of an element are cells. -/
def chunkOk (sz : Nat) (agg : Bool) (cs : List V) : Bool := agg || (sz == 1 && cs.all V.one)

theorem one_cells {v : V} (h : v.one = true) : v.cells = [v] := by
  cases v <;> simp_all [V.one, V.cells]

theorem chunkV_spec {sz : Nat} {agg : Bool} : ∀ {n : Nat} {cs : List V}, cs.length = n * sz → chunkOk sz agg cs = true → 0 < sz →
    (chunkV sz agg n cs).length = n ∧ V.flat (chunkV sz agg n cs) = cs ∧ ∀ x ∈ chunkV sz agg n cs, x.cells.length = sz
  | 0, cs, hl, _, _ => by
    have : cs = [] := List.eq_nil_of_length_eq_zero (by omega)
    subst this
    simp [chunkV, V.flat]
  | n + 1, cs, hl, hok, h0 => by
    rw [Nat.add_mul, Nat.one_mul] at hl
    have hok' : chunkOk sz agg (cs.drop sz) = true := by
      simp only [chunkOk, Bool.or_eq_true, Bool.and_eq_true, List.all_eq_true] at *
      rcases hok with h | ⟨h1, h2⟩
      · exact .inl h
      · exact .inr ⟨h1, fun x hx => h2 x (List.mem_of_mem_drop hx)⟩
    obtain ⟨i1, i2, i3⟩ := chunkV_spec (n := n) (cs := cs.drop sz) (by simp; omega) hok' h0
    have hhead : (if agg then V.agg (cs.take sz) else cs.headD .und).cells = cs.take sz := by
      cases agg with
      | true => rfl
      | false =>
        simp only [chunkOk, Bool.false_or, Bool.and_eq_true, beq_iff_eq, List.all_eq_true] at hok
        obtain ⟨rfl, h2⟩ := hok
        cases cs with
        | nil => simp at hl
        | cons c cs => simpa using one_cells (h2 c (by simp))
    refine ⟨by simp [chunkV, i1], ?_, ?_⟩
    · show ((if agg then V.agg (cs.take sz) else cs.headD .und) :: chunkV sz agg n (cs.drop sz)).flatMap V.cells = cs
      rw [List.flatMap_cons, hhead]
      have : (chunkV sz agg n (cs.drop sz)).flatMap V.cells = cs.drop sz := i2
      rw [this, List.take_append_drop]
    · intro x hx
      simp only [chunkV, List.mem_cons] at hx
      rcases hx with rfl | hx
      · rw [hhead, List.length_take]
        omega
      · exact i3 x hx

theorem range_mod (z : Array Value) (hz : 0 < z.size) : ∀ n, ((Array.range (n * z.size)).map (z[· % z.size]!)).toList = (List.replicate n z.toList).flatten
  | 0 => by simp
  | n + 1 => by
    have ih := range_mod z hz n
    simp only [Array.toList_map, Array.toList_range] at *
    rw [Nat.add_mul, Nat.one_mul, List.range_add, List.map_append, ih, List.replicate_succ', List.flatten_append]
    congr 1
    simp only [List.map_map, List.flatten_cons, List.flatten_nil, List.append_nil]
    apply List.ext_getElem?
    intro i
    by_cases hi : i < z.size
    · have e1 : (n * z.size + i) % z.size = i := by
        rw [Nat.mul_comm, Nat.mul_add_mod, Nat.mod_eq_of_lt hi]
      simp [hi, e1]
    · simp [hi]

theorem RepL.replicate {E : Env} {z : List V} {zv : List Value} (h : RepL E z zv) : ∀ n, RepL E (List.replicate n z).flatten (List.replicate n zv).flatten
  | 0 => by simpa using RepL.nil
  | n + 1 => by simpa [List.replicate_succ] using h.append (RepL.replicate h n)

theorem length_replicate_flatten {α : Type} (z : List α) (n : Nat) : (List.replicate n z).flatten.length = n * z.length := by
  simp

def vbuildSlice (P : Program) (T : TypeId) (len : Nat) (parts : List (Nat × V)) (s : S) : Option (V × S) :=
  (tyOf P T).bind fun t => match t.kd with
    | .slice e => (tyOf P e).bind fun te => if te.zero.length = te.size ∧ 0 < te.size ∧ len * te.size ≤ 16777216 then
        (vfill (fun i => some (i * te.size, te.size)) (List.replicate len te.zero).flatten parts).bind fun cs =>
          if len = 0 then some (.zsl, s) else if chunkOk te.size te.agg cs = true then some (.sl s.next (chunkV te.size te.agg len cs), s.newFam len te.size) else none
      else none
    | _ => none

theorem vfill_length {place : Nat → Option (Nat × Nat)} : ∀ {parts : List (Nat × V)} {cells cs : List V}, vfill place cells parts = some cs → cs.length = cells.length
  | [], cells, cs, h => by cases h; rfl
  | (i, v) :: rest, cells, cs, h => by
    simp only [vfill, Option.bind_eq_some_iff] at h
    obtain ⟨⟨off, size⟩, _, h⟩ := h
    split at h
    case isFalse => cases h
    rename_i hc
    rw [vfill_length h]
    unfold splice
    simp only [List.length_append, List.length_take, List.length_drop] at *
    omega

/-- A new block of cells that are held for good. -/
theorem step_newFam {E : Env} {s : S} (hr : RelS E s) {n sz cap : Nat} {arr : Array Value} {e : TypeId} (hc : n ≤ cap) (hm : cap ≤ maxLen) (ha : cap * sz ≤ arr.size) :
    Step E s (E.grow (E.w.alloc (.cells arr e)) s.next E.w.heap.size (n * sz) ⟨n, some E.w.heap.size, cap, sz⟩) (s.newFam n sz) ∧
    RelS (E.grow (E.w.alloc (.cells arr e)) s.next E.w.heap.size (n * sz) ⟨n, some E.w.heap.size, cap, sz⟩) (s.newFam n sz) := by
  refine step_grow hr (.inr ⟨rfl, rfl⟩) rfl rfl rfl (by simp) rfl rfl rfl hc hm (heap_alloc_new _ _) ha (fun o _ h => by omega) (fun k hk _ => ?_) (.inl (Nat.le_refl _)) (fun F0 h0 => ?_)
  · show (E.w.heap.push _)[k]? = _
    rw [Array.getElem?_push, if_neg (by omega)]
  · rw [(hr.fresh s.next (Nat.le_refl _)).2] at h0
    cases h0

theorem vbuildSlice_sound {P : Program} {T : TypeId} {len : Nat} {parts : List (Nat × V)} {pv : List (Nat × Value)} {v : V} {s s' : S} {E : Env} (hr : RelS E s) (hp : RepP E parts pv) (h : vbuildSlice P T len parts s = some (v, s')) :
    Does P (Instr.buildSlice T len pv.toArray) E s v s' := by
  simp only [vbuildSlice, Option.bind_eq_some_iff] at h
  obtain ⟨t, ht, h⟩ := h
  obtain ⟨_, d, _, hd, hk, _⟩ := tyOf_parts ht
  split at h
  case h_2 => cases h
  rename_i e hkd
  rw [hkd] at hk
  have : d = .slice e := by cases d <;> simp [kdOf] at hk; rw [hk]
  subst this
  simp only [Option.bind_eq_some_iff] at h
  obtain ⟨te, hte, h⟩ := h
  split at h
  case isFalse => cases h
  rename_i h0
  obtain ⟨h01, h02, h03⟩ := h0
  obtain ⟨cs, hcs, h4⟩ := Option.bind_eq_some_iff.1 h
  clear h
  obtain ⟨i, z, hi, hz, hs, hzs, hrep⟩ := zero_rep hte ⟨h01, h02⟩
  have hzr := (hrep E).replicate len
  obtain ⟨A, hA, hAr⟩ := vfill_sound hp hzr hcs
  have hlcs := vfill_length hcs
  rw [length_replicate_flatten, h01] at hlcs
  have hAl := hAr.length
  have hnot : ¬ (len * i.size > 2 ^ 24) := by rw [← hs]; omega
  have hmod := range_mod z.cells (by omega) len
  rw [hzs] at hmod
  have hplace : (fun j => some (j * i.size, i.size)) = (fun j => some (j * te.size, te.size)) := by rw [hs]
  have hrun : (Instr.buildSlice T len pv.toArray).run P E.w = .ok (.slice (some ⟨E.w.heap.size, 0, none⟩) len len) (E.w.alloc (.cells A e)) := by
    simp only [Instr.buildSlice, Sem.run_bind, run_underlying hd, Result.andThen_ok, run_sizeOf' hi, hnot, if_false, hplace]
    by_cases hl0 : len * i.size = 0
    · have : len = 0 := by
        rcases Nat.mul_eq_zero.1 hl0 with h | h
        · exact h
        · omega
      subst this
      have hA' : Instr.fill (fun i => some (i * te.size, te.size)) #[] pv = some A := by simpa using hA
      have hm0 : ∀ f : Nat → Value, (Array.range 0).map f = #[] := fun f => by simp
      simp only [Nat.zero_mul, if_true, Sem.run_bind, Sem.run_pure, Result.andThen_ok, hm0, hA', newRow, run_newObj_alloc]
    · have hm2 : (Array.range (len * i.size)).map (z.cells[· % z.cells.size]!) = (List.replicate len z.cells.toList).flatten.toArray := by
        apply Array.ext'
        rw [hzs, hmod]
      simp only [hl0, if_false, Sem.run_bind, zeroValue, run_typeInfo' hi, Result.andThen_ok, hz, Sem.run_pure, hm2, hA, newRow, run_newObj_alloc]
  split at h4
  · rename_i hl0
    subst hl0
    cases h4
    obtain ⟨k1, k2⟩ := step_raw hr (.cells A e)
    exact ⟨_, _, hrun, k1, k2, .zsl⟩
  · split at h4
    case isFalse => cases h4
    rename_i hok
    cases h4
    have hAs : A.size = len * te.size := by simp only [Array.length_toList] at hAl; omega
    have hmx : len ≤ maxLen := by
      have : len ≤ len * te.size := Nat.le_mul_of_pos_right _ h02
      unfold maxLen
      omega
    obtain ⟨k1, k2⟩ := step_newFam (e := e) hr (Nat.le_refl len) hmx (Nat.le_of_eq hAs.symm)
    obtain ⟨c1, c2, c3⟩ := chunkV_spec hlcs hok h02
    refine ⟨_, _, hrun, k1, k2, ?_⟩
    have := RepV.sl (E := E.grow (E.w.alloc (.cells A e)) s.next E.w.heap.size (len * te.size) ⟨len, some E.w.heap.size, len, te.size⟩) (id := s.next) (xs := chunkV te.size te.agg len cs) (vals := A.toList) (g := E.w.heap.size) (off := 0) (cap := len) c3
      (by rw [c1]; exact Nat.le_refl _) hmx (by rw [c2]; exact hAr.evolve k1.ev) (fun j x hj => ⟨.inr ⟨rfl, ?_⟩, ?_⟩) (.inr ⟨⟨len, some E.w.heap.size, len, te.size⟩, by simp [Env.grow], by rw [c1]; exact Nat.le_refl _, fun _ => ⟨rfl, rfl, rfl, rfl⟩⟩)
    · rwa [c1] at this
    · have := (List.getElem?_eq_some_iff.1 hj).1
      simp only [Array.length_toList] at this
      omega
    · show (E.w.alloc (.cells A e)).cell? _ = _
      rw [World.cell?_alloc_new, Nat.zero_add]
      simpa using hj

end Go.Proofs.Ytejdgmdebfkkeaa
