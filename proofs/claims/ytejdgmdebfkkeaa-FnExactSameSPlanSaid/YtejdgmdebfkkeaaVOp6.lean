/-
  make and append at the value level. Own work; no condition.
-/
import Derived.Test.YtejdgmdebfkkeaaVOp5
namespace Go.Proofs.Ytejdgmdebfkkeaa
open Go

/-! ### make -/
def vmake (P : Program) (T : TypeId) (x y : V) (s : S) : Option (V × S) :=
  (tyOf P T).bind fun t => match t.kd, x, y with
    | .slice e, .int _ n, .int _ m => (tyOf P e).bind fun te =>
      if te.zero.length = te.size ∧ 0 < te.size ∧ 0 ≤ n ∧ n ≤ m ∧ m ≤ 140737488355328 ∧ te.bytes * m ≤ 140737488355328 then
        if n = m then some (.slm true s.next 0 n.toNat, s.newVar (List.replicate n.toNat te.zero).flatten)
        else if n = 0 then some (.sl s.next [], s.newFam 0 te.size) else none
      else none
    | _, _, _ => none

theorem run_makeSlice' {P : Program} {T e : TypeId} {i : TypeInfo} {z : Value} {w : World} {n m : Int} (hd : P.underlying T = some (.slice e)) (hi : P.info? e = some i) (hz : i.zero = some z) (hzs : z.cells.size = i.size)
    (h0 : 0 < i.size) (h1 : 0 ≤ n) (h2 : n ≤ m) (h3 : m ≤ 140737488355328) (h4 : i.bytes * m ≤ 140737488355328) (k k' : IntKind) :
    (Instr.makeSlice T (.int k n) (.int k' m)).run P w = .ok (.slice (some ⟨w.heap.size, 0, none⟩) n.toNat m.toNat) (w.alloc (.cells (List.replicate m.toNat z.cells.toList).flatten.toArray e)) := by
  have wn : IntKind.i64.wrap n = n := by rw [IntKind.wrap_i64]; omega
  have wm : IntKind.i64.wrap m = m := by rw [IntKind.wrap_i64]; omega
  have hmod := range_mod z.cells (by omega) m.toNat
  rw [hzs] at hmod
  have c1 : ¬ m < 0 := by omega
  have c2 : ¬ ((i.bytes : Int) * m > 2 ^ 48) := by omega
  have c3 : ¬ n < 0 := by omega
  have c4 : ¬ n > m := by omega
  have c5 : (decide (m < 0) || decide ((i.bytes : Int) * m > 2 ^ 48) || decide (n < 0) || decide (n > m)) = false := by
    simp only [decide_eq_false c1, decide_eq_false c2, decide_eq_false c3, decide_eq_false c4, Bool.or_false]
  simp only [Instr.makeSlice, Sem.run_bind, run_underlying hd, Result.andThen_ok, asInt, asIntOf, Sem.run_pure, run_typeInfo' hi, wn, wm, c5, Bool.false_eq_true, if_false, run_askRoom, run_sizeOf' hi]
  by_cases hl0 : m.toNat * i.size = 0
  · have : m.toNat = 0 := by
      rcases Nat.mul_eq_zero.1 hl0 with h | h
      · exact h
      · omega
    have hm0 : ∀ f : Nat → Value, (Array.range 0).map f = #[] := fun f => by simp
    simp only [this, Nat.zero_mul, if_true, Sem.run_bind, Sem.run_pure, Result.andThen_ok, hm0, newRow, run_newObj_alloc, List.replicate_zero, List.flatten_nil]
  · have hm2 : (Array.range (m.toNat * i.size)).map (z.cells[· % z.cells.size]!) = (List.replicate m.toNat z.cells.toList).flatten.toArray := by
      apply Array.ext'
      rw [hzs, hmod]
    simp only [hl0, if_false, Sem.run_bind, zeroValue, run_typeInfo' hi, Result.andThen_ok, hz, Sem.run_pure, hm2, newRow, run_newObj_alloc]

theorem vmake_sound {P : Program} {T : TypeId} {x y v : V} {s s' : S} {E : Env} {xv yv : Value} (hr : RelS E s) (hx : RepV E x xv) (hy : RepV E y yv) (h : vmake P T x y s = some (v, s')) : Does P (Instr.makeSlice T xv yv) E s v s' := by
  simp only [vmake, Option.bind_eq_some_iff] at h
  obtain ⟨t, ht, h⟩ := h
  obtain ⟨_, d, _, hd, hk, _⟩ := tyOf_parts ht
  split at h
  case h_2 => cases h
  rename_i e k n k' m hkd
  rw [hkd] at hk
  have : d = .slice e := by cases d <;> simp [kdOf] at hk; rw [hk]
  subst this
  simp only [Option.bind_eq_some_iff] at h
  obtain ⟨te, hte, h⟩ := h
  split at h
  case isFalse => cases h
  rename_i h0
  obtain ⟨h01, h02, h03, h04, h05, h06⟩ := h0
  obtain ⟨i, z, hi, hz, hs, hzs, hrep⟩ := zero_rep hte ⟨h01, h02⟩
  obtain ⟨i', _, hi', _, _, _, hb, _⟩ := tyOf_parts hte
  rw [hi] at hi'
  cases hi'
  cases hx
  cases hy
  have hrun := run_makeSlice' (w := E.w) hd hi hz hzs (by omega) h03 h04 h05 (by rw [← hb]; exact h06) k k'
  have hzl := (hrep E).length
  split at h
  · rename_i hnm
    subst hnm
    cases h
    have hrepl := (hrep E).replicate n.toNat
    have hll := hrepl.length
    obtain ⟨k1, k2⟩ := step_newVar hr (arr := (List.replicate n.toNat z.cells.toList).flatten.toArray) (cs := (List.replicate n.toNat te.zero).flatten) (by rw [← hll]; show RepL E _ (List.take _ (List.replicate n.toNat z.cells.toList).flatten); rw [List.take_length]; exact hrepl) (by rw [← hll]; simp) e (0, 0) (fun o _ h => by omega)
    refine ⟨_, _, hrun, k1, k2, .slm (by simp [Env.newVar]) (Nat.le_refl _) (by unfold maxLen; omega) (fun _ => rfl)⟩
  · split at h
    case isFalse => cases h
    rename_i hn0
    subst hn0
    cases h
    obtain ⟨k1, k2⟩ := step_newFam (n := 0) (sz := te.size) (cap := m.toNat) (arr := (List.replicate m.toNat z.cells.toList).flatten.toArray) (e := e) hr (Nat.zero_le _) (by unfold maxLen; omega) (by
      rw [List.size_toArray, length_replicate_flatten, hzl, h01]
      exact Nat.le_refl _)
    refine ⟨_, _, hrun, k1, k2, ?_⟩
    exact RepV.sl (id := s.next) (xs := []) (vals := []) (sz := te.size) (by simp) (Nat.zero_le _) (by unfold maxLen; omega) .nil (fun j x hj => by simp at hj)
      (.inr ⟨⟨0, some E.w.heap.size, m.toNat, te.size⟩, by simp [Env.grow], Nat.le_refl _, fun _ => ⟨rfl, rfl, rfl, rfl⟩⟩)

/-! ### append -/
/-- What is appended: elements. -/
def elemsOf (te : Ty) (y : V) (s : S) : Option (List V) :=
  match y with
  | .sl _ ys => some ys
  | .zsl => some []
  | .nilsl => some []
  | .slm _ l off len => (s.vars l).bind fun cs => if off + len * te.size ≤ cs.length then
      if chunkOk te.size te.agg ((cs.drop off).take (len * te.size)) = true then some (chunkV te.size te.agg len ((cs.drop off).take (len * te.size))) else none else none
  | _ => none

def vappend (P : Program) (T : TypeId) (x y : V) (s : S) : Option (V × S) :=
  (tyOf P T).bind fun t => match t.kd with
    | .slice e => (tyOf P e).bind fun te => (elemsOf te y s).bind fun ys =>
      if te.zero.length = te.size ∧ 0 < te.size ∧ (ys.all fun y => decide (y.cells.length = te.size) && y.cells.all V.one) = true then
        match x with
        | .sl id xs => (s.fams id).bind fun f => if f.1 = xs.length ∧ f.2 = te.size ∧ (xs.length + ys.length) * te.bytes ≤ 140737488355328 ∧ xs.length + ys.length ≤ 140737488355328 then
            some (.sl id (xs ++ ys), s.setFam id (xs.length + ys.length) te.size) else none
        | .nilsl => if ys.length * te.bytes ≤ 140737488355328 ∧ ys.length ≤ 140737488355328 then some (.sl s.next ys, s.newFam ys.length te.size) else none
        | .zsl => if ys.length * te.bytes ≤ 140737488355328 ∧ ys.length ≤ 140737488355328 then some (.sl s.next ys, s.newFam ys.length te.size) else none
        | _ => none
      else none
    | _ => none

/-- The cells that are appended, where they lie. -/
theorem elems_sound {P : Program} {e : TypeId} {te : Ty} (_ : tyOf P e = some te) {y : V} {ys : List V} {s : S} {E : Env} {yv : Value} (h0 : 0 < te.size) (hr : RelS E s) (hy : RepV E y yv) (h : elemsOf te y s = some ys)
    (hsz : ∀ y ∈ ys, y.cells.length = te.size) :
    ∃ (a : Option Addr) (m c : Nat) (news : List Value), yv = .slice a m c ∧ ys.length = m ∧ m ≤ c ∧ news.length = m * te.size ∧ RepL E (V.flat ys) news ∧ (∀ b, a = some b → ∀ j u, news[j]? = some u → E.w.cell? (b.add j) = some u) ∧
      (a = none → m = 0) := by
  unfold elemsOf at h
  split at h
  · rename_i id xs
    cases h
    cases hy with
    | @sl id' xs' vals g off cap sz a b c r sg f =>
      refine ⟨_, _, _, vals, rfl, rfl, b, ?_, r, fun b' hb j u hj => ?_, fun e => by cases e⟩
      · rw [r.length, flat_uniform hsz]
      · cases hb
        rw [add_eq]
        exact (sg j u hj).2
    | slz f => exact ⟨_, _, _, [], rfl, rfl, Nat.le_refl _, by simp, by simpa [V.flat] using RepL.nil, fun _ _ j u hj => by simp at hj, fun _ => rfl⟩
  · cases h
    cases hy
    exact ⟨_, _, _, [], rfl, rfl, Nat.le_refl _, by simp, by simpa [V.flat] using RepL.nil, fun _ _ j u hj => by simp at hj, fun _ => rfl⟩
  · cases h
    cases hy
    exact ⟨_, _, _, [], rfl, rfl, Nat.le_refl _, by simp, by simpa [V.flat] using RepL.nil, fun _ _ j u hj => by simp at hj, fun _ => rfl⟩
  · rename_i x l off len
    obtain ⟨cs, hcs, h⟩ := Option.bind_eq_some_iff.1 h
    split at h
    case isFalse => cases h
    rename_i hle
    split at h
    case isFalse => cases h
    rename_i hok
    cases h
    cases hy with
    | @slm _ _ _ _ cap g hg hl1 hl2 _ =>
      obtain ⟨g', arr, et, fr, h1, h2⟩ := hr.var _ _ hcs
      rw [hg] at h1
      cases h1
      have hl : ((cs.drop off).take (len * te.size)).length = len * te.size := by rw [List.length_take, List.length_drop]; omega
      obtain ⟨c1, c2, c3⟩ := chunkV_spec hl hok h0
      have hrep := (h2.rep.drop off).take (len * te.size)
      refine ⟨_, _, _, ((arr.toList.take cs.length).drop off).take (len * te.size), rfl, c1, hl1, ?_, by rw [c2]; exact hrep, fun b hb j u hj => ?_, fun e => by cases e⟩
      · rw [hrep.length, hl]
      · cases hb
        rw [add_eq, cell_of_row E.w _ _ arr et fr h2.heap]
        rw [List.getElem?_take] at hj
        split at hj
        · rw [List.getElem?_drop, List.getElem?_take] at hj
          split at hj
          · simpa using hj
          · cases hj
        · cases hj
  · cases h

theorem run_append_none {P : Program} {t ty e : TypeId} {i : TypeInfo} {w : World} (ht : P.underlying t = some (.slice e)) (hi : P.info? e = some i) (base a : Option Addr) (n cap c : Nat) (hn : n ≤ cap) :
    (Builtin.append_ #[t, t] ty #[.slice base n cap, .slice a 0 c]).run P w = .ok (.slice base n cap) w := by
  have hf : (Builtin.firstCells i.size 0 (.slice a 0 c)).run P w = .ok #[] w := by
    cases a <;> simp [Builtin.firstCells, loadCells, loadCellsFrom]
  cases base with
  | none => simp [Builtin.append_, run_underlying ht, run_sizeOf' hi, Builtin.lenOf, hn, hf]
  | some b => simp [Builtin.append_, run_underlying ht, run_sizeOf' hi, Builtin.lenOf, hn, hf, storeCells]

theorem run_append_room' {P : Program} {t ty e : TypeId} {i : TypeInfo} {w : World} (ht : P.underlying t = some (.slice e)) (hi : P.info? e = some i)
    {g sLen sCap : Nat} {cur : Array Value} {et : TypeId} {fr : Nat × Nat} {m : Nat} (hg : w.heap[g]? = some (.cells cur et fr)) (hfr : ∀ x, sLen * i.size ≤ x → x < sLen * i.size + m * i.size → ¬ (fr.1 ≤ x ∧ x < fr.2))
    {a : Addr} {c : Nat} {news : List Value} (hl : news.length = m * i.size) (hnews : ∀ j u, news[j]? = some u → w.cell? (a.add j) = some u) (h1 : ∀ u ∈ news, u.oneCell' = true)
    (hroom : sLen + m ≤ sCap) (hfit : sLen * i.size + news.length ≤ cur.size) :
    (Builtin.append_ #[t, t] ty #[.slice (some ⟨g, 0, none⟩) sLen sCap, .slice (some a) m c]).run P w =
      .ok (.slice (some ⟨g, 0, none⟩) (sLen + m) sCap) (w.setRow g (cur.toList.take (sLen * i.size) ++ news ++ cur.toList.drop (sLen * i.size + news.length)).toArray) := by
  have hf := run_firstCells_some (P := P) w i.size m a m c news hl hnews
  have hst := run_storeCells_fr P g (sLen * i.size) et fr news 0 cur w hg (by simpa using hfit) (fun x a b => hfr x (by omega) (by omega)) h1
  simp only [Nat.add_zero] at hst
  simp [Builtin.append_, run_underlying ht, run_sizeOf' hi, Builtin.lenOf, hroom, hf, add_eq, hst]

theorem repl_zero {t : S} {id n sz : Nat} (h : t.fams id = some (n, sz)) : ∀ l cs, (t.setFam id n sz).fams l = some cs → t.fams l = some cs := by
  intro l cs hl
  by_cases e : l = id
  · subst e
    simp only [S.setFam, if_true] at hl
    rw [h]
    exact hl
  · simpa [S.setFam, e] using hl

/-- The append at family id: what lies there, or nothing yet. -/
theorem append_core {P : Program} {T ty e : TypeId} {i : TypeInfo} {z : Value} {te : Ty} (hd : P.underlying T = some (.slice e)) (hi : P.info? e = some i) (hz : i.zero = some z) (hzs : z.cells.size = i.size) (hs : te.size = i.size)
    (hby : te.bytes = i.bytes) {E : Env} {s s' : S} (hr : RelS E s) {id : Nat} {xs ys : List V} {base : Option Addr} {cap : Nat} {F : Fam}
    (hs' : ((s.fams id).isSome = true ∧ s' = s.setFam id (xs.length + ys.length) te.size) ∨ (id = s.next ∧ s' = s.newFam (xs.length + ys.length) te.size))
    (hF : (s.fams id = some (xs.length, te.size) ∧ E.fam id = some F) ∨ (id = s.next ∧ xs = [] ∧ cap = 0))
    (hbase : (xs = [] ∧ cap = 0 ∧ (s.fams id = some (xs.length, te.size) → F.blk = none)) ∨
      ∃ g xv, base = some ⟨g, 0, none⟩ ∧ F.blk = some g ∧ cap = F.cap ∧ s.fams id = some (xs.length, te.size) ∧ RepL E (V.flat xs) xv ∧ Seg E g 0 xv ∧ (∀ x ∈ xs, x.cells.length = te.size))
    {a : Addr} {c : Nat} {news : List Value} (hpos : 0 < ys.length) (hnl : news.length = ys.length * te.size) (hnr : RepL E (V.flat ys) news) (hnews : ∀ j u, news[j]? = some u → E.w.cell? (a.add j) = some u)
    (hysz : ∀ y ∈ ys, y.cells.length = te.size) (hone : ∀ u ∈ news, u.oneCell' = true) (hb1 : (xs.length + ys.length) * te.bytes ≤ 140737488355328) (hb2 : xs.length + ys.length ≤ 140737488355328) :
    Does P (Builtin.append_ #[T, T] ty #[.slice base xs.length cap, .slice (some a) ys.length c]) E s (.sl id (xs ++ ys)) s' := by
  have hmx : xs.length + ys.length ≤ maxLen := by unfold maxLen; omega
  have hmono : ∀ F0, E.fam id = some F0 → F0.len ≤ xs.length := by
    intro F0 h1
    rcases hF with ⟨h2, h3⟩ | ⟨rfl, _, _⟩
    · obtain ⟨_, F1, k1, ⟨k2, _⟩, _⟩ := hr.fam _ _ _ h2
      rw [h1] at k1
      cases k1
      omega
    · rw [(hr.fresh s.next (Nat.le_refl _)).2] at h1
      cases h1
  -- what the append makes anew
  have grown : ∀ (olds : List Value) (old : Nat), olds.length = xs.length * te.size → RepL E (V.flat xs) olds → (∀ x ∈ xs, x.cells.length = te.size) → old < xs.length + ys.length →
      (Builtin.append_ #[T, T] ty #[.slice base xs.length cap, .slice (some a) ys.length c]).run P E.w =
        .ok (.slice (some ⟨E.w.heap.size, 0, none⟩) (xs.length + ys.length) (grownCap E.w (xs.length + ys.length) old e))
          (E.w.drew.alloc (.cells (olds.toArray ++ news.toArray ++ Builtin.zeroCells z.cells (grownCap E.w (xs.length + ys.length) old e - (xs.length + ys.length))) e)) →
      Does P (Builtin.append_ #[T, T] ty #[.slice base xs.length cap, .slice (some a) ys.length c]) E s (.sl id (xs ++ ys)) s' := by
    intro olds old hol hor hxsz hold hrun
    have hge := grownCap_ge E.w (xs.length + ys.length) old e
    have hcm : grownCap E.w (xs.length + ys.length) old e ≤ maxLen := grownCap_le_maxLen E.w _ old e hmx
    have hsize : (olds.toArray ++ news.toArray ++ Builtin.zeroCells z.cells (grownCap E.w (xs.length + ys.length) old e - (xs.length + ys.length))).size = grownCap E.w (xs.length + ys.length) old e * te.size := by
      simp only [Array.size_append, List.size_toArray, size_zeroCells, hzs, hol, hnl, ← hs, ← Nat.add_mul]
      congr 1
      omega
    obtain ⟨k1, k2⟩ := step_grow (w := E.w.drew.alloc (.cells (olds.toArray ++ news.toArray ++ Builtin.zeroCells z.cells (grownCap E.w (xs.length + ys.length) old e - (xs.length + ys.length))) e)) (g := E.w.heap.size)
      (F := ⟨xs.length + ys.length, some E.w.heap.size, grownCap E.w (xs.length + ys.length) old e, te.size⟩) hr hs' rfl rfl rfl (by simp) rfl rfl rfl hge hcm (heap_alloc_new E.w.drew _) (Nat.le_of_eq hsize.symm) (fun o _ h => by omega)
      (fun k hk _ => by show (E.w.heap.push _)[k]? = _; rw [Array.getElem?_push, if_neg (by omega)]) (.inl (Nat.le_refl _)) (fun F0 h1 => ⟨by have := hmono F0 h1; omega, fun e1 => by have := hmono F0 h1; omega⟩)
    refine ⟨_, _, hrun, k1, k2, ?_⟩
    have hflat : V.flat (xs ++ ys) = V.flat xs ++ V.flat ys := by simp [V.flat]
    have hlen : (xs ++ ys).length = xs.length + ys.length := by simp
    refine .slOf hlen (sz := te.size) (vals := olds ++ news) (fun x hx => ?_) hge hcm (by rw [hflat]; exact (hor.append hnr).evolve k1.ev) (fun j x hj => ⟨.inr ⟨rfl, ?_⟩, ?_⟩)
      (.inr ⟨⟨xs.length + ys.length, some E.w.heap.size, _, te.size⟩, by simp only [Env.grow, if_true]; rfl, Nat.le_refl _, fun _ => ⟨rfl, rfl, rfl, rfl⟩⟩)
    · rcases List.mem_append.1 hx with hx | hx
      · exact hxsz x hx
      · exact hysz x hx
    · have := (List.getElem?_eq_some_iff.1 hj).1
      rw [List.length_append, hol, hnl, ← Nat.add_mul] at this
      omega
    · show (E.w.drew.alloc _).cell? _ = _
      have hsz0 : E.w.heap.size = E.w.drew.heap.size := rfl
      rw [hsz0, World.cell?_alloc_new, Nat.zero_add]
      have hj1 := (List.getElem?_eq_some_iff.1 hj).1
      rw [Array.getElem?_append_left (by simp only [Array.size_append, List.size_toArray, List.length_append] at *; omega)]
      simpa using hj
  rcases hbase with ⟨rfl, rfl, hnone⟩ | ⟨g, xv, rfl, hFb, rfl, hsf, hxr, hseg, hxsz⟩
  · -- nothing there
    simp only [List.length_nil, Nat.zero_add] at *
    cases base with
    | none =>
      refine grown [] 0 (by simp) (by simpa [V.flat] using RepL.nil) (by simp) (by omega) ?_
      have := run_append_nil (P := P) E.w T ty e i z hd hi hz a ys.length c news (by rw [← hs]; exact hnl) hnews hpos (by omega) (by rw [← hby]; omega)
      simpa using this
    | some b =>
      refine grown [] 0 (by simp) (by simpa [V.flat] using RepL.nil) (by simp) (by omega) ?_
      have := run_append_grow (P := P) E.w T ty e i z hd hi hz b 0 0 [] (by simp) (fun j v hj => by simp at hj) a ys.length c news (by rw [← hs]; exact hnl) hnews (by omega) (by omega) (growslice_fits (by omega) (by rw [← hby]; simpa using hb1))
      simpa using this
  · -- block g
    rcases hF with ⟨_, hEF⟩ | ⟨rfl, _, _⟩
    case inr =>
      obtain ⟨_, F1, k1, _⟩ := hr.fam _ _ _ hsf
      rw [(hr.fresh s.next (Nat.le_refl _)).2] at k1
      cases k1
    obtain ⟨_, F1, k1, k2, k3, k4, k5, k6⟩ := hr.fam _ _ _ hsf
    rw [hEF] at k1
    cases k1
    obtain ⟨arr, et, fr, k7, k8, k8', k9⟩ := k6 g hFb
    have hxl := hxr.length
    rw [flat_uniform hxsz] at hxl
    have hxvcell : ∀ j u, xv[j]? = some u → E.w.cell? ((⟨g, 0, none⟩ : Addr).add j) = some u := fun j u hj => by rw [add_eq]; exact (hseg j u hj).2
    by_cases hroom : xs.length + ys.length ≤ F.cap
    · have hfit : xs.length * i.size + news.length ≤ arr.size := by
        rw [hnl, ← hs, ← Nat.add_mul]
        exact Nat.le_trans (Nat.mul_le_mul_right _ hroom) k8
      have htake : arr.toList.take (xs.length * i.size) = xv := by
        apply List.ext_getElem?
        intro j
        rw [← hs]
        by_cases hj : j < xs.length * te.size
        · rw [List.getElem?_take, if_pos hj]
          have hx1 : xv[j]? = some (xv[j]'(by omega)) := List.getElem?_eq_getElem _
          have h2 := (hseg j _ hx1).2
          rw [cell_of_row E.w _ _ arr et fr k7, Nat.zero_add] at h2
          rw [hx1]
          simpa using h2
        · rw [List.getElem?_take, if_neg hj, List.getElem?_eq_none (by omega)]
      have hla : arr.toList.length = arr.size := Array.length_toList
      have hxi : xs.length * i.size = xs.length * te.size := by rw [hs]
      have hrun := run_append_room' (P := P) (w := E.w) (ty := ty) hd hi k7 (fun x q1 q2 => k8' x (by rw [← hs, ← Nat.add_mul] at q2; exact Nat.lt_of_lt_of_le q2 (Nat.mul_le_mul_right _ hroom))) (a := a) (m := ys.length) (c := c) (news := news) (by rw [← hs]; exact hnl) hnews hone hroom hfit
      rw [htake] at hrun
      obtain ⟨q1, q2⟩ := step_grow (w := E.w.setRow g (xv ++ news ++ arr.toList.drop (xs.length * i.size + news.length)).toArray) (g := g) (arr := (xv ++ news ++ arr.toList.drop (xs.length * i.size + news.length)).toArray) (e := et)
        (F := ⟨xs.length + ys.length, some g, F.cap, te.size⟩) hr hs' rfl rfl rfl (by simp) rfl rfl rfl hroom k4 (setRow_heap E.w g arr _ et _ k7)
        (by
          simp only [List.size_toArray, List.length_append, List.length_drop, Array.length_toList] at *
          omega) k8'
        (fun k hk hne => setRow_other E.w g k _ hne)
        (.inr ⟨F, xs.length, hsf, hEF, hFb, by omega, fun o ho => by
          rw [cell_of_row _ _ _ _ et fr (setRow_heap E.w g arr _ et _ k7), cell_of_row E.w _ _ arr et fr k7, ← htake]
          rw [List.getElem?_toArray, List.append_assoc, List.getElem?_append_left (by rw [List.length_take, hla, hxi]; omega), List.getElem?_take, if_pos (by rw [← hs]; exact ho)]
          simp⟩)
        (fun F0 h1 => ⟨by have := hmono F0 h1; omega, fun e1 => by have := hmono F0 h1; omega⟩)
      refine ⟨_, _, hrun, q1, q2, ?_⟩
      have hflat : V.flat (xs ++ ys) = V.flat xs ++ V.flat ys := by simp [V.flat]
      have hlen : (xs ++ ys).length = xs.length + ys.length := by simp
      refine .slOf hlen (sz := te.size) (vals := xv ++ news) (fun x hx => ?_) hroom k4 (by rw [hflat]; exact (hxr.append hnr).evolve q1.ev) (fun j x hj => ⟨.inr ⟨rfl, ?_⟩, ?_⟩)
        (.inr ⟨⟨xs.length + ys.length, some g, F.cap, te.size⟩, by simp only [Env.grow, if_true], Nat.le_refl _, fun _ => ⟨rfl, rfl, rfl, rfl⟩⟩)
      · rcases List.mem_append.1 hx with hx | hx
        · exact hxsz x hx
        · exact hysz x hx
      · have := (List.getElem?_eq_some_iff.1 hj).1
        rw [List.length_append, hxl, hnl, ← Nat.add_mul] at this
        omega
      · show (E.w.setRow g _).cell? _ = _
        rw [cell_of_row _ _ _ _ et fr (setRow_heap E.w g arr _ et _ k7), Nat.zero_add, List.getElem?_toArray, List.getElem?_append_left (List.getElem?_eq_some_iff.1 hj).1]
        exact hj
    · refine grown xv F.cap hxl hxr hxsz (by omega) ?_
      have := run_append_grow (P := P) E.w T ty e i z hd hi hz ⟨g, 0, none⟩ xs.length F.cap xv (by rw [← hs]; exact hxl) hxvcell a ys.length c news (by rw [← hs]; exact hnl) hnews (by omega) (by omega) (growslice_fits (by omega) (by rw [← hby]; exact hb1))
      exact this

/-- A family of no element and no place. -/
theorem step_emptyFam {E : Env} {s : S} (hr : RelS E s) (sz : Nat) :
    Step E s { E with fam := fun x => if x = s.next then some ⟨0, none, 0, sz⟩ else E.fam x } (s.newFam 0 sz) ∧ RelS { E with fam := fun x => if x = s.next then some ⟨0, none, 0, sz⟩ else E.fam x } (s.newFam 0 sz) := by
  have hf := hr.fresh s.next (Nat.le_refl _)
  have hfs : s.fams s.next = none := by
    cases hc : s.fams s.next with
    | none => rfl
    | some p => obtain ⟨_, F, h1, _⟩ := hr.fam _ p.1 p.2 hc; rw [hf.2] at h1; cases h1
  have ev : Evolve E { E with fam := fun x => if x = s.next then some ⟨0, none, 0, sz⟩ else E.fam x } := by
    refine ⟨fun _ _ i => i, fun _ _ _ => rfl, fun _ _ h => h, fun id F hF => ⟨F, ?_, Nat.le_refl _, fun _ => rfl⟩⟩
    have : id ≠ s.next := fun e => by rw [e, hf.2] at hF; cases hF
    simpa [this] using hF
  have hfam : ∀ x, x ≠ s.next → (s.newFam 0 sz).fams x = s.fams x := fun x hx => by simp [S.newFam, hx]
  constructor
  · refine ⟨ev, rfl, rfl, rfl, Nat.le_refl _, fun _ _ _ => rfl, fun k hk ht => ?_, by simp [S.newFam]⟩
    rcases ht with ⟨l, hl, hg⟩ | ⟨id, F, hl, hF, hg⟩
    · exact .inl ⟨l, hl, hg⟩
    · by_cases e1 : id = s.next
      · simp only [e1, if_true, Option.some.injEq] at hF
        subst hF
        cases hg
      · rw [hfam id e1] at hl
        simp only [e1, if_false] at hF
        exact .inr ⟨id, F, hl, hF, hg⟩
  · refine ⟨fun l cs hl => ?_, hr.varinj, fun id n sz' hid => ?_, fun id id' F F' g h1 h2 h3 h4 h5 h6 => ?_, fun l g id F h1 h2 h3 h4 h5 => ?_, fun l hl => ?_, by simp [S.newFam], hr.imm⟩
    · obtain ⟨g, arr, e, fr, h1, h2⟩ := hr.var l cs hl
      exact ⟨g, arr, e, fr, h1, h2.evolve ev rfl h2.imm⟩
    · by_cases e1 : id = s.next
      · subst e1
        simp [S.newFam] at hid
        obtain ⟨rfl, rfl⟩ := hid
        exact ⟨Nat.ne_of_gt hr.pos, ⟨0, none, 0, sz⟩, by simp, ⟨rfl, rfl⟩, Nat.le_refl _, Nat.zero_le _, fun _ => rfl, fun g hg => by cases hg⟩
      · rw [hfam id e1] at hid
        obtain ⟨h00, F, h1, h2⟩ := hr.fam id n sz' hid
        exact ⟨h00, F, by simpa [e1] using h1, h2⟩
    · by_cases e1 : id = s.next
      · simp only [e1, if_true, Option.some.injEq] at h3
        subst h3
        cases h5
      · by_cases e2 : id' = s.next
        · simp only [e2, if_true, Option.some.injEq] at h4
          subst h4
          cases h6
        · rw [hfam id e1] at h1
          rw [hfam id' e2] at h2
          simp only [e1, e2, if_false] at h3 h4
          exact hr.faminj id id' F F' g h1 h2 h3 h4 h5 h6
    · by_cases e1 : id = s.next
      · simp only [e1, if_true, Option.some.injEq] at h4
        subst h4
        simp at h5
      · rw [hfam id e1] at h3
        simp only [e1, if_false] at h4
        exact hr.famvar l g id F h1 h2 h3 h4 h5
    · have hl' : s.next + 1 ≤ l := hl
      have := hr.fresh l (by omega)
      exact ⟨this.1, by simp [show l ≠ s.next by omega, this.2]⟩

theorem append_new {P : Program} {T ty e : TypeId} {i : TypeInfo} {z : Value} {te : Ty} (hd : P.underlying T = some (.slice e)) (hi : P.info? e = some i) (hz : i.zero = some z) (hzs : z.cells.size = i.size) (hs : te.size = i.size)
    (hby : te.bytes = i.bytes) {E : Env} {s : S} (hr : RelS E s) {ys : List V} {base : Option Addr}
    {a : Option Addr} {c : Nat} {news : List Value} (hnl : news.length = ys.length * te.size) (hnr : RepL E (V.flat ys) news) (hnews : ∀ b, a = some b → ∀ j u, news[j]? = some u → E.w.cell? (b.add j) = some u)
    (hnone : a = none → ys.length = 0) (hysz : ∀ y ∈ ys, y.cells.length = te.size) (hone : ∀ u ∈ news, u.oneCell' = true) (hb1 : ys.length * te.bytes ≤ 140737488355328) (hb2 : ys.length ≤ 140737488355328) :
    Does P (Builtin.append_ #[T, T] ty #[.slice base 0 0, .slice a ys.length c]) E s (.sl s.next ys) (s.newFam ys.length te.size) := by
  by_cases hy0 : ys.length = 0
  · have hyn : ys = [] := List.eq_nil_of_length_eq_zero hy0
    subst hyn
    obtain ⟨k1, k2⟩ := step_emptyFam hr te.size
    exact ⟨_, { E with fam := fun x => if x = s.next then some ⟨0, none, 0, te.size⟩ else E.fam x }, run_append_none hd hi _ _ _ _ _ (Nat.le_refl 0), k1, k2, .slz (.inr ⟨⟨0, none, 0, te.size⟩, by simp, fun _ => rfl⟩)⟩
  · obtain ⟨a, rfl⟩ : ∃ b, a = some b := by
      cases a with
      | none => exact absurd (hnone rfl) hy0
      | some b => exact ⟨b, rfl⟩
    have := append_core (P := P) (ty := ty) (xs := []) (F := ⟨0, none, 0, te.size⟩) (base := base) (cap := 0) hd hi hz hzs hs hby hr (id := s.next) (s' := s.newFam ys.length te.size) (.inr ⟨rfl, by simp⟩) (.inr ⟨rfl, rfl, rfl⟩) (.inl ⟨rfl, rfl, fun _ => rfl⟩)
      (c := c) (by omega) hnl hnr (hnews a rfl) hysz hone (by simpa using hb1) (by simpa using hb2)
    simpa using this

theorem vappend_sound {P : Program} {T ty : TypeId} {x y v : V} {s s' : S} {E : Env} {xv yv : Value} (hr : RelS E s) (hx : RepV E x xv) (hy : RepV E y yv) (h : vappend P T x y s = some (v, s')) :
    Does P (Builtin.append_ #[T, T] ty #[xv, yv]) E s v s' := by
  simp only [vappend, Option.bind_eq_some_iff] at h
  obtain ⟨t, ht, h⟩ := h
  obtain ⟨_, d, _, hd, hk, _⟩ := tyOf_parts ht
  split at h
  case h_2 => cases h
  rename_i e hkd
  rw [hkd] at hk
  have : d = .slice e := by cases d <;> simp [kdOf] at hk; rw [hk]
  subst this
  simp only [Option.bind_eq_some_iff] at h
  obtain ⟨te, hte, ys, hys, h1⟩ := h
  split at h1
  case isFalse => cases h1
  rename_i h0
  obtain ⟨h01, h02, h03⟩ := h0
  obtain ⟨i, z, hi, hz, hs, hzs, hrep⟩ := zero_rep hte ⟨h01, h02⟩
  obtain ⟨i', _, hi', _, _, _, hb, _⟩ := tyOf_parts hte
  rw [hi] at hi'
  cases hi'
  have hysz : ∀ y ∈ ys, y.cells.length = te.size := fun y hy => by
    have := List.all_eq_true.1 h03 y hy
    simp only [Bool.and_eq_true, decide_eq_true_eq] at this
    exact this.1
  have hyone : (V.flat ys).all V.one = true := by
    rw [List.all_eq_true]
    intro c hc
    obtain ⟨y, hy, hcy⟩ := List.mem_flatMap.1 hc
    have := List.all_eq_true.1 h03 y hy
    simp only [Bool.and_eq_true, List.all_eq_true] at this
    exact this.2 c hcy
  obtain ⟨a, m, c, news, rfl, hm, hmc, hnl, hnr, hnews, hnone⟩ := elems_sound hte h02 hr hy hys hysz
  subst hm
  have hone := RepL.one hnr hyone
  split at h1
  · -- a slice of a family
    rename_i id xs
    simp only [Option.bind_eq_some_iff] at h1
    obtain ⟨⟨f1, f2⟩, hf, h1⟩ := h1
    split at h1
    case isFalse => cases h1
    rename_i hc
    simp only at hc
    obtain ⟨rfl, rfl, c3, c4⟩ := hc
    cases h1
    obtain ⟨hid0, F, k1, ⟨k2, k2z⟩, k3, k4, k5, k6⟩ := hr.fam _ _ _ hf
    by_cases hy0 : ys.length = 0
    · have hyn : ys = [] := List.eq_nil_of_length_eq_zero hy0
      subst hyn
      have hW : RelS E (s.setFam id (xs.length + 0) te.size) := hr.weaken (fun _ _ h => h) (repl_zero hf) (Nat.le_refl _)
      have hS : Step E s E (s.setFam id (xs.length + 0) te.size) := (Step.refl E s).weaken (fun _ _ h => h) (repl_zero hf) (Nat.le_refl _)
      refine ⟨xv, E, ?_, hS, hW, by simpa using hx⟩
      cases hx with
      | sl q1 q2 q3 => exact run_append_none hd hi _ _ _ _ _ q2
      | slz => exact run_append_none hd hi _ _ _ _ _ (Nat.le_refl 0)
    · obtain ⟨a, rfl⟩ : ∃ b, a = some b := by
        cases a with
        | none => exact absurd (hnone rfl) hy0
        | some b => exact ⟨b, rfl⟩
      cases hx with
      | @sl _ _ xvals g off cap sz q1 q2 q3 r sg f =>
        rcases f with rfl | ⟨F', hF', hle, hfe⟩
        · exact absurd rfl hid0
        · rw [k1] at hF'
          cases hF'
          obtain ⟨e1, rfl, rfl, e4⟩ := hfe k2.symm
          have hxsz : ∀ x ∈ xs, x.cells.length = te.size := fun x hx => by rw [q1 x hx, e4, k2z]
          exact append_core hd hi hz hzs hs hb hr (.inl ⟨by rw [hf]; rfl, rfl⟩) (.inl ⟨hf, k1⟩) (.inr ⟨g, xvals, rfl, e1, rfl, hf, r, sg, hxsz⟩) (by omega) hnl hnr (hnews a rfl) hysz hone c3 c4
      | slz f =>
        rcases f with rfl | ⟨F', hF', hfe⟩
        · exact absurd rfl hid0
        · rw [k1] at hF'
          cases hF'
          exact append_core (xs := []) hd hi hz hzs hs hb hr (.inl ⟨by rw [hf]; rfl, rfl⟩) (.inl ⟨hf, k1⟩) (.inl ⟨rfl, rfl, fun _ => hfe k2⟩) (by omega) hnl hnr (hnews a rfl) hysz hone c3 c4
  · split at h1
    case isFalse => cases h1
    rename_i hc
    cases h1
    cases hx
    exact append_new hd hi hz hzs hs hb hr hnl hnr hnews hnone hysz hone hc.1 hc.2
  · split at h1
    case isFalse => cases h1
    rename_i hc
    cases h1
    cases hx
    exact append_new hd hi hz hzs hs hb hr hnl hnr hnews hnone hysz hone hc.1 hc.2
  · cases h1

end Go.Proofs.Ytejdgmdebfkkeaa
