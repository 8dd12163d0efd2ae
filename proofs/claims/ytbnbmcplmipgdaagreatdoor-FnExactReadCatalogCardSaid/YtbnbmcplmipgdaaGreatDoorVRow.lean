/-
  From a reading of a law's arguments to the value level, and from a law's call to what its row asks. Own work; no condition.
-/
import Derived.Test.YtbnbmcplmipgdaaGreatDoorVCode
import Derived.Carry
import Derived.OpenShut
import Derived.RowKit
import Derived.WideShapes
import Derived.ChangeShapes
import Derived.ChangeMaps5
namespace Go.Proofs.YtbnbmcplmipgdaaGreatDoor
open Go Go.ChangeShapes Go.WideShapes Go.RowKit
/-- Each of a list has its type. -/
def AllHas (Q : TypeId → V → Prop) : List TypeId → List V → Prop
  | [], us => us = []
  | t :: ts, us => ∃ u us', us = u :: us' ∧ Q t u ∧ AllHas Q ts us'
/-- A value of the value level has a type of the program, to a depth. -/
def Has (P : Program) : Nat → TypeId → V → Prop
  | 0, _, _ => False
  | n + 1, t, v =>
    match P.underlying t with
    | some .bool => ∃ b, v = .bool b
    | some (.int k) => ∃ m, v = .int k m
    | some .string => ∃ s, v = .str s
    | some (.pointer e) => v = .nilp ∨ ∃ u, Has P n e u ∧ v = .eptr u.cells 0
    | some (.slice e) => v = .nilsl ∨ ∃ xs, v = .sl 0 xs ∧ ∀ x ∈ xs, Has P n e x
    | some (.struct fs) => ∃ us, v = .agg (V.flat us) ∧ AllHas (Has P n) (fs.toList.map (·.type)) us
    | _ => False
theorem Has.int {P : Program} {n : Nat} {t : TypeId} {k : IntKind} {v : V} (ht : P.underlying t = some (.int k)) (h : Has P n t v) : ∃ m, v = .int k m := by
  cases n with
  | zero => exact h.elim
  | succ n => simpa only [Has, ht] using h
theorem Has.str {P : Program} {n : Nat} {t : TypeId} {v : V} (ht : P.underlying t = some .string) (h : Has P n t v) : ∃ m, v = .str m := by
  cases n with
  | zero => exact h.elim
  | succ n => simpa only [Has, ht] using h
theorem Has.slice {P : Program} {n : Nat} {t e : TypeId} {v : V} (ht : P.underlying t = some (.slice e)) (h : Has P n t v) : v = .nilsl ∨ ∃ n xs, v = .sl 0 xs ∧ ∀ x ∈ xs, Has P n e x := by
  cases n with
  | zero => exact h.elim
  | succ n =>
    simp only [Has, ht] at h
    rcases h with h | ⟨xs, h⟩
    · exact .inl h
    · exact .inr ⟨n, xs, h⟩
def tilesB (P : Program) : Nat → List Field → Nat → Bool
  | off, [], tot => decide (off = tot)
  | off, f :: fs, tot => decide (f.offset = off) && tilesB P (off + P.cellsOf f.type) fs tot
def plainB (P : Program) (L : List TypeId) (t : TypeId) : Bool :=
  match P.underlying t with
  | some .bool => decide (P.cellsOf t = 1)
  | some (.int _) => decide (P.cellsOf t = 1)
  | some .string => decide (P.cellsOf t = 1)
  | some (.pointer e) => decide (P.cellsOf t = 1) && (decide (0 < P.cellsOf e) && L.contains e)
  | some (.slice e) => decide (P.cellsOf t = 1) && (decide (0 < P.cellsOf e) && L.contains e)
  | some (.struct fs) => tilesB P 0 fs.toList (P.cellsOf t) && fs.toList.all (fun f => L.contains f.type)
  | _ => false
theorem cell_env0 {W : World} {g o : Nat} {v : Value} (h : W.cell? ⟨g, o, none⟩ = some v) : (env0 W).imm g o ∧ (env0 W).w.cell? ⟨g, o, none⟩ = some v := ⟨⟨v, h⟩, h⟩
theorem cells_at {W : World} {a : Addr} {n : Nat} {cs : List Value} (h : W.cells? 0 a n = some cs) : cs.length = n ∧ ∀ j v, cs[j]? = some v → W.cell? (a.add j) = some v := by
  obtain ⟨_, h1, h2⟩ := World.cells?_some h
  refine ⟨h1, fun j v hj => ?_⟩
  rw [h2 j (by rw [← h1]; exact (List.getElem?_eq_some_iff.1 hj).1), hj]
theorem cell_spot {W : World} {a : Addr} {v : Value} (h : W.cell? a = some v) : a.spot = none := by
  unfold World.cell? at h
  split at h
  · split at h
    · cases h
    · rename_i h1; simpa using h1
  · cases h
theorem flat_cons' (u : V) (us : List V) : V.flat (u :: us) = u.cells ++ V.flat us := by simp [V.flat]
/-- The elements of a slice, one by one. -/
theorem elems_rep {W : World} {g off k : Nat} {Q : V → Prop} : ∀ (m : Nat), (∀ i, i < m → ∃ cs v, W.cells? 0 ⟨g, off + i * k, none⟩ k = some cs ∧ Q v ∧ RepL (env0 W) v.cells cs) →
    ∃ (xs : List V) (vals : List Value), xs.length = m ∧ (∀ x ∈ xs, Q x) ∧ (∀ x ∈ xs, x.cells.length = k) ∧ RepL (env0 W) (V.flat xs) vals ∧ vals.length = m * k ∧ ∀ j v, vals[j]? = some v → W.cell? ⟨g, off + j, none⟩ = some v
  | 0, _ => ⟨[], [], rfl, by simp, by simp, by simpa [V.flat] using RepL.nil, by simp, by simp⟩
  | m + 1, h => by
    obtain ⟨xs, vals, h1, h2, h3, h4, h5, h6⟩ := elems_rep m (fun i hi => h i (by omega))
    obtain ⟨cs, v, e1, e2, e3⟩ := h m (by omega)
    obtain ⟨e4, e5⟩ := cells_at e1
    have e6 := e3.length
    refine ⟨xs ++ [v], vals ++ cs, by simp [h1], ?_, ?_, ?_, ?_, ?_⟩
    · intro x hx
      simp at hx
      rcases hx with hx | rfl
      · exact h2 x hx
      · exact e2
    · intro x hx
      simp at hx
      rcases hx with hx | rfl
      · exact h3 x hx
      · omega
    · have : V.flat (xs ++ [v]) = V.flat xs ++ v.cells := by simp [V.flat]
      rw [this]
      exact h4.append e3
    · simp [h5, e4, Nat.add_mul]
    · intro j v' hj
      by_cases hlt : j < vals.length
      · rw [List.getElem?_append_left hlt] at hj
        exact h6 j v' hj
      · rw [List.getElem?_append_right (by omega)] at hj
        have := e5 _ _ hj
        by_cases h0 : j - vals.length = 0
        · rw [h0] at this
          simp [Addr.add] at this
          have : off + j = off + m * k := by omega
          rw [this]; assumption
        · simp only [Addr.add, h0, if_false] at this
          have e : off + j = off + m * k + (j - vals.length) := by omega
          rw [e]; exact this
theorem fields_rep {P : Program} {W : World} {n : Nat} {cs : List Value} {tot : Nat} (hcs : cs.length = tot) : ∀ (fs : List Field) (off : Nat), tilesB P off fs tot = true → off ≤ tot →
    (∀ f ∈ fs, ∃ u, Has P n f.type u ∧ RepL (env0 W) u.cells ((cs.drop f.offset).take (P.cellsOf f.type)) ∧ ((cs.drop f.offset).take (P.cellsOf f.type)).length = P.cellsOf f.type) →
    ∃ us, AllHas (Has P n) (fs.map (·.type)) us ∧ RepL (env0 W) (V.flat us) (cs.drop off)
  | [], off, ht, hle, _ => by
    simp [tilesB] at ht
    subst ht
    exact ⟨[], rfl, by rw [List.drop_eq_nil_of_le (by omega)]; simpa [V.flat] using RepL.nil⟩
  | f :: fs, off, ht, hle, h => by
    simp only [tilesB, Bool.and_eq_true, decide_eq_true_eq] at ht
    obtain ⟨rfl, ht⟩ := ht
    obtain ⟨u, h1, h2, h3⟩ := h f (by simp)
    simp only [List.length_take, List.length_drop] at h3
    obtain ⟨us, k1, k2⟩ := fields_rep hcs fs _ ht (by omega) (fun f' hf' => h f' (by simp [hf']))
    refine ⟨u :: us, ⟨u, us, rfl, h1, k1⟩, ?_⟩
    rw [flat_cons']
    have : cs.drop f.offset = (cs.drop f.offset).take (P.cellsOf f.type) ++ cs.drop (f.offset + P.cellsOf f.type) := by
      rw [← List.drop_drop, List.take_append_drop]
    rw [this]
    exact h2.append k2
theorem trod_rep {H : Type} {enc : TypeId × Value → H} {P : Program} {W : World} {L : List TypeId} (hL : L.all (plainB P L) = true) : ∀ (n : Nat) {t : TypeId} {cs : List Value} {x : DataW H × List MemPlace}, t ∈ L →
    DataW.trod enc P W 0 (fun _ => true) true n t cs = some x → ∃ v, Has P n t v ∧ RepL (env0 W) v.cells cs ∧ cs.length = P.cellsOf t
  | 0, t, cs, x, _, h => by simp [DataW.trod] at h
  | n + 1, t, cs, x, ht, h => by
    have hp := List.all_eq_true.1 hL t ht
    unfold plainB at hp
    split at hp
    · rename_i hu
      obtain ⟨b, rfl, _⟩ := DataW.trod_bool hu h
      simp at hp
      exact ⟨.bool b, by simp [Has, hu], by simpa [V.cells] using .cons .bool .nil, by simp [hp]⟩
    · rename_i k hu
      obtain ⟨m, rfl, _, hw⟩ := DataW.trod_int hu h
      simp [Lit.wf] at hw
      simp at hp
      exact ⟨.int k m, by simp [Has, hu], by simpa [V.cells] using .cons (.int hw.1 hw.2) .nil, by simp [hp]⟩
    · rename_i hu
      obtain ⟨s, rfl, _, hs⟩ := DataW.trod_string hu h
      simp at hp
      refine ⟨.str s.data.toList, by simp [Has, hu], ?_, by simp [hp]⟩
      simp only [V.cells]
      exact .cons (by have := RepV.str (E := env0 W) (s := s.data.toList) (by simpa using hs); simpa using this) .nil
    · rename_i e hu
      simp at hp
      rcases DataW.trod_pointer hu h with ⟨rfl, _⟩ | ⟨a, cs', y, n', hn, rfl, _, hc, hy⟩
      · exact ⟨.nilp, by simp [Has, hu], by simpa [V.cells] using .cons .nilp .nil, by simp [hp]⟩
      · cases hn
        obtain ⟨u, h1, h2, h3⟩ := trod_rep hL n hp.2.2 hy
        obtain ⟨c1, c2⟩ := cells_at hc
        have hpos : 0 < P.cellsOf e := hp.2.1
        obtain ⟨c, cs2, rfl⟩ : ∃ c cs2, cs' = c :: cs2 := by
          cases cs' with
          | nil => simp at c1; omega
          | cons c cs2 => exact ⟨c, cs2, rfl⟩
        have c0 := c2 0 c (by simp)
        simp [Addr.add] at c0
        have sp := cell_spot c0
        obtain ⟨g, o, s⟩ := a
        simp at sp
        subst sp
        refine ⟨.eptr u.cells 0, by simp only [Has, hu]; exact .inr ⟨u, h1, rfl⟩, ?_, by simp [hp]⟩
        simp only [V.cells]
        refine .cons (.eptr h2 ?_) .nil
        intro j v hj
        have := c2 j v hj
        by_cases h0 : j = 0
        · subst h0; simpa [Addr.add] using cell_env0 (by simpa [Addr.add] using this)
        · simp only [Addr.add, h0, if_false] at this
          exact cell_env0 this
    · rename_i e hu
      simp at hp
      rcases DataW.trod_slice hu h with ⟨rfl, _⟩ | ⟨a, len, cap, elems, rest, n', hn, rfl, _, _, hl, hm, hlen, hel, hsp, _⟩
      · exact ⟨.nilsl, by simp [Has, hu], by simpa [V.cells] using .cons .nilsl .nil, by simp [hp]⟩
      · cases hn
        have hnone : cap = 0 ∨ a.spot = none := by
          by_cases hc : cap = 0
          · exact .inl hc
          · right
            have : ∃ cs', W.cells? 0 a (P.cellsOf e) = some cs' := by
              by_cases h0 : 0 < len
              · have := hel 0 h0
                rw [List.getElem?_eq_getElem (by omega), Option.bind_eq_some_iff] at this
                obtain ⟨cs', h1, _⟩ := this
                exact ⟨cs', by simpa [Addr.add] using h1⟩
              · obtain ⟨r1, r2⟩ := hsp rfl
                have := r2 0 (by omega)
                rw [List.getElem?_eq_getElem (by omega), Option.bind_eq_some_iff] at this
                obtain ⟨cs', h1, _⟩ := this
                have : len = 0 := by omega
                subst this
                exact ⟨cs', by simpa [Addr.add] using h1⟩
            obtain ⟨cs', h1⟩ := this
            obtain ⟨c1, c2⟩ := cells_at h1
            obtain ⟨c, cs2, rfl⟩ : ∃ c cs2, cs' = c :: cs2 := by
              cases cs' with
              | nil => simp at c1; omega
              | cons c cs2 => exact ⟨c, cs2, rfl⟩
            exact cell_spot (by simpa [Addr.add] using c2 0 c (by simp))
        rcases hnone with rfl | hspot
        · have : len = 0 := by omega
          subst this
          exact ⟨.sl 0 [], by simp only [Has, hu]; exact .inr ⟨[], rfl, by simp⟩, by simpa [V.cells] using .cons (.slz (.inl rfl)) .nil, by simp [hp]⟩
        · obtain ⟨g, off, s⟩ := a
          simp at hspot
          subst hspot
          obtain ⟨ys, vals, y1, y2, y3, y4, y5, y6⟩ := elems_rep (W := W) (g := g) (off := off) (k := P.cellsOf e) (Q := Has P n e) len (fun i hi => by
            have := hel i hi
            rw [List.getElem?_eq_getElem (by omega), Option.bind_eq_some_iff] at this
            obtain ⟨cs', h1, h2⟩ := this
            obtain ⟨v, v1, v2, _⟩ := trod_rep hL n hp.2.2 h2
            refine ⟨cs', v, ?_, v1, v2⟩
            rw [← h1]
            by_cases h0 : i * P.cellsOf e = 0
            · simp [Addr.add, h0]
            · simp [Addr.add, h0])
          refine ⟨.sl 0 ys, by simp only [Has, hu]; exact .inr ⟨ys, rfl, y2⟩, ?_, by simp [hp]⟩
          simp only [V.cells]
          exact .cons (.slOf y1 y3 hl hm y4 (fun j v hj => cell_env0 (y6 j v hj)) (.inl rfl)) .nil
    · rename_i fs hu
      simp at hp
      obtain ⟨xs, n', hn, _, hcs, hxl, hx⟩ := DataW.trod_struct hu h
      cases hn
      obtain ⟨us, h1, h2⟩ := fields_rep (P := P) (W := W) (n := n) hcs fs.toList 0 hp.1 (Nat.zero_le _) (fun f hf => by
        obtain ⟨i, hi⟩ := List.getElem?_of_mem hf
        have := hx i f (by simpa using hi)
        have hi2 : i < xs.length := by rw [hxl]; have := (List.getElem?_eq_some_iff.1 hi).1; simpa using this
        rw [List.getElem?_eq_getElem hi2] at this
        have hm : f.type ∈ L := by
          obtain ⟨j, hj, rfl⟩ := List.getElem_of_mem hf
          have := hp.2 j (by simpa using hj)
          simpa using this
        exact trod_rep hL n hm this)
      refine ⟨.agg (V.flat us), by simp only [Has, hu]; exact ⟨us, rfl, h1⟩, ?_, hcs⟩
      simpa [V.cells] using h2
    · cases hp
/-- One argument. -/
theorem trod_arg {H : Type} {enc : TypeId × Value → H} {P : Program} {W : World} {L : List TypeId} (hL : L.all (plainB P L) = true) {t : TypeId} {val : Value} {d : DataW H} {p : List MemPlace} {r : Reach} {base : Nat} (ht : t ∈ L)
    (hval : Value.okWide P W r base t val) (h : DataW.Trod enc P W 0 (fun _ => true) true t val d p) : ∃ n v, Has P n t v ∧ RepV (env0 W) v val := by
  obtain ⟨n, h⟩ := h
  obtain ⟨v, h1, h2, h3⟩ := trod_rep hL n ht h
  refine ⟨n, v, h1, ?_⟩
  have hp := List.all_eq_true.1 hL t ht
  cases n with
  | zero => exact h1.elim
  | succ n =>
  unfold plainB at hp
  simp only [Has] at h1
  have one : ∀ {v : V} {val : Value}, v.cells = [v] → val.cells.toList = [val] → RepL (env0 W) v.cells val.cells.toList → RepV (env0 W) v val := by
    intro v val e1 e2 h
    rw [e1, e2] at h
    cases h with
    | cons h _ => exact h
  split at hp
  · rename_i hu
    rw [hu] at h1
    obtain ⟨b, rfl⟩ := h1
    simp only [Value.okWide, hu, Cell.okWide] at hval
    cases val <;> simp_all [Cell.ok]
    exact one rfl rfl h2
  · rename_i k hu
    rw [hu] at h1
    obtain ⟨m, rfl⟩ := h1
    obtain ⟨n', rfl⟩ := okWide_int hu hval
    exact one rfl rfl h2
  · rename_i hu
    rw [hu] at h1
    obtain ⟨m, rfl⟩ := h1
    obtain ⟨n', rfl⟩ := okWide_string hu hval
    exact one rfl rfl h2
  · rename_i e hu
    rw [hu] at h1
    obtain ⟨n', rfl⟩ := okWide_pointer hu hval
    rcases h1 with rfl | ⟨u, _, rfl⟩ <;> exact one rfl rfl h2
  · rename_i e hu
    rw [hu] at h1
    obtain ⟨n1, n2, n3, rfl⟩ := okWide_slice hu hval
    rcases h1 with rfl | ⟨u, rfl, _⟩ <;> exact one rfl rfl h2
  · rename_i fs hu
    rw [hu] at h1
    obtain ⟨us, rfl, _⟩ := h1
    simp only [Value.okWide, hu] at hval
    obtain ⟨cs, rfl, _, _⟩ := hval
    have := RepV.agg (E := env0 W) h2
    simpa [Value.cells, V.cells] using this
  · cases hp
/-- All of them. -/
theorem trod_args {H : Type} {enc : TypeId × Value → H} {P : Program} {W : World} {L : List TypeId} (hL : L.all (plainB P L) = true) {r : Reach} {base : Nat} : ∀ {ts : List TypeId} {vals : List Value} {ds : List (DataW H)} {p : List MemPlace},
    (∀ t ∈ ts, t ∈ L) → (∀ (j : Nat) (t : TypeId) (v : Value), ts[j]? = some t → vals[j]? = some v → Value.okWide P W r base t v) → DataW.TrodAll enc P W 0 (fun _ => true) true ts vals ds p →
    ∃ vs, AllHas (fun t v => ∃ n, Has P n t v) ts vs ∧ RepL (env0 W) vs vals
  | [], vals, ds, p, _, _, h => by
    match vals, ds, h with
    | [], [], h => exact ⟨[], rfl, .nil⟩
  | t :: ts, vals, ds, p, ht, hv, h => by
    match vals, ds, h with
    | v :: vals, d :: ds, ⟨p, q, h1, h2, _⟩ =>
      obtain ⟨n, u, u1, u2⟩ := trod_arg hL (ht t (by simp)) (hv 0 t v (by simp) (by simp)) h1
      obtain ⟨us, k1, k2⟩ := trod_args hL (fun t' h' => ht t' (by simp [h'])) (fun j t' v' e1 e2 => hv (j + 1) t' v' (by simpa using e1) (by simpa using e2)) h2
      exact ⟨u :: us, ⟨u, us, rfl, ⟨n, u1⟩, k1⟩, .cons u2 k2⟩
theorem Below.trodAll {H : Type} {enc : TypeId × Value → H} {P : Program} (hl : laidOutB P = true) {W W' : World} (hb : Below W.heap.size W W') : ∀ {ts : List TypeId} {vs : List Value} {ds : List (DataW H)} {ps : List MemPlace},
    (∀ t ∈ ts, P.readableRec t = true ∧ t < P.types.size) → DataW.TrodAll enc P W 0 (fun _ => true) true ts vs ds ps → (∀ x ∈ ps, x.block < W.heap.size) →
    DataW.TrodAll enc P W' 0 (fun b => decide (b < W.heap.size)) true ts vs ds ps
  | [], vs, ds, ps, _, h, _ => by
    match vs, ds, h with
    | [], [], h => exact h
  | t :: ts, vs, ds, ps, ht, h, hp => by
    match vs, ds, h with
    | v :: vs, d :: ds, ⟨p, q, h1, h2, e⟩ =>
      subst e
      exact ⟨p, q, Below.trod hl (ht t (by simp)).1 (ht t (by simp)).2 h1 hb (fun x hx => hp x (by simp [hx])), Below.trodAll hl hb (fun t' h' => ht t' (by simp [h'])) h2 (fun x hx => hp x (by simp [hx])), rfl⟩
/-- A law's row: it returns true, and the arguments read as they did. -/
theorem law_row {H : Type} {enc : TypeId × Value → H} {P : Program} {f : Func} {fid : FuncId} {s : ChangeSpec} {W : World} {args : Array Value} {ds gs : List (DataW H)} {before : List MemPlace} {t : TypeId} {base : Nat} (L : List TypeId) (hT : TabW W)
    (hW : DataW.Whole enc P f.params.toList s.vars false W args.toList ds gs before) (hval : ∀ (j : Nat) t v, f.params[j]? = some t → args[j]? = some v → Value.okWide P W .any base t v)
    (hvars : s.vars = []) (hfn : ds.length = f.params.toList.length → s.fn H ds = { results := [.lit (.bool true)], args := ds })
    (hres : f.resultTypes = #[t]) (ht : P.underlying t = some .bool) (hl : laidOutB P = true) (hread : f.params.toList.all (fun t => P.readableRec t && (decide (t < P.types.size) && L.contains t)) = true)
    (hL : L.all (plainB P L) = true) (h : ∀ vs, AllHas (fun t v => ∃ n, Has P n t v) f.params.toList vs → ∀ s, VCalls P fid vs s (fun v _ => v = .bool true)) :
    Calls P fid args W fun e w' => ∃ v, e = .returned v ∧ s.post enc P f false true false false W args v w' := by
  have hW' := hW
  obtain ⟨p, q, hA, hV, rfl, hfz, hnd⟩ := hW
  rw [hvars] at hV
  obtain ⟨rfl, rfl⟩ := trodVars_none hV
  have hread' : ∀ t ∈ f.params.toList, P.readableRec t = true ∧ t < P.types.size ∧ t ∈ L := fun t ht => by
    have := List.all_eq_true.1 hread t ht
    simpa using this
  obtain ⟨vs, k1, k2⟩ := trod_args hL (fun t ht => (hread' t ht).2.2) (fun j t v e1 e2 => hval j t v (by simpa using e1) (by simpa using e2)) hA
  refine (law_calls hT (h vs k1) k2).mono ?_
  rintro e w' ⟨rfl, hb⟩
  have hf : s.fn H (ds ++ []) = { results := [.lit (.bool true)], args := ds } := by
    rw [List.append_nil]
    exact hfn (by
      clear k1 k2 hfn hread hread' h hval hW' hfz
      generalize f.params.toList = ts at hA
      generalize args.toList = as at hA
      induction ts generalizing as ds p with
      | nil =>
        match as, ds, hA with
        | [], [], _ => rfl
      | cons t ts ih =>
        match as, ds, hA with
        | _ :: as, _ :: ds, ⟨p, q, _, h2, _⟩ => simpa using ih (hA := h2) (hnd := by intro h; cases h))
  refine ⟨_, rfl, ds, [], _, [], p, [], hW', ?_, ?_, ?_, hb.frame _, fun h => by cases h⟩
  · rw [hf, hres]
    exact trodAll_cons_mk (shut_bool ht _) trodAll_mk0
  · rw [hf]
    exact Below.trodAll hl hb (fun t ht => ⟨(hread' t ht).1, (hread' t ht).2.1⟩) hA (fun x hx => hW'.lt x (by simp [hx]))
  · rw [hf, hvars]
    rfl
end Go.Proofs.YtbnbmcplmipgdaaGreatDoor
