/-
  The value level's state, what ties it to a world, and the steps that a world takes: a new variable, a store, a new slice, an append. Own work; no condition.
-/
import Derived.Test.YtbnbmcplmipgdaaGreatDoorVBase
namespace Go.Proofs.YtbnbmcplmipgdaaGreatDoor
open Go

structure S where
  vars : Nat → Option (List V)
  fams : Nat → Option (Nat × Nat)
  next : Nat

def S.setVar (s : S) (l : Nat) (cs : List V) : S := { s with vars := fun x => if x = l then some cs else s.vars x }
def S.newVar (s : S) (cs : List V) : S := { s with vars := fun x => if x = s.next then some cs else s.vars x, next := s.next + 1 }
def S.setFam (s : S) (id n sz : Nat) : S := { s with fams := fun x => if x = id then some (n, sz) else s.fams x }
def S.newFam (s : S) (n sz : Nat) : S := { s with fams := fun x => if x = s.next then some (n, sz) else s.fams x, next := s.next + 1 }

/-- Block g's first cells are these; they may be written. -/
structure VarAt (E : Env) (cs : List V) (g : Nat) (arr : Array Value) (e : TypeId) (fr : Nat × Nat) : Prop where
  heap : E.w.heap[g]? = some (.cells arr e fr)
  rep : RepL E cs (arr.toList.take cs.length)
  le : cs.length ≤ arr.size
  free : ∀ o, o < cs.length → ¬ (fr.1 ≤ o ∧ o < fr.2)
  imm : ∀ o, ¬ E.imm g o

structure RelS0 (E : Env) (s : S) : Prop where
  var : ∀ l cs, s.vars l = some cs → ∃ g arr e fr, E.loc l = some g ∧ VarAt E cs g arr e fr
  varinj : ∀ l l' g, (s.vars l).isSome = true → (s.vars l').isSome = true → E.loc l = some g → E.loc l' = some g → l = l'
  fam : ∀ id n sz, s.fams id = some (n, sz) → id ≠ 0 ∧ ∃ F, E.fam id = some F ∧ (F.len = n ∧ F.sz = sz) ∧ n ≤ F.cap ∧ F.cap ≤ maxLen ∧ (F.blk = none → F.cap = 0) ∧
    ∀ g, F.blk = some g → ∃ arr e fr, E.w.heap[g]? = some (.cells arr e fr) ∧ F.cap * sz ≤ arr.size ∧ (∀ o, o < F.cap * sz → ¬ (fr.1 ≤ o ∧ o < fr.2)) ∧ ∀ o, n * sz ≤ o → ¬ E.imm g o
  faminj : ∀ id id' F F' g, (s.fams id).isSome = true → (s.fams id').isSome = true → E.fam id = some F → E.fam id' = some F' → F.blk = some g → F'.blk = some g → id = id'
  famvar : ∀ l g id F, (s.vars l).isSome = true → E.loc l = some g → (s.fams id).isSome = true → E.fam id = some F → F.blk ≠ some g
  fresh : ∀ l, s.next ≤ l → E.loc l = none ∧ E.fam l = none
  pos : 0 < s.next
  imm : ∀ g o, E.imm g o → ∃ v, E.w.cell? ⟨g, o, none⟩ = some v

def Tracked (E : Env) (s : S) (k : Nat) : Prop :=
  (∃ l, (s.vars l).isSome = true ∧ E.loc l = some k) ∨ (∃ id F, (s.fams id).isSome = true ∧ E.fam id = some F ∧ F.blk = some k)

structure Step (E : Env) (s : S) (E' : Env) (s' : S) : Prop where
  ev : Evolve E E'
  os : E'.w.os = E.w.os
  tape : E'.w.tape = E.w.tape
  output : E'.w.output = E.w.output
  size : E.w.heap.size ≤ E'.w.heap.size
  block : ∀ k, k < E.w.heap.size → ¬ Tracked E s k → E'.w.heap[k]? = E.w.heap[k]?
  track : ∀ k, k < E.w.heap.size → Tracked E' s' k → Tracked E s k
  next : s.next ≤ s'.next

/-- The variable of the library's that the program reads (none, where it reads none): the block where it lies, and what it holds. -/
inductive TabK where
  | tab (vs : List Value)
  | num
  | ifc
def tabL : List (Nat × TabK) := [(5, .tab (((List.range 20).map fun i => ((10 ^ i : Nat) : Int)).map fun z => Value.int .u64 z)), (0, .num), (1, .ifc), (2, .ifc)]
def TabAt (w : World) (g : Nat) : TabK → Prop
  | .tab vs => ∃ e fr, w.heap[g]? = some (.cells vs.toArray e fr)
  | .num => ∃ m : Int, w.cell? ⟨g, 0, none⟩ = some (.int .i64 m)
  | .ifc => ∃ v : Value, w.cell? ⟨g, 0, none⟩ = some v ∧ (v = .nilIface ∨ ∃ t p, v = .iface t p)
theorem TabAt.keep {w : World} {g : Nat} {vs : TabK} (h : TabAt w g vs) : g < w.heap.size ∧ ∀ w' : World, w'.heap[g]? = w.heap[g]? → TabAt w' g vs := by
  cases vs with
  | tab vs =>
    obtain ⟨e, fr, h1⟩ := h
    exact ⟨(Array.getElem?_eq_some_iff.1 h1).1, fun w' hw => ⟨e, fr, hw.trans h1⟩⟩
  | num =>
    obtain ⟨m, h1⟩ := h
    refine ⟨World.block_lt_of_cell? _ _ h1, fun w' hw => ⟨m, ?_⟩⟩
    rw [← h1]
    unfold World.cell?
    simp only [hw]
  | ifc =>
    obtain ⟨m, h1, h2⟩ := h
    refine ⟨World.block_lt_of_cell? _ _ h1, fun w' hw => ⟨m, ?_, h2⟩⟩
    rw [← h1]
    unfold World.cell?
    simp only [hw]
abbrev TabIs (g : Nat) (vs : TabK) : Prop := (g, vs) ∈ tabL
/-- The variable lies where it lay, and nobody writes there. -/
def TabS (E : Env) (s : S) : Prop := ∀ g vs, TabIs g vs → TabAt E.w g vs ∧ ¬ Tracked E s g
structure RelS (E : Env) (s : S) : Prop extends RelS0 E s where
  tab : TabS E s
theorem TabS.step {E E' : Env} {s s' : S} (h : TabS E s) (st : Step E s E' s') : TabS E' s' := fun g vs e => by
  obtain ⟨h1, h2⟩ := h g vs e
  have hlt : g < E.w.heap.size := h1.keep.1
  exact ⟨h1.keep.2 _ (st.block g hlt h2), fun t => h2 (st.track g hlt t)⟩
theorem TabS.less {E E' : Env} {s s' : S} (h : TabS E s) (hw : E'.w = E.w) (ht : ∀ k, Tracked E' s' k → Tracked E s k) : TabS E' s' := fun g vs e => by
  obtain ⟨h1, h2⟩ := h g vs e
  exact ⟨by rw [hw]; exact h1, fun t => h2 (ht g t)⟩
theorem RelS.fin {E E' : Env} {s s' : S} (h : RelS E s) (st : Step E s E' s') (r : RelS0 E' s') : Step E s E' s' ∧ RelS E' s' := ⟨st, r, h.tab.step st⟩
theorem RelS.fin2 {E E' : Env} {s s' : S} {Q : Prop} (h : RelS E s) (r : RelS0 E' s') (st : Step E s E' s') (q : Q) : RelS E' s' ∧ Step E s E' s' ∧ Q := ⟨⟨r, h.tab.step st⟩, st, q⟩
theorem RelS.fin3 {E E' : Env} {s s' : S} {Q : Prop} (h : RelS E s) (st : Step E s E' s') (r : RelS0 E' s') (q : Q) : Step E s E' s' ∧ RelS E' s' ∧ Q := ⟨st, ⟨r, h.tab.step st⟩, q⟩
theorem RelS.fin4 {E E' : Env} {s s' : S} {Q : Prop} (h : RelS E s) (r : RelS0 E' s') (q : Q) (st : Step E s E' s') : RelS E' s' ∧ Q ∧ Step E s E' s' := ⟨⟨r, h.tab.step st⟩, q, st⟩

theorem Step.refl (E : Env) (s : S) : Step E s E s := ⟨.refl E, rfl, rfl, rfl, Nat.le_refl _, fun _ _ _ => rfl, fun _ _ h => h, Nat.le_refl _⟩

theorem Step.trans {A B C : Env} {s t u : S} (h : Step A s B t) (k : Step B t C u) : Step A s C u :=
  ⟨h.ev.trans k.ev, k.os.trans h.os, k.tape.trans h.tape, k.output.trans h.output, Nat.le_trans h.size k.size,
   fun i hi nt => (k.block i (Nat.lt_of_lt_of_le hi h.size) (fun ht => nt (h.track i hi ht))).trans (h.block i hi nt),
   fun i hi ht => h.track i hi (k.track i (Nat.lt_of_lt_of_le hi h.size) ht), Nat.le_trans h.next k.next⟩

theorem RelS.imm_lt {E : Env} {s : S} (h : RelS E s) {g o : Nat} (i : E.imm g o) : g < E.w.heap.size := by
  obtain ⟨v, hv⟩ := h.imm g o i
  exact World.block_lt_of_cell? _ _ hv

theorem RelS.loc_lt {E : Env} {s : S} (h : RelS E s) {l g : Nat} (hl : (s.vars l).isSome = true) (hg : E.loc l = some g) : g < E.w.heap.size := by
  obtain ⟨cs, hcs⟩ := Option.isSome_iff_exists.1 hl
  obtain ⟨g', arr, e, fr, h1, h2⟩ := h.var l cs hcs
  rw [hg] at h1
  cases h1
  exact (Array.getElem?_eq_some_iff.1 h2.heap).1

theorem RelS.fam_lt {E : Env} {s : S} (h : RelS E s) {id g : Nat} {F : Fam} (hl : (s.fams id).isSome = true) (hF : E.fam id = some F) (hg : F.blk = some g) : g < E.w.heap.size := by
  obtain ⟨⟨n, sz⟩, hcs⟩ := Option.isSome_iff_exists.1 hl
  obtain ⟨_, F', h1, _, _, _, _, h2⟩ := h.fam id n sz hcs
  rw [hF] at h1
  cases h1
  obtain ⟨arr, e, fr, h3, _⟩ := h2 g hg
  exact (Array.getElem?_eq_some_iff.1 h3).1

theorem RelS.tracked_lt {E : Env} {s : S} (h : RelS E s) {k : Nat} (t : Tracked E s k) : k < E.w.heap.size := by
  rcases t with ⟨l, hl, hg⟩ | ⟨id, F, hl, hF, hg⟩
  · exact h.loc_lt hl hg
  · exact h.fam_lt hl hF hg

/-- Less of the state is tied, too. -/
theorem VarAt.evolve {E E' : Env} {cs : List V} {g : Nat} {arr : Array Value} {e : TypeId} {fr : Nat × Nat} (h : VarAt E cs g arr e fr) (ev : Evolve E E') (hh : E'.w.heap[g]? = E.w.heap[g]?) (hi : ∀ o, ¬ E'.imm g o) :
    VarAt E' cs g arr e fr := ⟨hh.trans h.heap, h.rep.evolve ev, h.le, h.free, hi⟩

theorem RelS.weaken {E : Env} {s s' : S} (h : RelS E s) (hv : ∀ l cs, s'.vars l = some cs → s.vars l = some cs) (hf : ∀ l cs, s'.fams l = some cs → s.fams l = some cs) (hn : s.next ≤ s'.next) : RelS E s' := by
  have hv' : ∀ l, (s'.vars l).isSome = true → (s.vars l).isSome = true := fun l hl => by
    obtain ⟨cs, hcs⟩ := Option.isSome_iff_exists.1 hl
    rw [hv l cs hcs]; rfl
  have hf' : ∀ l, (s'.fams l).isSome = true → (s.fams l).isSome = true := fun l hl => by
    obtain ⟨cs, hcs⟩ := Option.isSome_iff_exists.1 hl
    rw [hf l cs hcs]; rfl
  refine ⟨⟨fun l cs hc => h.var l cs (hv l cs hc), fun l l' g a b => h.varinj l l' g (hv' _ a) (hv' _ b), fun id n sz hc => h.fam id n sz (hf _ _ hc),
    fun id id' F F' g a b => h.faminj id id' F F' g (hf' _ a) (hf' _ b), fun l g id F a b c => h.famvar l g id F (hv' _ a) b (hf' _ c),
    fun l hl => h.fresh l (Nat.le_trans hn hl), Nat.lt_of_lt_of_le h.pos hn, h.imm⟩, h.tab.less rfl fun k t => ?_⟩
  rcases t with ⟨l, a, b⟩ | ⟨id, F, a, b, c⟩
  · exact .inl ⟨l, hv' _ a, b⟩
  · exact .inr ⟨id, F, hf' _ a, b, c⟩

theorem Step.weaken {E E' : Env} {s s' t : S} (h : Step E s E' s') (hv : ∀ l cs, t.vars l = some cs → s'.vars l = some cs) (hf : ∀ l cs, t.fams l = some cs → s'.fams l = some cs) (hn : s'.next ≤ t.next) : Step E s E' t := by
  refine ⟨h.ev, h.os, h.tape, h.output, h.size, h.block, fun k hk ht => h.track k hk ?_, Nat.le_trans h.next hn⟩
  rcases ht with ⟨l, hl, hg⟩ | ⟨id, F, hl, hF, hg⟩
  · obtain ⟨cs, hcs⟩ := Option.isSome_iff_exists.1 hl
    exact .inl ⟨l, by rw [hv l cs hcs]; rfl, hg⟩
  · obtain ⟨cs, hcs⟩ := Option.isSome_iff_exists.1 hl
    exact .inr ⟨id, F, by rw [hf id cs hcs]; rfl, hF, hg⟩

/-! ### A new variable -/
def Env.newVar (E : Env) (l : Nat) (arr : Array Value) (e : TypeId) (fr : Nat × Nat) : Env :=
  { E with w := E.w.alloc (.cells arr e fr), loc := fun x => if x = l then some E.w.heap.size else E.loc x }

theorem step_newVar {E : Env} {s : S} (h : RelS E s) {cs : List V} {arr : Array Value} (r : RepL E cs (arr.toList.take cs.length)) (hle : cs.length ≤ arr.size) (e : TypeId) (fr : Nat × Nat)
    (hfr : ∀ o, o < cs.length → ¬ (fr.1 ≤ o ∧ o < fr.2)) :
    Step E s (E.newVar s.next arr e fr) (s.newVar cs) ∧ RelS (E.newVar s.next arr e fr) (s.newVar cs) := by
  have hf := h.fresh s.next (Nat.le_refl _)
  have hnv : s.vars s.next = none := by
    cases hc : s.vars s.next with
    | none => rfl
    | some cs => obtain ⟨g, arr, e, fr, h1, _⟩ := h.var _ _ hc; rw [hf.1] at h1; cases h1
  have ev : Evolve E (E.newVar s.next arr e fr) := by
    refine ⟨fun _ _ i => i, fun g o i => World.cell?_alloc_lt _ _ _ (h.imm_lt i), fun l g hl => ?_, fun id F hF => ⟨F, hF, Nat.le_refl _, fun _ => rfl⟩⟩
    have : l ≠ s.next := fun e => by rw [e, hf.1] at hl; cases hl
    simp [Env.newVar, this, hl]
  have hold : ∀ k, k < E.w.heap.size → (E.newVar s.next arr e fr).w.heap[k]? = E.w.heap[k]? := fun k hk => by
    show (E.w.heap.push _)[k]? = _
    rw [Array.getElem?_push, if_neg (by omega)]
  have hloc : ∀ l g, l ≠ s.next → ((E.newVar s.next arr e fr).loc l = some g ↔ E.loc l = some g) := fun l g hl => by simp [Env.newVar, hl]
  have hloc' : (E.newVar s.next arr e fr).loc s.next = some E.w.heap.size := by simp [Env.newVar]
  have hvs : ∀ l, l ≠ s.next → (s.newVar cs).vars l = s.vars l := fun l hl => by simp [S.newVar, hl]
  refine h.fin ?_ ?_
  · refine ⟨ev, rfl, rfl, rfl, by simp [Env.newVar], fun k hk _ => hold k hk, fun k hk ht => ?_, by simp [S.newVar]⟩
    rcases ht with ⟨l, hl, hg⟩ | ⟨id, F, hl, hF, hg⟩
    · by_cases e1 : l = s.next
      · subst e1
        rw [hloc'] at hg
        cases hg
        omega
      · rw [hvs l e1] at hl
        exact .inl ⟨l, hl, (hloc l k e1).1 hg⟩
    · exact .inr ⟨id, F, hl, hF, hg⟩
  · refine ⟨fun l cs' hl => ?_, fun l l' g hl hl' hg hg' => ?_, fun id n sz hid => ?_, h.faminj, fun l g id F hl hg hid hF hb => ?_, fun l hl => ?_, by simp [S.newVar], fun g o i => ?_⟩
    · by_cases e1 : l = s.next
      · subst e1
        simp [S.newVar] at hl
        subst hl
        refine ⟨E.w.heap.size, arr, e, fr, hloc', ⟨heap_alloc_new _ _, r.evolve ev, hle, hfr, fun o i => ?_⟩⟩
        have := h.imm_lt i
        omega
      · rw [hvs l e1] at hl
        obtain ⟨g, arr, e', fr', h1, h2⟩ := h.var l cs' hl
        exact ⟨g, arr, e', fr', (hloc l g e1).2 h1, h2.evolve ev (hold g (Array.getElem?_eq_some_iff.1 h2.heap).1) h2.imm⟩
    · by_cases e1 : l = s.next
      · by_cases e2 : l' = s.next
        · rw [e1, e2]
        · rw [hvs l' e2] at hl'
          have := h.loc_lt hl' ((hloc l' g e2).1 hg')
          rw [e1, hloc'] at hg
          cases hg
          omega
      · rw [hvs l e1] at hl
        have hgl := h.loc_lt hl ((hloc l g e1).1 hg)
        by_cases e2 : l' = s.next
        · rw [e2, hloc'] at hg'
          cases hg'
          omega
        · rw [hvs l' e2] at hl'
          exact h.varinj l l' g hl hl' ((hloc l g e1).1 hg) ((hloc l' g e2).1 hg')
    · obtain ⟨h00, F, h1, h2, h3, h4, h5, h6⟩ := h.fam id n sz hid
      refine ⟨h00, F, h1, h2, h3, h4, h5, fun g hg => ?_⟩
      obtain ⟨arr, e', fr', h7, h8, h9⟩ := h6 g hg
      exact ⟨arr, e', fr', (hold g (Array.getElem?_eq_some_iff.1 h7).1).trans h7, h8, h9⟩
    · by_cases e1 : l = s.next
      · have := h.fam_lt hid hF hb
        rw [e1, hloc'] at hg
        cases hg
        omega
      · rw [hvs l e1] at hl
        exact h.famvar l g id F hl ((hloc l g e1).1 hg) hid hF hb
    · have hl' : s.next + 1 ≤ l := hl
      have := h.fresh l (by omega)
      exact ⟨by simp [Env.newVar, show l ≠ s.next by omega, this.1], this.2⟩
    · obtain ⟨v, hv⟩ := h.imm g o i
      exact ⟨v, (ev.cell g o i).trans hv⟩

/-! ### A store into a variable -/
def Env.setRow (E : Env) (g : Nat) (arr : Array Value) : Env := { E with w := E.w.setRow g arr }

theorem step_setVar {E : Env} {s : S} (h : RelS E s) {l g : Nat} {cs0 cs : List V} {arr0 arr1 : Array Value} {e : TypeId} {fr : Nat × Nat} (hl : s.vars l = some cs0) (hg : E.loc l = some g)
    (ha : VarAt E cs0 g arr0 e fr) (hlen : cs.length = cs0.length) (r : RepL E cs (arr1.toList.take cs.length)) (hle : cs.length ≤ arr1.size) :
    Step E s (E.setRow g arr1) (s.setVar l cs) ∧ RelS (E.setRow g arr1) (s.setVar l cs) := by
  have hls : (s.vars l).isSome = true := by rw [hl]; rfl
  have hni : ∀ o, ¬ E.imm g o := ha.imm
  have hother : ∀ k, k ≠ g → (E.setRow g arr1).w.heap[k]? = E.w.heap[k]? := fun k hk => setRow_other E.w g k _ hk
  have ev : Evolve E (E.setRow g arr1) := by
    refine ⟨fun _ _ i => i, fun g' o i => ?_, fun _ _ h => h, fun id F hF => ⟨F, hF, Nat.le_refl _, fun _ => rfl⟩⟩
    have hne : g' ≠ g := fun e => hni o (e ▸ i)
    simp only [World.cell?, hother g' hne]
  have hvs : ∀ x, ((s.setVar l cs).vars x).isSome = (s.vars x).isSome := fun x => by
    by_cases e1 : x = l
    · subst e1; simp [S.setVar, hls]
    · simp [S.setVar, e1]
  refine h.fin ?_ ?_
  · refine ⟨ev, rfl, rfl, rfl, by simp [Env.setRow], fun k hk nt => hother k (fun e => nt (.inl ⟨l, hls, e ▸ hg⟩)), fun k hk ht => ?_, by simp [S.setVar]⟩
    rcases ht with ⟨x, hx, hgx⟩ | ⟨id, F, hx, hF, hgx⟩
    · rw [hvs] at hx
      exact .inl ⟨x, hx, hgx⟩
    · exact .inr ⟨id, F, hx, hF, hgx⟩
  · refine ⟨fun x cs' hx => ?_, fun x x' g' hx hx' => ?_, fun id n sz hid => ?_, h.faminj, fun x g' id F hx => ?_, h.fresh, h.pos, fun g' o i => ?_⟩
    · by_cases e1 : x = l
      · subst e1
        simp [S.setVar] at hx
        subst hx
        exact ⟨g, arr1, e, fr, hg, ⟨setRow_heap E.w g arr0 _ e _ ha.heap, r.evolve ev, hle, fun o ho => ha.free o (by omega), hni⟩⟩
      · have hx0 := hx
        simp [S.setVar, e1] at hx0
        obtain ⟨g', arr, e', fr', h1, h2⟩ := h.var x cs' hx0
        refine ⟨g', arr, e', fr', h1, h2.evolve ev (hother g' (fun e2 => ?_)) h2.imm⟩
        subst e2
        exact e1 (h.varinj x l g' (by rw [hx0]; rfl) hls h1 hg)
    · rw [hvs] at hx hx'
      exact h.varinj x x' g' hx hx'
    · obtain ⟨h00, F, h1, h2, h3, h4, h5, h6⟩ := h.fam id n sz hid
      refine ⟨h00, F, h1, h2, h3, h4, h5, fun g' hg' => ?_⟩
      obtain ⟨arr, e', fr', h7, h8, h9⟩ := h6 g' hg'
      exact ⟨arr, e', fr', (hother g' (fun e2 => h.famvar l g id F hls hg (by rw [show s.fams id = some (n, sz) from hid]; rfl) h1 (e2 ▸ hg'))).trans h7, h8, h9⟩
    · rw [hvs] at hx
      exact h.famvar x g' id F hx
    · obtain ⟨v, hv⟩ := h.imm g' o i
      exact ⟨v, (ev.cell g' o i).trans hv⟩

/-! ### A draw -/
def Env.drew (E : Env) : Env := { E with w := E.w.drew }

theorem step_drew {E : Env} {s : S} (h : RelS E s) : Step E s E.drew s ∧ RelS E.drew s := by
  have ev : Evolve E E.drew := ⟨fun _ _ i => i, fun _ _ _ => rfl, fun _ _ h => h, fun id F hF => ⟨F, hF, Nat.le_refl _, fun _ => rfl⟩⟩
  refine h.fin ⟨ev, rfl, rfl, rfl, Nat.le_refl _, fun _ _ _ => rfl, fun _ _ h => h, Nat.le_refl _⟩ ⟨fun l cs hl => ?_, h.varinj, h.fam, h.faminj, h.famvar, h.fresh, h.pos, h.imm⟩
  obtain ⟨g, arr, e, fr, h1, h2⟩ := h.var l cs hl
  exact ⟨g, arr, e, fr, h1, h2.evolve ev rfl h2.imm⟩

/-- A block that nobody is told of. -/
theorem step_raw {E : Env} {s : S} (h : RelS E s) (o : Obj) : Step E s { E with w := E.w.alloc o } s ∧ RelS { E with w := E.w.alloc o } s := by
  have ev : Evolve E { E with w := E.w.alloc o } := ⟨fun _ _ i => i, fun g o' i => World.cell?_alloc_lt _ _ _ (h.imm_lt i), fun _ _ h => h, fun id F hF => ⟨F, hF, Nat.le_refl _, fun _ => rfl⟩⟩
  have hold : ∀ k, k < E.w.heap.size → (E.w.alloc o).heap[k]? = E.w.heap[k]? := fun k hk => by
    show (E.w.heap.push _)[k]? = _
    rw [Array.getElem?_push, if_neg (by omega)]
  refine h.fin ⟨ev, rfl, rfl, rfl, by simp, fun k hk _ => hold k hk, fun _ _ h => h, Nat.le_refl _⟩ ⟨fun l cs hl => ?_, h.varinj, fun id n sz hid => ?_, h.faminj, h.famvar, h.fresh, h.pos, fun g o' i => ?_⟩
  · obtain ⟨g, arr, e, fr, h1, h2⟩ := h.var l cs hl
    exact ⟨g, arr, e, fr, h1, h2.evolve ev (hold g (Array.getElem?_eq_some_iff.1 h2.heap).1) h2.imm⟩
  · obtain ⟨h00, F, h1, h2, h3, h4, h5, h6⟩ := h.fam id n sz hid
    refine ⟨h00, F, h1, h2, h3, h4, h5, fun g hg => ?_⟩
    obtain ⟨arr, e', fr', h7, h8, h9⟩ := h6 g hg
    exact ⟨arr, e', fr', (hold g (Array.getElem?_eq_some_iff.1 h7).1).trans h7, h8, h9⟩
  · obtain ⟨v, hv⟩ := h.imm g o' i
    exact ⟨v, (ev.cell g o' i).trans hv⟩

/-! ### A slice that may be appended to takes its cells for good -/
/-- Block g's cells from o to m hold what they hold for good from now on; family id is the n first elements of block g. -/
def Env.grow (E : Env) (w : World) (id g m : Nat) (F : Fam) : Env :=
  { w, imm := fun b o => E.imm b o ∨ (b = g ∧ o < m), loc := E.loc, fam := fun x => if x = id then some F else E.fam x }

/-- THE STEP OF AN APPEND (and of a new slice: 'n0' elements were there): the world 'w' has block g new, or is as it was but for cells of g that nobody holds for good. -/
theorem step_grow {E : Env} {s s' : S} (h : RelS E s) {w : World} {id g n sz : Nat} {arr : Array Value} {e : TypeId} {fr : Nat × Nat} {F : Fam}
    (hs' : ((s.fams id).isSome = true ∧ s' = s.setFam id n sz) ∨ (id = s.next ∧ s' = s.newFam n sz))
    (hos : w.os = E.w.os) (htape : w.tape = E.w.tape) (hout : w.output = E.w.output) (hsize : E.w.heap.size ≤ w.heap.size)
    (hFl : F.len = n) (hFz : F.sz = sz) (hFb : F.blk = some g) (hFc : n ≤ F.cap) (hFm : F.cap ≤ maxLen) (hg : w.heap[g]? = some (.cells arr e fr)) (harr : F.cap * sz ≤ arr.size) (hfr : ∀ o, o < F.cap * sz → ¬ (fr.1 ≤ o ∧ o < fr.2))
    (hother : ∀ k, k < E.w.heap.size → k ≠ g → w.heap[k]? = E.w.heap[k]?)
    (hnew : E.w.heap.size ≤ g ∨ (∃ F0 n0, s.fams id = some (n0, sz) ∧ E.fam id = some F0 ∧ F0.blk = some g ∧ n0 ≤ n ∧ ∀ o, o < n0 * sz → w.cell? ⟨g, o, none⟩ = E.w.cell? ⟨g, o, none⟩))
    (hmono : ∀ F0, E.fam id = some F0 → F0.len ≤ n ∧ (F0.len = n → F = F0)) :
    Step E s (E.grow w id g (n * sz) F) s' ∧ RelS (E.grow w id g (n * sz) F) s' := by
  have hf := h.fresh s.next (Nat.le_refl _)
  have himm : ∀ b o, E.imm b o → b = g → o < n * sz ∧ w.cell? ⟨g, o, none⟩ = E.w.cell? ⟨g, o, none⟩ := by
    intro b o i hb
    rcases hnew with hn | ⟨F0, n0, h1, h2, h3, h4, h5⟩
    · have := h.imm_lt i
      omega
    · obtain ⟨_, F1, k1, k2, k3, k4, k5, k6⟩ := h.fam id n0 sz h1
      rw [h2] at k1
      cases k1
      obtain ⟨arr1, e1, fr1, k7, k8, k8', k9⟩ := k6 g h3
      have hlt : o < n0 * sz := by
        rcases Nat.lt_or_ge o (n0 * sz) with hh | hh
        · exact hh
        · exact absurd (hb ▸ i) (k9 o hh)
      have : n0 * sz ≤ n * sz := Nat.mul_le_mul_right _ h4
      exact ⟨by omega, h5 o hlt⟩
  have ev : Evolve E (E.grow w id g (n * sz) F) := by
    refine ⟨fun _ _ i => .inl i, fun b o i => ?_, fun _ _ hl => hl, fun x F0 hx => ?_⟩
    · by_cases hb : b = g
      · rw [hb]
        exact (himm b o i hb).2
      · show w.cell? _ = _
        simp only [World.cell?, hother b (h.imm_lt i) hb]
    · by_cases e1 : x = id
      · subst e1
        obtain ⟨m1, m2⟩ := hmono F0 hx
        exact ⟨F, by simp [Env.grow], by omega, fun e => m2 (by omega)⟩
      · exact ⟨F0, by simp [Env.grow, e1, hx], Nat.le_refl _, fun _ => rfl⟩
  have hvars : s'.vars = s.vars := by rcases hs' with ⟨_, rfl⟩ | ⟨_, rfl⟩ <;> rfl
  have hfam : ∀ x, x ≠ id → s'.fams x = s.fams x := by
    intro x hx
    rcases hs' with ⟨hid, rfl⟩ | ⟨rfl, rfl⟩
    · simp [S.setFam, hx]
    · simp [S.newFam, hx]
  have hfid : s'.fams id = some (n, sz) := by
    rcases hs' with ⟨hid, rfl⟩ | ⟨rfl, rfl⟩
    · simp [S.setFam]
    · simp [S.newFam]
  have hfE : ∀ x, x ≠ id → (E.grow w id g (n * sz) F).fam x = E.fam x := fun x hx => by simp [Env.grow, hx]
  have hfEid : (E.grow w id g (n * sz) F).fam id = some F := by simp [Env.grow]
  have hidne : id ≠ 0 := by
    rcases hs' with ⟨hid, rfl⟩ | ⟨rfl, rfl⟩
    · obtain ⟨⟨n', sz'⟩, hx⟩ := Option.isSome_iff_exists.1 hid
      exact (h.fam id n' sz' hx).1
    · exact Nat.ne_of_gt h.pos
  have hnext : s.next ≤ s'.next := by rcases hs' with ⟨_, rfl⟩ | ⟨_, rfl⟩ <;> simp [S.setFam, S.newFam]
  -- block g is no variable's
  have hgv : ∀ l, (s.vars l).isSome = true → E.loc l ≠ some g := by
    intro l hl hg'
    rcases hnew with hn | ⟨F0, n0, h1, h2, h3, _⟩
    · have := h.loc_lt hl hg'
      omega
    · exact h.famvar l g id F0 hl hg' (by rw [h1]; rfl) h2 h3
  have hgf : ∀ x F0, x ≠ id → (s.fams x).isSome = true → E.fam x = some F0 → F0.blk ≠ some g := by
    intro x F0 hx hxs hF0 hb
    rcases hnew with hn | ⟨F1, n0, h1, h2, h3, _⟩
    · have := h.fam_lt hxs hF0 hb
      omega
    · exact hx (h.faminj x id F0 F1 g hxs (by rw [h1]; rfl) hF0 h2 hb h3)
  refine h.fin ?_ ?_
  · refine ⟨ev, hos, htape, hout, hsize, fun k hk nt => hother k hk (fun e1 => ?_), fun k hk ht => ?_, hnext⟩
    · rcases hnew with hn | ⟨F0, n0, h1, h2, h3, _⟩
      · omega
      · exact nt (.inr ⟨id, F0, by rw [h1]; rfl, h2, e1 ▸ h3⟩)
    · rcases ht with ⟨l, hl, hgl⟩ | ⟨x, F0, hx, hF0, hb⟩
      · rw [hvars] at hl
        exact .inl ⟨l, hl, hgl⟩
      · by_cases e1 : x = id
        · rw [e1, hfEid] at hF0
          cases hF0
          rw [hFb] at hb
          cases hb
          rcases hnew with hn | ⟨F0, n0, h1, h2, h3, _⟩
          · omega
          · exact .inr ⟨id, F0, by rw [h1]; rfl, h2, h3⟩
        · rw [hfam x e1] at hx
          rw [hfE x e1] at hF0
          exact .inr ⟨x, F0, hx, hF0, hb⟩
  · refine ⟨fun l cs hl => ?_, fun l l' g' hl hl' => ?_, fun x n' sz' hx => ?_, fun x x' F0 F1 g' hx hx' hF0 hF1 hb hb' => ?_, fun l g' x F0 hl hgl hx hF0 hb => ?_, fun l hl => ?_, Nat.lt_of_lt_of_le h.pos hnext, fun b o i => ?_⟩
    · rw [hvars] at hl
      obtain ⟨g', arr', e', fr', h1, h2⟩ := h.var l cs hl
      have hne : g' ≠ g := fun e1 => hgv l (by rw [hl]; rfl) (e1 ▸ h1)
      refine ⟨g', arr', e', fr', h1, h2.evolve ev (hother g' (Array.getElem?_eq_some_iff.1 h2.heap).1 hne) fun o i => ?_⟩
      rcases i with i | ⟨i, _⟩
      · exact h2.imm o i
      · exact hne i
    · rw [hvars] at hl hl'
      exact h.varinj l l' g' hl hl'
    · by_cases e1 : x = id
      · rw [e1, hfid] at hx
        cases hx
        refine ⟨e1 ▸ hidne, F, e1 ▸ hfEid, ⟨hFl, hFz⟩, hFc, hFm, fun e => by simp [hFb] at e, fun g' hg' => ?_⟩
        rw [hFb] at hg'
        cases hg'
        refine ⟨arr, e, fr, hg, harr, hfr, fun o ho i => ?_⟩
        rcases i with i | ⟨_, i⟩
        · have := (himm g o i rfl).1
          omega
        · omega
      · rw [hfam x e1] at hx
        obtain ⟨h00, F0, h1, h2, h3, h4, h5, h6⟩ := h.fam x n' sz' hx
        refine ⟨h00, F0, (hfE x e1).trans h1, h2, h3, h4, h5, fun g' hg' => ?_⟩
        obtain ⟨arr', e', fr', h7, h8, h8', h9⟩ := h6 g' hg'
        have hne : g' ≠ g := fun e2 => hgf x F0 e1 (by rw [hx]; rfl) h1 (e2 ▸ hg')
        refine ⟨arr', e', fr', (hother g' (Array.getElem?_eq_some_iff.1 h7).1 hne).trans h7, h8, h8', fun o ho i => ?_⟩
        rcases i with i | ⟨i, _⟩
        · exact h9 o ho i
        · exact hne i
    · by_cases e1 : x = id
      · by_cases e2 : x' = id
        · rw [e1, e2]
        · rw [e1, hfEid] at hF0
          cases hF0
          rw [hFb] at hb
          cases hb
          rw [hfam x' e2] at hx'
          rw [hfE x' e2] at hF1
          exact absurd hb' (hgf x' F1 e2 hx' hF1)
      · rw [hfam x e1] at hx
        rw [hfE x e1] at hF0
        by_cases e2 : x' = id
        · rw [e2, hfEid] at hF1
          cases hF1
          rw [hFb] at hb'
          cases hb'
          exact absurd hb (hgf x F0 e1 hx hF0)
        · rw [hfam x' e2] at hx'
          rw [hfE x' e2] at hF1
          exact h.faminj x x' F0 F1 g' hx hx' hF0 hF1 hb hb'
    · rw [hvars] at hl
      by_cases e1 : x = id
      · rw [e1, hfEid] at hF0
        cases hF0
        rw [hFb] at hb
        cases hb
        exact hgv l hl hgl
      · rw [hfam x e1] at hx
        rw [hfE x e1] at hF0
        exact h.famvar l g' x F0 hl hgl hx hF0 hb
    · have h0 := h.fresh l (Nat.le_trans hnext hl)
      refine ⟨h0.1, ?_⟩
      by_cases e1 : l = id
      · rcases hs' with ⟨hid, rfl⟩ | ⟨rfl, rfl⟩
        · obtain ⟨⟨n', sz'⟩, hx⟩ := Option.isSome_iff_exists.1 hid
          obtain ⟨_, F0, h1, _⟩ := h.fam id n' sz' hx
          rw [e1, h1] at h0
          cases h0.2
        · simp [S.newFam] at hl
          omega
      · rw [hfE l e1]
        exact h0.2
    · rcases i with i | ⟨rfl, hlt⟩
      · obtain ⟨v, hv⟩ := h.imm b o i
        exact ⟨v, (ev.cell b o i).trans hv⟩
      · have hcell : w.cell? ⟨b, o, none⟩ = arr[o]? := cell_of_row w b o arr e fr hg
        have : n * sz ≤ F.cap * sz := Nat.mul_le_mul_right _ hFc
        exact ⟨arr[o]'(by omega), by show w.cell? _ = _; rw [hcell]; simp⟩

end Go.Proofs.YtbnbmcplmipgdaaGreatDoor
