/-
  Lending: a call that only reads its arguments, which lie in variables. Own work; no condition.
-/
import Derived.Test.YtejdgmdebfkkeaaVLend
namespace Go.Proofs.Ytejdgmdebfkkeaa
open Go

mutual
/-- What a value reads as, in a state. -/
inductive Rd (s : S) : V → V → Prop
  | scal {v} : v.scal = true → Rd s v v
  | zsl : Rd s .zsl (.sl 0 [])
  | nilsl : Rd s .nilsl (.sl 0 [])
  | sl {id us ds} : RdL s us ds → Rd s (.sl id us) (.sl 0 ds)
  | slm {ex l n us ds sz} : s.vars l = some (V.flat us) → us.length = n → (∀ u ∈ us, u.cells.length = sz) → RdL s us ds → Rd s (.slm ex l 0 n) (.sl 0 ds)
  | agg {cs ds} : RdL s cs ds → Rd s (.agg cs) (.agg ds)
  | ptr {l k cs ds} : s.vars l = some cs → RdL s cs ds → Rd s (.ptr l k) (.eptr ds k)
  | fn {f cs ds} : RdL s cs ds → Rd s (.fn f cs) (.fn f ds)
  | eptr {cs k} : Rd s (.eptr cs k) (.eptr cs k)
inductive RdL (s : S) : List V → List V → Prop
  | nil : RdL s [] []
  | cons {v d vs ds} : Rd s v d → RdL s vs ds → RdL s (v :: vs) (d :: ds)
end

theorem RdL.len {s : S} : ∀ {vs ds : List V}, RdL s vs ds → ds.length = vs.length
  | _, _, .nil => rfl
  | _, _, .cons _ t => by simp [RdL.len t]

theorem Rd.cells_len {s : S} {v d : V} (h : Rd s v d) : d.cells.length = v.cells.length := by
  cases h with
  | agg h => exact h.len
  | scal h => rfl
  | _ => rfl

theorem RdL.cells_all {s : S} : ∀ {vs ds : List V} {sz : Nat}, RdL s vs ds → (∀ v ∈ vs, v.cells.length = sz) → ∀ d ∈ ds, d.cells.length = sz
  | _, _, _, .nil, _ => fun d hd => by cases hd
  | _, _, _, .cons h t, ha => fun d hd => by
    rcases List.mem_cons.1 hd with rfl | hd
    · rw [h.cells_len]; exact ha _ (by simp)
    · exact RdL.cells_all t (fun v hv => ha v (by simp [hv])) d hd

def lentEnv (E : Env) (s : S) : Env := { E with imm := fun g o => E.imm g o ∨ ∃ l cs, s.vars l = some cs ∧ E.loc l = some g ∧ o < cs.length }

theorem Seg.lent {E : Env} {s : S} {g off : Nat} {vals : List Value} (h : Seg E g off vals) : Seg (lentEnv E s) g off vals := fun j v hj => ⟨.inl (h j v hj).1, (h j v hj).2⟩

mutual
theorem Rd.rep {E : Env} {s : S} (hr : RelS E s) : ∀ {v d : V} {val : Value}, Rd s v d → RepV E v val → RepV (lentEnv E s) d val
  | _, _, val, .scal h, k => by
    cases k with
    | int a b => exact .int a b
    | bool => exact .bool
    | str a => exact .str a
    | nilp => exact .nilp
    | und => exact .und
    | _ => cases h
  | _, _, val, .zsl, k => by cases k with | zsl => exact .slz (.inl rfl)
  | _, _, val, .nilsl, k => by cases k with | nilsl => exact .slz (.inl rfl)
  | _, _, val, .sl h, k => by
    cases k with
    | @sl _ _ vals g off cap sz a b c r sg f =>
      have hl := h.len
      have := RepV.sl (E := lentEnv E s) (id := 0) (g := g) (off := off) (cap := cap) (RdL.cells_all h a) (by omega) c (RdL.repF hr h r) (Seg.lent sg) (.inl rfl)
      rw [hl] at this
      exact this
    | slz f => cases h; exact .slz (.inl rfl)
  | _, _, val, .slm (l := l) (us := us) hv hn hc h, k => by
    cases k with
    | @slm _ _ _ _ cap g hg hle hmx hex =>
      obtain ⟨g', arr, e, fr, h1, h2⟩ := hr.var _ _ hv
      rw [hg] at h1
      cases h1
      have hl := h.len
      have := RepV.sl (E := lentEnv E s) (id := 0) (g := g) (off := 0) (cap := cap) (RdL.cells_all h hc) (by omega) hmx (RdL.repF hr h h2.rep) (fun j x hj => ?_) (.inl rfl)
      · rw [hl, hn] at this
        exact this
      · rw [List.getElem?_take] at hj
        split at hj
        · rename_i hjl
          refine ⟨.inr ⟨l, _, hv, hg, by omega⟩, ?_⟩
          show E.w.cell? _ = _
          rw [cell_of_row E.w _ _ arr e fr h2.heap, Nat.zero_add]
          simpa using hj
        · cases hj
  | _, _, val, .agg h, k => by cases k with | agg r => exact .agg (RdL.rep hr h r)
  | _, _, val, .fn h, k => by cases k with | fn r => exact .fn (RdL.rep hr h r)
  | _, _, val, .eptr, k => RepV.evolve (E' := lentEnv E s) ⟨fun _ _ i => Or.inl i, fun _ _ _ => rfl, fun _ _ h => h, fun id F h => ⟨F, h, Nat.le_refl _, fun _ => rfl⟩⟩ k
  | _, _, val, .ptr (l := l) (k := k0) hv h, k => by
    cases k with
    | @ptr _ _ g hg =>
      obtain ⟨g', arr, e, fr, h1, h2⟩ := hr.var _ _ hv
      rw [hg] at h1
      cases h1
      have := RepV.eptr (E := lentEnv E s) (g := g) (off := 0) (k := k0) (RdL.rep hr h h2.rep) (fun j x hj => ?_)
      · rw [Nat.zero_add] at this
        exact this
      · rw [List.getElem?_take] at hj
        split at hj
        · rename_i hjl
          refine ⟨.inr ⟨l, _, hv, hg, by omega⟩, ?_⟩
          show E.w.cell? _ = _
          rw [cell_of_row E.w _ _ arr e fr h2.heap, Nat.zero_add]
          simpa using hj
        · cases hj
theorem RdL.rep {E : Env} {s : S} (hr : RelS E s) : ∀ {vs ds : List V} {vals : List Value}, RdL s vs ds → RepL E vs vals → RepL (lentEnv E s) ds vals
  | _, _, _, .nil, k => by cases k; exact .nil
  | _, _, _, .cons h t, k => by cases k with | cons k1 k2 => exact .cons (Rd.rep hr h k1) (RdL.rep hr t k2)
theorem RdL.repF {E : Env} {s : S} (hr : RelS E s) : ∀ {vs ds : List V} {vals : List Value}, RdL s vs ds → RepL E (V.flat vs) vals → RepL (lentEnv E s) (V.flat ds) vals
  | _, _, _, .nil, k => by cases k; exact .nil
  | _, _, vals, .cons (v := v) (d := d) (vs := vs) (ds := ds) h t, k => by
    have e : ∀ (y : V) (ys : List V), V.flat (y :: ys) = y.cells ++ V.flat ys := fun y ys => by simp [V.flat]
    rw [e] at k ⊢
    obtain ⟨a, b, rfl, ha, hb⟩ := RepL.split k
    exact (Rd.repC hr h ha).append (RdL.repF hr t hb)
theorem Rd.repC {E : Env} {s : S} (hr : RelS E s) : ∀ {v d : V} {vals : List Value}, Rd s v d → RepL E v.cells vals → RepL (lentEnv E s) d.cells vals
  | _, _, _, .agg h, k => RdL.rep hr h k
  | _, _, _, .scal (v := v) h, k => by
    have e : v.cells = [v] := by cases v <;> first | rfl | cases h
    rw [e] at k ⊢
    cases k with | cons k1 k2 => cases k2; exact .cons (Rd.rep hr (.scal h) k1) .nil
  | _, _, _, .zsl, k => by cases k with | cons k1 k2 => cases k2; exact .cons (Rd.rep hr .zsl k1) .nil
  | _, _, _, .nilsl, k => by cases k with | cons k1 k2 => cases k2; exact .cons (Rd.rep hr .nilsl k1) .nil
  | _, _, _, .sl h, k => by cases k with | cons k1 k2 => cases k2; exact .cons (Rd.rep hr (.sl h) k1) .nil
  | _, _, _, .slm a b c h, k => by cases k with | cons k1 k2 => cases k2; exact .cons (Rd.rep hr (.slm a b c h) k1) .nil
  | _, _, _, .ptr a h, k => by cases k with | cons k1 k2 => cases k2; exact .cons (Rd.rep hr (.ptr a h) k1) .nil
  | _, _, _, .fn h, k => by cases k with | cons k1 k2 => cases k2; exact .cons (Rd.rep hr (.fn h) k1) .nil
  | _, _, _, .eptr, k => by cases k with | cons k1 k2 => cases k2; exact .cons (Rd.rep hr .eptr k1) .nil
end

/-- A result of new slices alone. -/
structure Owned (d v : V) (t : S) : Prop where
  forget : v.forget = d
  nodup : v.ids.Nodup
  full : v.full t

def thawed (n : Nat) (d : V) : List Own := (thw n d).2.map fun p => .var p.2

theorem thawed_forget (n : Nat) (v : V) : thawed n v.forget = thawed n v := by
  have h := (thw_forget v n).2
  unfold thawed
  have e : ∀ l : List (Nat × List V), l.map (fun p => Own.var p.2) = (l.map (·.2)).map .var := fun l => by rw [List.map_map]; rfl
  rw [e, e, h]

/-- A CALL ON ARGUMENTS IN VARIABLES, OF ONE THAT ONLY READS PLAIN DATA. -/
theorem VCalls.lend {P : Program} {f : FuncId} {vs ds : List V} {s : S} {d : V} (hrd : RdL s vs ds) (h : ∀ t, VCalls P f ds t (fun v t' => Owned d v t')) :
    VCalls P f vs s (fun v s' => v = (thw s.next d).1 ∧ s' = s.ext (thawed s.next d)) := by
  intro E vals h1 h2
  let t : S := { vars := fun _ => none, fams := fun _ => none, next := s.next }
  have ht : RelS (lentEnv E s) t := by
    refine ⟨fun l cs hl => (by cases hl), fun l l' g hl => (by cases hl), fun id n sz hid => (by cases hid), fun id id' F F' g hid => (by cases hid), fun l g id F hl => (by cases hl), h1.fresh, h1.pos, fun g o i => ?_⟩
    rcases i with i | ⟨l, cs, hv, hg, ho⟩
    · exact h1.imm g o i
    · obtain ⟨g', arr, e, fr, k1, k2⟩ := h1.var l cs hv
      rw [hg] at k1
      cases k1
      have := k2.le
      exact ⟨arr[o]'(by omega), by show E.w.cell? _ = _; rw [cell_of_row E.w _ _ arr e fr k2.heap]; simp⟩
  have hnt : ∀ k, ¬ Tracked (lentEnv E s) t k := by
    rintro k (⟨l, hl, _⟩ | ⟨id, F, hl, _⟩) <;> cases hl
  refine (h t (lentEnv E s) vals ht (RdL.rep h1 hrd h2)).mono ?_
  rintro e w' ⟨E2, v, val, t', rfl, rfl, ⟨ow1, ow2, ow3⟩, k, r, st⟩
  subst ow1
  have hsame : ∀ b, b < E.w.heap.size → E2.w.heap[b]? = E.w.heap[b]? := fun b hb => st.block b hb (hnt b)
  have hfresh : ∀ id F g, (t'.fams id).isSome = true → E2.fam id = some F → F.blk = some g → E.w.heap.size ≤ g := by
    intro id F g h3 h4 h5
    rcases Nat.lt_or_ge g E.w.heap.size with hlt | hge
    · exact (hnt g (st.track g hlt (.inr ⟨id, F, h3, h4, h5⟩))).elim
    · exact hge
  let os := (thw s.next v).2
  let E3 : Env := { w := E2.w, imm := E.imm, loc := fun l => if l < s.next then E.loc l else match os[l - s.next]? with
      | some p => (E2.fam p.1).bind (·.blk)
      | none => none, fam := fun l => if l < s.next then E.fam l else none }
  have hE3l : ∀ l, l < s.next → E3.loc l = E.loc l := fun l hl => by show (if l < s.next then E.loc l else _) = _; rw [if_pos hl]
  have hE3n : ∀ j, E3.loc (s.next + j) = match os[j]? with
      | some p => (E2.fam p.1).bind (·.blk)
      | none => none := fun j => by
    show (if s.next + j < s.next then E.loc (s.next + j) else _) = _
    rw [if_neg (by omega), Nat.add_sub_cancel_left]
  have hE3f : ∀ l, l < s.next → E3.fam l = E.fam l := fun l hl => by show (if l < s.next then E.fam l else none) = _; rw [if_pos hl]
  -- each slice that holds something has its place
  have hfull : ∀ p ∈ os, (t'.fams p.1).isSome = true ∧ ∃ F g, E2.fam p.1 = some F ∧ F.blk = some g := by
    intro p hp
    exact full_ids k v s.next ow3 r p hp
  have hloc : LocOk E2 E3 s.next os := by
    intro j id cs hj
    obtain ⟨_, F, g, a1, a2⟩ := hfull (id, cs) (List.mem_of_getElem? hj)
    exact ⟨F, g, a1, a2, by rw [hE3n, hj]; show (E2.fam id).bind _ = _; rw [a1]; exact a2⟩
  have hrep := thw_rep k v s.next r ow3 hloc
  have hvar := thw_var k v s.next r ow3 hloc
  have hlt : ∀ l, (s.vars l).isSome = true → l < s.next := fun l hl => by
    rcases Nat.lt_or_ge l s.next with h | h
    · exact h
    · rw [(h1.none_of_le h).1] at hl; cases hl
  have hltf : ∀ l, (s.fams l).isSome = true → l < s.next := fun l hl => by
    rcases Nat.lt_or_ge l s.next with h | h
    · exact h
    · rw [(h1.none_of_le h).2] at hl; cases hl
  have hlt2 : ∀ l g, E.loc l = some g → l < s.next := fun l g hl => by
    rcases Nat.lt_or_ge l s.next with h | h
    · exact h
    · rw [(h1.fresh l h).1] at hl; cases hl
  have hltf2 : ∀ l F, E.fam l = some F → l < s.next := fun l g hl => by
    rcases Nat.lt_or_ge l s.next with h | h
    · exact h
    · rw [(h1.fresh l h).2] at hl; cases hl
  have ev : Evolve E E3 := ⟨fun _ _ i => i, fun g o i => by
      have := h1.imm_lt i
      show E2.w.cell? _ = _
      simp only [World.cell?, hsame g this], fun l g hl => (hE3l l (hlt2 l g hl)).trans hl, fun id F hF => ⟨F, (hE3f id (hltf2 id F hF)).trans hF, Nat.le_refl _, fun _ => rfl⟩⟩
  have hth : thawed s.next v = os.map fun p => Own.var p.2 := rfl
  have hvars : ∀ l, l < s.next → (s.ext (thawed s.next v)).vars l = s.vars l := fun l hl => ext_vars_lt _ _ hl
  have hvarn : ∀ j, (s.ext (thawed s.next v)).vars (s.next + j) = (os[j]?).map (·.2) := fun j => by
    rw [ext_vars, hth, List.getElem?_map]
    cases os[j]? <;> rfl
  have hfams : ∀ l q, (s.ext (thawed s.next v)).fams l = some q → s.fams l = some q := by
    intro l q hq
    simp only [S.ext] at hq
    split at hq
    · exact hq
    · rw [hth, List.getElem?_map] at hq
      cases hc : os[l - s.next]? with
      | none => rw [hc] at hq; cases hq
      | some p => rw [hc] at hq; cases hq
  -- a new variable, where it is
  have hnew : ∀ j cs, (s.ext (thawed s.next v)).vars (s.next + j) = some cs → ∃ id, os[j]? = some (id, cs) := by
    intro j cs hj
    rw [hvarn] at hj
    obtain ⟨p, hp, rfl⟩ := Option.map_eq_some_iff.1 hj
    exact ⟨p.1, hp⟩
  have hsplit : ∀ l, l < s.next ∨ ∃ j, l = s.next + j := fun l => by
    rcases Nat.lt_or_ge l s.next with h | h
    · exact .inl h
    · exact .inr ⟨l - s.next, by omega⟩
  have hnl : ∀ j g, ((s.ext (thawed s.next v)).vars (s.next + j)).isSome = true → E3.loc (s.next + j) = some g → ∃ id cs F, os[j]? = some (id, cs) ∧ (t'.fams id).isSome = true ∧ E2.fam id = some F ∧ F.blk = some g ∧ E.w.heap.size ≤ g := by
    intro j g hj hg
    obtain ⟨cs, hcs⟩ := Option.isSome_iff_exists.1 hj
    obtain ⟨id, hid⟩ := hnew j cs hcs
    obtain ⟨a0, F, g', a1, a2⟩ := hfull (id, cs) (List.mem_of_getElem? hid)
    rw [hE3n, hid] at hg
    change (E2.fam id).bind _ = _ at hg
    simp only at a1
    rw [a1] at hg
    change F.blk = some g at hg
    exact ⟨id, cs, F, hid, a0, a1, hg, hfresh id F g a0 a1 hg⟩
  have hrel : RelS E3 (s.ext (thawed s.next v)) := by
    refine ⟨fun l cs hl => ?_, fun l l' g hl hl' hg hg' => ?_, fun id n sz hid => ?_, fun id id' F F' g hid hid' hF hF' => ?_, fun l g id F hl hg hid hF hb => ?_, fun l hl => ?_, by have := h1.pos; rw [ext_next]; omega, fun g o i => ?_⟩
    · rcases hsplit l with hll | ⟨j, rfl⟩
      · rw [hvars l hll] at hl
        obtain ⟨g, arr, e, fr, m1, m2⟩ := h1.var l cs hl
        exact ⟨g, arr, e, fr, (hE3l l hll).trans m1, ⟨(hsame g (Array.getElem?_eq_some_iff.1 m2.heap).1).trans m2.heap, m2.rep.evolve ev, m2.le, m2.free, m2.imm⟩⟩
      · obtain ⟨id, hid⟩ := hnew j cs hl
        obtain ⟨F, g, arr, e, fr, a1, a2, a3, a4, a5, a6⟩ := hvar (id, cs) (List.mem_of_getElem? hid)
        refine ⟨g, arr, e, fr, by rw [hE3n, hid]; show (E2.fam id).bind _ = _; simp only at a1; rw [a1]; exact a2, ⟨a3, a4, a5, a6, fun o i => ?_⟩⟩
        obtain ⟨a0, _⟩ := hfull (id, cs) (List.mem_of_getElem? hid)
        have := hfresh id F g a0 a1 a2
        have := h1.imm_lt i
        omega
    · rcases hsplit l with hll | ⟨j, rfl⟩
      · rw [hvars l hll] at hl
        rw [hE3l l hll] at hg
        rcases hsplit l' with hll' | ⟨j', rfl⟩
        · rw [hvars l' hll'] at hl'
          rw [hE3l l' hll'] at hg'
          exact h1.varinj l l' g hl hl' hg hg'
        · obtain ⟨_, _, _, _, _, _, _, hge⟩ := hnl j' g hl' hg'
          have := h1.loc_lt hl hg
          omega
      · obtain ⟨id, cs, F, b1, b2, b3, b4, hge⟩ := hnl j g hl hg
        rcases hsplit l' with hll' | ⟨j', rfl⟩
        · rw [hvars l' hll'] at hl'
          rw [hE3l l' hll'] at hg'
          have := h1.loc_lt hl' hg'
          omega
        · obtain ⟨id', cs', F', c1, c2, c3, c4, _⟩ := hnl j' g hl' hg'
          have hid : id = id' := k.faminj id id' F F' g b2 c2 b3 c3 b4 c4
          subst hid
          have hnd : (os.map (·.1)).Nodup := by rw [show os.map (·.1) = v.ids from thw_ids v s.next]; exact ow2
          have hj : j < (os.map (·.1)).length := by rw [List.length_map]; exact (List.getElem?_eq_some_iff.1 b1).1
          have hj' : j' < (os.map (·.1)).length := by rw [List.length_map]; exact (List.getElem?_eq_some_iff.1 c1).1
          have e1 : (os.map (·.1))[j]? = some id := by rw [List.getElem?_map, b1]; rfl
          have e2 : (os.map (·.1))[j']? = some id := by rw [List.getElem?_map, c1]; rfl
          have := (List.getElem?_inj hj hnd).1 (e1.trans e2.symm)
          rw [this]
    · have hid0 := hfams id _ hid
      obtain ⟨h00, F, m1, m2, m3, m4, m5, m6⟩ := h1.fam id n sz hid0
      refine ⟨h00, F, (hE3f id (hltf id (by rw [hid0]; rfl))).trans m1, m2, m3, m4, m5, fun g hg => ?_⟩
      obtain ⟨arr, e, fr, m7, m8⟩ := m6 g hg
      exact ⟨arr, e, fr, (hsame g (Array.getElem?_eq_some_iff.1 m7).1).trans m7, m8⟩
    · obtain ⟨q, hq⟩ := Option.isSome_iff_exists.1 hid
      obtain ⟨q', hq'⟩ := Option.isSome_iff_exists.1 hid'
      have a1 := hfams id q hq
      have a2 := hfams id' q' hq'
      rw [hE3f id (hltf id (by rw [a1]; rfl))] at hF
      rw [hE3f id' (hltf id' (by rw [a2]; rfl))] at hF'
      exact h1.faminj id id' F F' g (by rw [a1]; rfl) (by rw [a2]; rfl) hF hF'
    · obtain ⟨q, hq⟩ := Option.isSome_iff_exists.1 hid
      have a1 := hfams id q hq
      rw [hE3f id (hltf id (by rw [a1]; rfl))] at hF
      rcases hsplit l with hll | ⟨j, rfl⟩
      · rw [hvars l hll] at hl
        rw [hE3l l hll] at hg
        exact h1.famvar l g id F hl hg (by rw [a1]; rfl) hF hb
      · obtain ⟨_, _, _, _, _, _, _, hge⟩ := hnl j g hl hg
        have := h1.fam_lt (by rw [a1]; rfl) hF hb
        omega
    · rw [ext_next] at hl
      refine ⟨?_, ?_⟩
      · obtain ⟨j, rfl⟩ : ∃ j, l = s.next + j := ⟨l - s.next, by omega⟩
        rw [hE3n]
        have : os[j]? = none := List.getElem?_eq_none (by rw [hth, List.length_map] at hl; omega)
        rw [this]
      · show (if l < s.next then E.fam l else none) = none
        rw [if_neg (by omega)]
    · obtain ⟨x, hx⟩ := h1.imm g o i
      exact ⟨x, (ev.cell g o i).trans hx⟩
  refine ⟨E3, (thw s.next v).1, val, s.ext (thawed s.next v), rfl, rfl, ⟨(thw_forget v s.next).1.symm, by rw [thawed_forget]⟩, hrel, hrep,
    ⟨ev, st.os, st.tape, st.output, st.size, fun b hb _ => hsame b hb, fun q hq htr => ?_, by rw [ext_next]; omega⟩⟩
  rcases htr with ⟨l, hl, hg⟩ | ⟨id, F, hl, hF, hg⟩
  · rcases hsplit l with hll | ⟨j, rfl⟩
    · rw [hvars l hll] at hl
      rw [hE3l l hll] at hg
      exact .inl ⟨l, hl, hg⟩
    · obtain ⟨_, _, _, _, _, _, _, hge⟩ := hnl j q hl hg
      have : q < E.w.heap.size := hq
      omega
  · obtain ⟨q', hq'⟩ := Option.isSome_iff_exists.1 hl
    have a1 := hfams id q' hq'
    rw [hE3f id (hltf id (by rw [a1]; rfl))] at hF
    exact .inr ⟨id, F, by rw [a1]; rfl, hF, hg⟩

end Go.Proofs.Ytejdgmdebfkkeaa
