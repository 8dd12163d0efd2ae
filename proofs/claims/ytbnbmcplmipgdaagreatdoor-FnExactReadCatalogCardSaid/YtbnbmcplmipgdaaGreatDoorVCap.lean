/-
  Slices whose capacity is known, in memory of one's own: they may be written to and appended to. Own work; no condition.
-/
import Derived.Test.YtbnbmcplmipgdaaGreatDoorMg15
namespace Go.Proofs.YtbnbmcplmipgdaaGreatDoor
open Go
/-- An operation of which it is shown here what it does. -/
theorem LOps.geng {P : Program} {N : Nat} {ops : Array Oper} {l : List Oper} {K : Kn → S → Prop} {L : Kn} {s : S} {d : Nat} {ty : TypeId} {p : String} {a : Array Edge} {op : Op} {vs : List V} {R : V → S → Prop} (hv : opdL L op.operands.toList = some vs)
    (hg : ∀ E (A : Act), RelS E s → RepL E vs (op.operands.toList.map A.eval) → ∃ v s', R v s' ∧ DoesO P ⟨some d, op, ty, p, a, none⟩ A E s v s') (hk : ∀ v s', R v s' → LOps P N ops l K ((d, v) :: L) s') : LOps P N ops (⟨some d, op, ty, p, a, none⟩ :: l) K L s := by
  refine ⟨fun hd σ hσ => ?_⟩
  simp only [List.all_cons, Bool.and_eq_true] at hd
  refine ⟨hd.1, ?_⟩
  simp only [vwanted]
  refine .inr ⟨vs, R, opdL_eq hσ hv, hg, fun v s' hr => (hk v s' hr).run hd.2 _ (hσ.cons d v)⟩
theorem RepL.raws {E : Env} : ∀ l : List Value, RepL E (l.map .raw) l
  | [] => .nil
  | _ :: l => .cons .raw (RepL.raws l)
/-! ### Appends -/
section
variable {P : Program} {T ty e : TypeId} {i : TypeInfo} {z : Value} {E : Env} {s : S}
/-- What an append answers: a slice of a variable, all of whose cells are known. -/
structure AppR (s : S) (q : Prop) (l sz m : Nat) (cs : List V) (v : V) (s' : S) : Prop where
  ex : ∃ (c n : Nat) (rest : List V), v = .slm (.is c) n 0 m ∧ m ≤ c ∧ rest.length = (c - m) * sz ∧ ((n = s.next ∧ s' = s.newVar (cs ++ rest)) ∨ (q ∧ n = l ∧ s' = s.setVar l (cs ++ rest)))
theorem own_new (hr : RelS E s) {mm : Sem Value} {q : Prop} {l sz m cap : Nat} {cs : List V} {cvs rv : List Value} (hcv : RepL E cs cvs) (hm : m ≤ cap) (hmx : cap ≤ maxLen) (hrv : rv.length = (cap - m) * sz)
    (hrun : mm.run P E.w = .ok (.slice (some ⟨E.w.heap.size, 0, none⟩) m cap) (E.w.drew.alloc (.cells (cvs ++ rv).toArray e))) : ∃ v s', AppR s q l sz m cs v s' ∧ Does P mm E s v s' := by
  obtain ⟨k0, kr⟩ := step_drew hr
  have hrep : RepL E.drew (cs ++ rv.map .raw) (cvs ++ rv) := ((hcv.evolve k0.ev).append (RepL.raws rv))
  have hlen := hrep.length
  obtain ⟨k1, k2⟩ := step_newVar (arr := (cvs ++ rv).toArray) (cs := cs ++ rv.map .raw) kr (by
    show RepL E.drew (cs ++ rv.map .raw) ((cvs ++ rv).take _)
    rw [← hlen, List.take_length]
    exact hrep) (by rw [← hlen, List.size_toArray]; exact Nat.le_refl _) e (0, 0) (fun o _ h => by omega)
  refine ⟨.slm (.is cap) s.next 0 m, s.newVar (cs ++ rv.map .raw), ⟨cap, s.next, rv.map .raw, rfl, hm, by rw [List.length_map, hrv], .inl ⟨rfl, rfl⟩⟩, _, E.drew.newVar s.next (cvs ++ rv).toArray e (0, 0), hrun, k0.trans k1, k2, ?_⟩
  exact .slm (by simp [Env.newVar]; rfl) hm hmx rfl
theorem own_append {te : Ty} (hd : P.underlying T = some (.slice e)) (hi : P.info? e = some i) (hz : i.zero = some z) (hzs : z.cells.size = i.size) (hs : te.size = i.size) (hby : te.bytes = i.bytes) (hr : RelS E s) {q : Prop} {l c n : Nat} {us ys rest : List V} {xv : Value}
    (hx : RepV E (.slm (.is c) l 0 n) xv) (hv : (c = 0 ∧ n = 0 ∧ us = []) ∨ (q ∧ s.vars l = some (V.flat us ++ rest) ∧ rest.length = (c - n) * te.size ∧ n ≤ c)) (hn : us.length = n) (hus : ∀ u ∈ us, u.cells.length = te.size)
    {a : Addr} {cy : Nat} {news : List Value} (hpos : 0 < ys.length) (hnl : news.length = ys.length * te.size) (hnr : RepL E (V.flat ys) news) (hnews : ∀ j u, news[j]? = some u → E.w.cell? (a.add j) = some u)
    (hone : ∀ u ∈ news, u.oneCell' = true) (hb1 : (n + ys.length) * te.bytes ≤ 140737488355328) (hb2 : n + ys.length ≤ 140737488355328) :
    ∃ v s', AppR s q l te.size (n + ys.length) (V.flat (us ++ ys)) v s' ∧ Does P (Builtin.append_ #[T, T] ty #[xv, .slice (some a) ys.length cy]) E s v s' := by
  have hmx : n + ys.length ≤ maxLen := by unfold maxLen; omega
  have hzc : ∀ k, (Builtin.zeroCells z.cells k).toList.length = k * te.size := fun k => by rw [Array.length_toList, size_zeroCells, hzs, hs]
  have hflat : V.flat (us ++ ys) = V.flat us ++ V.flat ys := by simp [V.flat]
  rw [hflat]
  -- nothing there
  have none' : ∀ base, n = 0 → us = [] → ∃ v s', AppR s q l te.size (n + ys.length) (V.flat us ++ V.flat ys) v s' ∧ Does P (Builtin.append_ #[T, T] ty #[.slice base 0 0, .slice (some a) ys.length cy]) E s v s' := by
    intro base h0 hu
    subst h0 hu
    rw [Nat.zero_add] at *
    cases base with
    | none =>
      have hrun := run_append_nil (P := P) E.w T ty e i z hd hi hz a ys.length cy news (by rw [← hs]; exact hnl) hnews hpos (by omega) (by rw [← hby]; omega)
      refine own_new (e := e) hr (cvs := news) (rv := (Builtin.zeroCells z.cells (grownCap E.w ys.length 0 e - ys.length)).toList) (by simpa [V.flat] using hnr) (grownCap_ge E.w ys.length 0 e) (grownCap_le_maxLen E.w _ 0 e hmx) (hzc _) ?_
      rw [hrun]
      congr 3
      simp
    | some b =>
      have hrun := run_append_grow (P := P) E.w T ty e i z hd hi hz b 0 0 [] (by simp) (fun j v hj => by simp at hj) a ys.length cy news (by rw [← hs]; exact hnl) hnews (by omega) (by omega) (growslice_fits (by omega) (by rw [← hby]; simpa using hb1))
      rw [Nat.zero_add] at hrun
      refine own_new (e := e) hr (cvs := news) (rv := (Builtin.zeroCells z.cells (grownCap E.w ys.length 0 e - ys.length)).toList) (by simpa [V.flat] using hnr) (grownCap_ge E.w ys.length 0 e) (grownCap_le_maxLen E.w _ 0 e hmx) (hzc _) ?_
      rw [hrun]
      congr 3
      simp
  cases hx with
  | slm0 => exact none' _ rfl (List.length_eq_zero_iff.1 hn)
  | @slm _ _ _ _ cap g hg hle hcm hex =>
    have hc : cap = c := hex
    subst hc
    rcases hv with ⟨rfl, rfl, rfl⟩ | ⟨hun, hv, hrl, hnc⟩
    · exact none' _ rfl rfl
    obtain ⟨g', arr, et, fr, h1, h2⟩ := hr.var _ _ hv
    rw [hg] at h1
    cases h1
    have hul : (V.flat us).length = n * te.size := by rw [flat_uniform hus, hn]
    have hle2 := h2.le
    rw [List.length_append, hul, hrl, ← Nat.add_mul, show n + (cap - n) = cap by omega] at hle2
    obtain ⟨va, vb, hab, hva, hvb⟩ := RepL.split h2.rep
    have hval := hva.length
    have hvbl := hvb.length
    rw [List.length_append, hul, hrl, ← Nat.add_mul, show n + (cap - n) = cap by omega] at hab
    have hcell : ∀ j u, va[j]? = some u → E.w.cell? ((⟨g, 0, none⟩ : Addr).add j) = some u := fun j u hj => by
      have hj2 : (va ++ vb)[j]? = some u := by rw [List.getElem?_append_left (List.getElem?_eq_some_iff.1 hj).1]; exact hj
      rw [← hab, List.getElem?_take] at hj2
      rw [add_eq, cell_of_row E.w _ _ arr et fr h2.heap, Nat.zero_add]
      split at hj2
      · simpa using hj2
      · cases hj2
    by_cases hroom : n + ys.length ≤ cap
    · have hfit : n * i.size + news.length ≤ arr.size := by
        rw [hnl, ← hs, ← Nat.add_mul]
        exact Nat.le_trans (Nat.mul_le_mul_right _ hroom) hle2
      have hmul : n * te.size + ys.length * te.size ≤ cap * te.size := by rw [← Nat.add_mul]; exact Nat.mul_le_mul_right _ hroom
      have hrun := run_append_room' (P := P) (w := E.w) (ty := ty) hd hi h2.heap (fun x q1 q2 => h2.free x (by
        rw [List.length_append, hul, hrl, ← Nat.add_mul, show n + (cap - n) = cap by omega]
        rw [← hs] at q2
        omega)) (a := a) (m := ys.length) (c := cy) (news := news) (by rw [← hs]; exact hnl) hnews hone hroom hfit
      have htake : arr.toList.take (n * i.size) = va := by
        have : (arr.toList.take (cap * te.size)).take (n * te.size) = arr.toList.take (n * te.size) := by rw [List.take_take, Nat.min_eq_left (Nat.mul_le_mul_right _ hnc)]
        rw [← hs, ← this, hab, List.take_append_of_le_length (by omega), List.take_of_length_le (by omega)]
      have hdrop : ((arr.toList.drop (n * i.size + news.length)).take ((cap - (n + ys.length)) * te.size)) = vb.drop (ys.length * te.size) := by
        have e1 : vb = (arr.toList.take (cap * te.size)).drop (n * te.size) := by rw [hab, List.drop_append_of_le_length (by omega), List.drop_of_length_le (by omega), List.nil_append]
        rw [e1, List.drop_drop, List.drop_take, hnl, ← hs]
        congr 1
        rw [Nat.sub_mul, Nat.add_mul]
      rw [htake] at hrun
      have hvbd := hvb.drop (ys.length * te.size)
      have hdl : (rest.drop (ys.length * te.size)).length = (cap - (n + ys.length)) * te.size := by
        rw [List.length_drop, hrl, ← Nat.sub_mul]
        congr 1
        omega
      obtain ⟨q1, q2⟩ := step_setVar hr (l := l) (g := g) (cs := (V.flat us ++ V.flat ys) ++ rest.drop (ys.length * te.size)) (arr1 := (va ++ news ++ arr.toList.drop (n * i.size + news.length)).toArray) hv hg h2 (by
          have := hnr.length
          simp only [List.length_append, List.length_drop, hul, hrl] at *
          rw [Nat.sub_mul] at *
          omega) (by
          have hl1 : ((V.flat us ++ V.flat ys) ++ rest.drop (ys.length * te.size)).length = (va ++ news).length + (cap - (n + ys.length)) * te.size := by
            rw [List.length_append, hdl, List.length_append, List.length_append, hul, ← hnr.length, hval, hul]
          show RepL E _ ((va ++ news ++ arr.toList.drop (n * i.size + news.length)).take _)
          rw [hl1, List.take_length_add_append, hdrop]
          exact (hva.append hnr).append hvbd) (by
          have hl1 : ((V.flat us ++ V.flat ys) ++ rest.drop (ys.length * te.size)).length = cap * te.size := by
            have := hnr.length
            rw [List.length_append, hdl, List.length_append, hul, ← this, hnl, ← Nat.add_mul, ← Nat.add_mul]
            congr 1
            omega
          rw [hl1]
          simp only [List.size_toArray, List.length_append, List.length_drop, Array.length_toList]
          have hle3 := hle2
          rw [hs] at hle3
          rw [hval, hul, hs]
          omega)
      refine ⟨.slm (.is cap) l 0 (n + ys.length), s.setVar l ((V.flat us ++ V.flat ys) ++ rest.drop (ys.length * te.size)), ⟨cap, l, _, rfl, hroom, hdl, .inr ⟨hun, rfl, rfl⟩⟩, _, _, hrun, q1, q2, ?_⟩
      exact .slm (q1.ev.loc _ _ hg) hroom hcm rfl
    · have hrun := run_append_grow (P := P) E.w T ty e i z hd hi hz ⟨g, 0, none⟩ n cap va (by rw [hval, hul, hs]) hcell a ys.length cy news (by rw [← hs]; exact hnl) hnews (by omega) (by omega) (growslice_fits (by omega) (by rw [← hby]; exact hb1))
      refine own_new (e := e) hr (cvs := va ++ news) (rv := (Builtin.zeroCells z.cells (grownCap E.w (n + ys.length) cap e - (n + ys.length))).toList) (hva.append hnr) (grownCap_ge E.w _ cap e) (grownCap_le_maxLen E.w _ cap e hmx) (hzc _) ?_
      rw [hrun]
      congr 3
      simp
end
/-! ### Out of the books -/
mutual
inductive ConsO : List BE → V → V → List BE → Prop
  | scal {H v} : v.scal = true → ConsO H v v H
  | slm0 {H} : ConsO H (.slm (.is 0) 0 0 0) (.sl 0 []) H
  | own {H H' v d} (i : Nat) : nthO H i = some (.own v d) → eraO H i = some H' → ConsO H v d H'
  | agg {H H' vs ds} : ConsOL H vs ds H' → ConsO H (.agg vs) (.agg ds) H'
inductive ConsOL : List BE → List V → List V → List BE → Prop
  | nil {H} : ConsOL H [] [] H
  | cons {H H1 H2 v d vs ds} : ConsO H v d H1 → ConsOL H1 vs ds H2 → ConsOL H (v :: vs) (d :: ds) H2
end
mutual
theorem ConsO.sound {s : S} : ∀ {H H' : List BE} {v d : V}, ConsO H v d H' → ∀ {ls : List (Bool × Nat)}, HoldL s H ls → ∃ a l', Ow s v d a ∧ HoldL s H' l' ∧ LeL (a ++ l') ls
  | _, _, _, _, .scal h1, ls, h => ⟨[], ls, .scal h1, h, LeL.refl _⟩
  | _, _, _, _, .slm0, ls, h => ⟨[], ls, .slm0, h, LeL.refl _⟩
  | _, _, _, _, .own i h1 h2, ls, h => h.take h1 h2
  | _, _, _, _, .agg h1, ls, h => by
    obtain ⟨a, l', k1, k2, k3⟩ := h1.sound h
    exact ⟨a, l', .agg k1, k2, k3⟩
theorem ConsOL.sound {s : S} : ∀ {H H' : List BE} {vs ds : List V}, ConsOL H vs ds H' → ∀ {ls : List (Bool × Nat)}, HoldL s H ls → ∃ a l', OwL s vs ds a ∧ HoldL s H' l' ∧ LeL (a ++ l') ls
  | _, _, _, _, .nil, ls, h => ⟨[], ls, .nil, h, LeL.refl _⟩
  | _, _, _, _, .cons h1 h2, ls, h => by
    obtain ⟨a1, l1, k1, k2, k3⟩ := h1.sound h
    obtain ⟨a2, l2, m1, m2, m3⟩ := h2.sound k2
    refine ⟨a1 ++ a2, l2, .cons k1 m1, m2, ?_⟩
    rw [List.append_assoc]
    exact ((LeL.refl a1).app m3).trans k3
end
theorem ConsO.op {H H' : List BE} {v d : V} (h : Pick H (.own v d) H') : ConsO H v d H' := by
  obtain ⟨i, h1, h2⟩ := h.idx
  exact .own i h1 h2
/-- Taken out, put in at the front. -/
theorem Hold.pack {s : S} {b : Nat} {H H' : List BE} {v d : V} (h : Hold s b H) (hc : ConsO H v d H') : Hold s b (.own v d :: H') := by
  obtain ⟨ls, h1, h2, h3⟩ := h.ex
  obtain ⟨a, l', k1, k2, k3⟩ := hc.sound h1
  exact ⟨a ++ l', .cons k1 k2, k3.1 h2, fun p hp => h3 p (k3.2 p hp)⟩
theorem Hold.packL {s : S} {b : Nat} {H H' : List BE} {vs ds : List V} (h : Hold s b H) (hc : ConsOL H vs ds H') : Hold s b (.own (.agg vs) (.agg ds) :: H') := h.pack (.agg hc)
theorem Hold.nil0 {s : S} {b : Nat} {H : List BE} (h : Hold s b H) : Hold s b (.own (.slm (.is 0) 0 0 0) (.sl 0 []) :: H) := h.pack .slm0
/-- A row of values, one by one. -/
theorem Hold.unagg {s : S} {b : Nat} {H : List BE} {v d : V} {vs ds : List V} (h : Hold s b (.own (.agg (v :: vs)) (.agg (d :: ds)) :: H)) : Hold s b (.own v d :: .own (.agg vs) (.agg ds) :: H) := by
  obtain ⟨ls, h1, h2, h3⟩ := h.ex
  refine ⟨ls, ?_, h2, h3⟩
  cases h1 with
  | cons k1 k2 =>
    have k1' : Ow s (.agg (v :: vs)) (.agg (d :: ds)) _ := k1
    cases k1' with
    | scal hs => simp [V.scal] at hs
    | agg k =>
      cases k with
      | cons m1 m2 => rw [List.append_assoc]; exact .cons m1 (.cons (show BOk s (.own (.agg vs) (.agg ds)) _ from .agg m2) k2)
theorem Hold.ownOk {s : S} {H : List BE} {b : Nat} {v d : V} (h : Hold s b H) (hm : BE.own v d ∈ H) : ∃ a, Ow s v d a ∧ ∀ p ∈ a, p.2 < b := h.at hm
theorem Hold.drop1 {s : S} {b : Nat} {e : BE} {H : List BE} (h : Hold s b (e :: H)) : Hold s b H := h.sel (Sel.drop (Sel.refl H))
/-- What an owned slice is. -/
theorem Hold.slc {s : S} {b : Nat} {H : List BE} {v : V} {ds : List V} (h : Hold s b (.own v (.sl 0 ds) :: H)) : ∃ c l, v = .slm (.is c) l 0 ds.length ∧ ds.length ≤ c := by
  obtain ⟨a, k, _⟩ := h.ownOk (List.mem_cons_self ..)
  cases k with
  | scal h => cases h
  | slm0 => exact ⟨0, _, rfl, Nat.le_refl _⟩
  | slc h1 h2 h3 h4 h5 h0 h6 => exact ⟨_, _, by rw [h6.len, h2], by rw [h6.len, h2]; exact h5⟩
theorem Hold.aggOk {s : S} {b : Nat} {H : List BE} {v : V} {ds : List V} (h : Hold s b (.own v (.agg ds) :: H)) : ∃ vs, v = .agg vs ∧ vs.length = ds.length := by
  obtain ⟨a, k, _⟩ := h.ownOk (List.mem_cons_self ..)
  cases k with
  | scal h => cases h
  | agg h => exact ⟨_, rfl, h.len.symm⟩
theorem Hold.scalOk {s : S} {b : Nat} {H : List BE} {v d : V} (h : Hold s b (.own v d :: H)) (hd : d.scal = true) : v = d := by
  obtain ⟨a, k, _⟩ := h.ownOk (List.mem_cons_self ..)
  cases k with
  | scal h => rfl
  | slm0 => cases hd
  | slc h1 h2 h3 h4 h5 h0 h6 => cases hd
  | agg h => cases hd
/-! ### Rules -/
section
variable {P : Program} {N : Nat} {ops : Array Oper} {l : List Oper} {K : Kn → S → Prop} {L : Kn} {s : S} {tt : BT} {d : Nat} {ty : TypeId} {p : String} {a : Array Edge} {H H1 : List BE}
theorem elems_sizes {te : Ty} {vs : List V} (h : Elems te vs) : ∀ v ∈ vs, v.cells.length = te.size := fun v hv => by
  unfold Elems at h
  have := List.all_eq_true.1 h v hv
  rw [Bool.and_eq_true, decide_eq_true_eq] at this
  exact this.1
theorem elems_ones {te : Ty} {vs : List V} (h : Elems te vs) : (V.flat vs).all V.one = true := by
  rw [List.all_eq_true]
  intro c hc
  obtain ⟨y, hy, hcy⟩ := List.mem_flatMap.1 hc
  unfold Elems at h
  have := List.all_eq_true.1 h y hy
  simp only [Bool.and_eq_true, List.all_eq_true] at this
  exact this.2 c hcy
/-- An append to an owned slice: it answers an owned slice. -/
theorem LOps.appO' (ht : tt.ok P) {T U e : TypeId} {t te : Ty} {x y : Operand} {u v : V} {ds vs ds2 : List V} {H2 : List BE} (i : Nat) (hx : opd L x = some u) (hux : ∀ E val, RepV E u val → RepV E v val) (hi : nthO H i = some (.own v (.sl 0 ds))) (he : eraO H i = some H1) (hy : opd L y = some (.sl 0 vs))
    (hT : tt.get T = some t) (hkd : t.kd = .slice e) (hte : tt.get e = some te) (hz : (Nat.beq te.zero.length te.size && Nat.blt 0 te.size) = true) (hU : Nat.beq U T = true) (hds : ∀ x ∈ ds, x.cells.length = te.size) (hh : Hold s s.next H)
    (hc : ConsOL H1 vs ds2 H2) (hall : Elems te vs) (hne : vs.isEmpty = false) (hb : AppB (ds.length + vs.length) te.bytes)
    (hk : ∀ (s' : S) (c n : Nat), Hold s' s'.next (.own (.slm (.is c) n 0 (ds.length + vs.length)) (.sl 0 (ds ++ ds2)) :: H2) → LOps P N ops l K ((d, .slm (.is c) n 0 (ds.length + vs.length)) :: L) (s'.ext [])) : LOps P N ops (⟨some d, appCall x y #[T, U], ty, p, a, none⟩ :: l) K L (s.ext []) := by
  simp only [Bool.and_eq_true] at hz
  have hU' := Nat.eq_of_beq_eq_true hU
  subst hU'
  have hpos : 0 < vs.length := by cases vs with | nil => cases hne | cons _ _ => simp
  obtain ⟨ls, h1, h2, h3⟩ := hh.ex
  obtain ⟨a0, l0, k1, k2, k3⟩ := h1.take hi he
  obtain ⟨b2, l2, m1, m2, m3⟩ := hc.sound k2
  have hL2 : LeL (a0 ++ (b2 ++ l2)) ls := ((LeL.refl a0).app m3).trans k3
  have hnd := hL2.1 h2
  have hlt : ∀ p ∈ a0 ++ (b2 ++ l2), p.2 < s.next := fun p hp => h3 p (hL2.2 p hp)
  have hsz := elems_sizes hall
  -- what the slice is
  obtain ⟨c, lv, us, rest, rfl, hun, hus, hvars, la, hOw, hla⟩ : ∃ (c lv : Nat) (us rest : List V), v = .slm (.is c) lv 0 ds.length ∧ us.length = ds.length ∧ (∀ u ∈ us, u.cells.length = te.size) ∧
      ((c = 0 ∧ ds.length = 0 ∧ us = []) ∨ (us ≠ [] ∧ s.vars lv = some (V.flat us ++ rest) ∧ rest.length = (c - ds.length) * te.size ∧ ds.length ≤ c)) ∧ ∃ la, OwL s us ds la ∧ (us = [] ∧ a0 = la ∨ us ≠ [] ∧ a0 = la ++ [(true, lv)]) := by
    have k1' : Ow s v (.sl 0 ds) a0 := k1
    cases k1' with
    | scal h => cases h
    | slm0 => exact ⟨0, 0, [], [], rfl, rfl, (fun u hu => by cases hu), .inl ⟨rfl, rfl, rfl⟩, [], .nil, .inl ⟨rfl, rfl⟩⟩
    | @slc lz n c sz us _ rest la q1 q2 q3 q4 q5 q0 q6 =>
      have hlen := q6.len
      subst q2
      cases us with
      | nil => exact absurd rfl q0
      | cons u us =>
        have e1 : sz = te.size := by
          cases q6 with
          | @cons _ _ dd dds _ _ w1 w2 =>
            rw [← q3 u (by simp), ← w1.rd.cells_len]
            exact hds dd (by simp)
        subst e1
        exact ⟨c, lz, u :: us, rest, by rw [hlen], by rw [hlen], q3, .inr ⟨q0, q1, by rw [hlen]; exact q4, by rw [hlen]; exact q5⟩, _, q6, .inr ⟨q0, rfl⟩⟩
  have hlv : us ≠ [] → lv < s.next := fun hne => by
    rcases hla with ⟨h, _⟩ | ⟨_, h⟩
    · exact absurd h hne
    · exact hlt (true, lv) (by rw [h]; simp)
  have hal : LeL la a0 := by
    rcases hla with ⟨_, h⟩ | ⟨_, h⟩
    · rw [h]; exact LeL.refl _
    · rw [h]; exact LeL.left _ _
  have hLa : LeL (la ++ (b2 ++ l2)) ls := (hal.app (LeL.refl _)).trans hL2
  refine .geng (vs := [u, .sl 0 vs]) (R := AppR (s.ext []) (us ≠ []) lv te.size (ds.length + vs.length) (V.flat (us ++ vs))) (by
    show opdL L [x, y] = _
    simp only [opdL, hx, hy]) (fun E A hr hrep => ?_) (fun v' s' hR => ?_)
  · obtain ⟨t', d0, _, hd, hkd', _⟩ := tyOf_parts (ht.get hT)
    rw [hkd] at hkd'
    have : d0 = .slice e := by cases d0 <;> simp [kdOf] at hkd'; rw [hkd']
    subst this
    obtain ⟨i0, z, hi0, hz0, hs0, hzs0, hrep0⟩ := zero_rep (ht.get hte) ⟨Nat.eq_of_beq_eq_true hz.1, by simpa using hz.2⟩
    obtain ⟨i', _, hi', _, _, _, hb', _⟩ := tyOf_parts (ht.get hte)
    rw [hi0] at hi'
    cases hi'
    have hrep' : RepL E [u, .sl 0 vs] [A.eval x, A.eval y] := hrep
    cases hrep' with
    | cons r1 r2 => cases r2 with
      | cons r2 r3 =>
        cases r3
        obtain ⟨ad, m, cy, news, hyv, hm, hmc, hnl, hnr, hnews, hnone⟩ := elems_sound (ht.get hte) (by simpa using hz.2) hr r2 (show elemsOf te (.sl 0 vs) (s.ext []) = some vs from rfl) hsz
        subst hm
        obtain ⟨ad, rfl⟩ : ∃ b, ad = some b := by
          cases ad with
          | none => have := hnone rfl; omega
          | some b => exact ⟨b, rfl⟩
        obtain ⟨v', s', h4, h5⟩ := own_append (P := P) (ty := ty) (te := te) (us := us) (rest := rest) hd hi0 hz0 hzs0 hs0 hb' hr (hux E _ r1) (by
          rcases hvars with h | ⟨q0, q1, q2, q3⟩
          · exact .inl h
          · exact .inr ⟨q0, by rw [ext_vars_lt s [] (hlv q0)]; exact q1, q2, q3⟩) hun hus (a := ad) (cy := cy) hpos hnl hnr (hnews ad rfl) (RepL.one hnr (elems_ones hall)) hb.1 hb.2
        refine ⟨v', s', h4, .of h5 ?_⟩
        rw [← hyv]
        have hexec : execOp A.eval ⟨some d, appCall x y #[U, U], ty, p, a, none⟩ = builtin .append #[U, U] ty (#[x, y].map fun | .const _ => true | _ => false) (#[x, y].map A.eval) := by
          simp only [execOp, appCall, resolve]
          rfl
        rw [hexec, show #[x, y].map A.eval = #[A.eval x, A.eval y] by simp]
        rfl
  · obtain ⟨c', n', rest', rfl, hm, hrl, h4⟩ := hR.ex
    have hflne : us ++ vs ≠ [] := by
      intro h
      have := congrArg List.length h
      simp only [List.length_append, List.length_nil] at this
      omega
    have hall' : ∀ u ∈ us ++ vs, u.cells.length = te.size := fun u hu => by
      rcases List.mem_append.1 hu with hu | hu
      · exact hus u hu
      · exact hsz u hu
    have hlen' : (us ++ vs).length = ds.length + vs.length := by rw [List.length_append, hun]
    rcases h4 with ⟨rfl, rfl⟩ | ⟨hq, rfl, rfl⟩
    · have e1 : (s.ext []).next = s.next := by rw [ext_next]; rfl
      have e2 : (s.ext []).newVar (V.flat (us ++ vs) ++ rest') = (s.ext [.var (V.flat (us ++ vs) ++ rest')]).ext [] := by rw [ext_newVar, ext_ext_nil]; rfl
      rw [e1, e2]
      refine hk _ _ _ ?_
      have hw : OwL (s.ext [.var (V.flat (us ++ vs) ++ rest')]) (us ++ vs) (ds ++ ds2) (la ++ b2) := (hOw.append m1).congr fun p hp => .lt (hlt p (by
        rcases List.mem_append.1 hp with hp | hp
        · exact List.mem_append_left _ (hal.2 p hp)
        · exact List.mem_append_right _ (List.mem_append_left _ hp)))
      refine ⟨((la ++ b2) ++ [(true, s.next)]) ++ l2, .cons (show BOk _ (.own _ _) _ from .slc (by rw [ext_vars0]; rfl) hlen' hall' hrl hm hflne hw) (m2.congr (by rw [ext_next]; omega) fun p hp => .lt (hlt p (List.mem_append_right _ (List.mem_append_right _ hp)))), ?_, fun p hp => ?_⟩
      · have hr : LeL (((la ++ b2) ++ [(true, s.next)]) ++ l2) ([(true, s.next)] ++ (la ++ (b2 ++ l2))) := by
          rw [show [(true, s.next)] ++ (la ++ (b2 ++ l2)) = ([(true, s.next)] ++ (la ++ b2)) ++ l2 by simp]
          exact (LeL.comm (la ++ b2) [(true, s.next)]).app (LeL.refl l2)
        refine hr.1 ?_
        rw [List.singleton_append, List.nodup_cons]
        exact ⟨fun hm => by have := h3 _ (hLa.2 _ hm); simp at this, hLa.1 h2⟩
      · rw [ext_next]
        simp only [List.mem_append, List.mem_singleton] at hp
        rcases hp with ((hp | hp) | rfl) | hp
        · have := h3 p (hLa.2 p (by simp [hp])); simp only [List.length_singleton]; omega
        · have := h3 p (hLa.2 p (by simp [hp])); simp only [List.length_singleton]; omega
        · simp
        · have := h3 p (hLa.2 p (by simp [hp])); simp only [List.length_singleton]; omega
    · have hlt2 := hlv hq
      rw [ext0_setVar hlt2]
      refine hk _ _ _ ?_
      have ha0 : a0 = la ++ [(true, n')] := by
        rcases hla with ⟨h, _⟩ | ⟨_, h⟩
        · exact absurd h hq
        · exact h
      rw [ha0] at hnd
      have hnot : ∀ p, p ∈ la ∨ p ∈ b2 ∨ p ∈ l2 → SameOn s (s.setVar n' (V.flat (us ++ vs) ++ rest')) p := fun p hp => by
        have hne : p ≠ (true, n') := by
          rintro rfl
          rw [List.append_assoc, List.singleton_append, List.nodup_append, List.nodup_cons] at hnd
          rcases hp with hp | hp
          · exact hnd.2.2 _ hp _ (by simp) rfl
          · exact hnd.2.1.1 (by simpa using hp)
        refine ⟨fun e => ?_, fun _ => rfl⟩
        have : p.2 ≠ n' := fun e2 => hne (by rw [← e, ← e2])
        simp [S.setVar, this]
      have hw : OwL (s.setVar n' (V.flat (us ++ vs) ++ rest')) (us ++ vs) (ds ++ ds2) (la ++ b2) := (hOw.append m1).congr fun p hp => hnot p (by
        rcases List.mem_append.1 hp with hp | hp
        · exact .inl hp
        · exact .inr (.inl hp))
      have hr : LeL (((la ++ b2) ++ [(true, n')]) ++ l2) (a0 ++ (b2 ++ l2)) := by
        rw [ha0, List.append_assoc la, List.append_assoc la, List.append_assoc la, ← List.append_assoc [(true, n')]]
        exact (LeL.refl la).app ((LeL.comm b2 [(true, n')]).app (LeL.refl l2))
      refine ⟨((la ++ b2) ++ [(true, n')]) ++ l2, .cons (show BOk _ (.own _ _) _ from .slc (by simp [S.setVar]) hlen' hall' hrl hm hflne hw) (HoldL.congr (s := s) (s' := s.setVar n' (V.flat (us ++ vs) ++ rest')) (show s.next ≤ s.next from Nat.le_refl _) m2 fun p hp => hnot p (.inr (.inr hp))), (hr.trans hL2).1 h2, fun p hp => h3 p ((hr.trans hL2).2 p hp)⟩
theorem LOps.appW (ht : tt.ok P) {T U e : TypeId} {t te : Ty} {x y : Operand} {v : V} {ds vs ds2 : List V} {H2 : List BE} (i : Nat) (hx : opd L x = some v) (hi : nthO H i = some (.own v (.sl 0 ds))) (he : eraO H i = some H1) (hy : opd L y = some (.sl 0 vs))
    (hT : tt.get T = some t) (hkd : t.kd = .slice e) (hte : tt.get e = some te) (hz : (Nat.beq te.zero.length te.size && Nat.blt 0 te.size) = true) (hU : Nat.beq U T = true) (hne : vs.isEmpty = false) (hh : Hold s s.next H)
    (hds : ∀ x ∈ ds, x.cells.length = te.size) (hc : ConsOL H1 vs ds2 H2) (hall : Elems te vs) (hb : AppB (ds.length + vs.length) te.bytes)
    (hk : ∀ (s' : S) (c n : Nat), Hold s' s'.next (.own (.slm (.is c) n 0 (ds.length + vs.length)) (.sl 0 (ds ++ ds2)) :: H2) → LOps P N ops l K ((d, .slm (.is c) n 0 (ds.length + vs.length)) :: L) (s'.ext [])) : LOps P N ops (⟨some d, appCall x y #[T, U], ty, p, a, none⟩ :: l) K L (s.ext []) :=
  .appO' ht i hx (fun _ _ h => h) hi he hy hT hkd hte hz hU hds hh hc hall hne hb hk
theorem nil_slm0 {u : V} (hu : nilO u = true) (E : Env) (val : Value) (h : RepV E u val) : RepV E (.slm (.is 0) 0 0 0) val := by
  unfold nilO at hu
  split at hu
  · cases h; exact .slm0
  · cases h; exact .slm0
  · cases hu
/-- An append to an empty slice without capacity. -/
theorem LOps.appS (ht : tt.ok P) {T U e : TypeId} {t te : Ty} {x y : Operand} {vs ds2 : List V} {H2 : List BE} (hx : opd L x = some (.slm (.is 0) 0 0 0)) (hy : opd L y = some (.sl 0 vs))
    (hT : tt.get T = some t) (hkd : t.kd = .slice e) (hte : tt.get e = some te) (hz : (Nat.beq te.zero.length te.size && Nat.blt 0 te.size) = true) (hU : Nat.beq U T = true) (hne : vs.isEmpty = false) (hh : Hold s s.next H)
    (hc : ConsOL H vs ds2 H2) (hall : Elems te vs) (hb : AppB vs.length te.bytes)
    (hk : ∀ (s' : S) (c n : Nat), Hold s' s'.next (.own (.slm (.is c) n 0 vs.length) (.sl 0 ds2) :: H2) → LOps P N ops l K ((d, .slm (.is c) n 0 vs.length) :: L) (s'.ext [])) : LOps P N ops (⟨some d, appCall x y #[T, U], ty, p, a, none⟩ :: l) K L (s.ext []) := by
  refine LOps.appO' (H1 := H) (ds := []) ht 0 hx (fun _ _ h => h) rfl rfl hy hT hkd hte hz hU (fun x hx => by cases hx) hh.nil0 hc hall hne ?_ ?_
  · simpa using hb
  · simpa using hk
/-! ### Slice literals -/
theorem opdL_parts {L : Kn} : ∀ {xs : List (Nat × Operand)} {ps : List (Nat × V)}, opdP L xs = some ps → opdL L (xs.map (·.2)) = some (ps.map (·.2))
  | [], ps, h => by cases h; rfl
  | (i, x) :: xs, ps, h => by
    unfold opdP at h
    split at h
    case h_2 => cases h
    rename_i v e
    split at h
    case h_2 => cases h
    rename_i us e2
    cases h
    simp only [List.map_cons, opdL, e, opdL_parts e2]
theorem RepP.ofL {L : Kn} {E : Env} {A : Act} : ∀ {xs : List (Nat × Operand)} {ps : List (Nat × V)}, opdP L xs = some ps → RepL E (ps.map (·.2)) ((xs.map (·.2)).map A.eval) → RepP E ps (xs.map fun p => (p.1, A.eval p.2))
  | [], ps, h, _ => by cases h; exact .nil
  | (i, x) :: xs, ps, h, hr => by
    unfold opdP at h
    split at h
    case h_2 => cases h
    rename_i v e
    split at h
    case h_2 => cases h
    rename_i us e2
    cases h
    cases hr with
    | cons r1 r2 => exact .cons r1 (RepP.ofL e2 r2)
theorem own_lit {P : Program} {T e : TypeId} {t te : Ty} {E : Env} {s : S} (ht : tyOf P T = some t) (hkd : t.kd = .slice e) (hte : tyOf P e = some te) {m : Nat} {ps : List (Nat × V)} {pv : List (Nat × Value)} {vs : List V} (hr : RelS E s) (hp : RepP E ps pv)
    (hz1 : te.zero.length = te.size) (hz2 : 0 < te.size) (hz3 : m * te.size ≤ 16777216) (hsq : seqO 0 ps = some vs) (hm' : vs.length = m) (h0' : m ≠ 0) (hcl : ∀ v ∈ vs, v.cells.length = te.size) :
    Does P (Instr.buildSlice T m pv.toArray) E s (.slm (.is m) s.next 0 m) (s.newVar (V.flat vs)) := by
  obtain ⟨_, d, _, hd, hk, _⟩ := tyOf_parts ht
  rw [hkd] at hk
  have : d = .slice e := by cases d <;> simp [kdOf] at hk; rw [hk]
  subst this
  have hcs := vfill_seq (n := m) hz1 (us := []) (by simpa using hsq) (by simpa using hcl) (by simp; omega)
  rw [List.nil_append, filled_full hm', filled_nil] at hcs
  obtain ⟨i, z, hi, hz, hs, hzs, hrep⟩ := zero_rep hte ⟨hz1, hz2⟩
  have hzr := (hrep E).replicate m
  obtain ⟨A, hA, hAr⟩ := vfill_sound hp hzr hcs
  have hlcs : (V.flat vs).length = m * te.size := by rw [flat_uniform hcl, hm']
  have hAl := hAr.length
  have hnot : ¬ (m * i.size > 2 ^ 24) := by rw [← hs]; omega
  have hmod := range_mod z.cells (by omega) m
  rw [hzs] at hmod
  have hplace : (fun j => some (j * i.size, i.size)) = (fun j => some (j * te.size, te.size)) := by rw [hs]
  have hrun : (Instr.buildSlice T m pv.toArray).run P E.w = .ok (.slice (some ⟨E.w.heap.size, 0, none⟩) m m) (E.w.alloc (.cells A e)) := by
    have hl0 : ¬ m * i.size = 0 := by
      rw [← hs]
      intro h
      rcases Nat.mul_eq_zero.1 h with h | h <;> omega
    simp only [Instr.buildSlice, Sem.run_bind, run_underlying hd, Result.andThen_ok, run_sizeOf' hi, hnot, if_false, hplace]
    have hm2 : (Array.range (m * i.size)).map (z.cells[· % z.cells.size]!) = (List.replicate m z.cells.toList).flatten.toArray := by
      apply Array.ext'
      rw [hzs, hmod]
    simp only [hl0, if_false, Sem.run_bind, zeroValue, run_typeInfo' hi, Result.andThen_ok, hz, Sem.run_pure, hm2, hA, newRow, run_newObj_alloc]
  have hAs : A.size = m * te.size := by simp only [Array.length_toList] at hAl; omega
  have hmx : m ≤ maxLen := by
    have : m ≤ m * te.size := Nat.le_mul_of_pos_right _ hz2
    unfold maxLen
    omega
  obtain ⟨k1, k2⟩ := step_newVar (arr := A) (cs := V.flat vs) hr (by
    rw [hlcs, ← hAs, ← Array.length_toList, List.take_length]
    exact hAr) (by rw [hlcs, hAs]; exact Nat.le_refl _) e (0, 0) (fun o _ h => by omega)
  exact ⟨_, E.newVar s.next A e (0, 0), hrun, k1, k2, .slm (by simp [Env.newVar]) (Nat.le_refl _) hmx rfl⟩
theorem LOps.bslO (ht : tt.ok P) {T e : TypeId} {t te : Ty} {m : Nat} {parts : Array (Nat × Operand)} {ps : List (Nat × V)} {vs ds : List V} {H' : List BE} (hp : opdP L parts.toList = some ps) (hT : tt.get T = some t) (hkd : t.kd = .slice e) (hte : tt.get e = some te)
    (hz : (Nat.beq te.zero.length te.size && Nat.blt 0 te.size && Nat.ble (m * te.size) 16777216) = true) (hsq : seqO 0 ps = some vs) (hlen : Nat.beq vs.length m = true) (hm : Nat.beq m 0 = false) (hh : Hold s s.next H) (hc : ConsOL H vs ds H') (hel : ElsH te vs)
    (hk : ∀ (s' : S) (n : Nat), Hold s' s'.next (.own (.slm (.is m) n 0 m) (.sl 0 ds) :: H') → LOps P N ops l K ((d, .slm (.is m) n 0 m) :: L) (s'.ext [])) : LOps P N ops (⟨some d, .buildSlice T m parts, ty, p, a, none⟩ :: l) K L (s.ext []) := by
  simp only [Bool.and_eq_true] at hz
  have hm' : vs.length = m := Nat.eq_of_beq_eq_true hlen
  have h0 : ¬ m = 0 := fun e => by rw [e] at hm; cases hm
  have hcl : ∀ v ∈ vs, v.cells.length = te.size := fun v hv => (hel v hv).1
  obtain ⟨ls, h1, h2, h3⟩ := hh.ex
  obtain ⟨b2, l2, m1, m2, m3⟩ := hc.sound h1
  have hlt : ∀ p ∈ b2 ++ l2, p.2 < s.next := fun p hp => h3 p (m3.2 p hp)
  refine .geng (vs := ps.map (·.2)) (R := fun v s' => v = .slm (.is m) (s.ext []).next 0 m ∧ s' = (s.ext []).newVar (V.flat vs)) (by
    show opdL L ((parts.toList.map (·.2)).toArray).toList = _
    exact opdL_parts hp) (fun E A hr hrep => ?_) (fun v' s' hR => ?_)
  · refine ⟨_, _, ⟨rfl, rfl⟩, .of (own_lit (ht.get hT) hkd (ht.get hte) hr (RepP.ofL hp hrep) (Nat.eq_of_beq_eq_true hz.1.1) (by simpa using hz.1.2) (Nat.le_of_ble_eq_true hz.2) hsq hm' h0 hcl) ?_⟩
    have : (parts.toList.map fun p => (p.1, A.eval p.2)).toArray = parts.map fun p => (p.1, A.eval p.2) := by apply Array.ext'; simp
    simp only [execOp, this]
    try rfl
  · obtain ⟨rfl, rfl⟩ := hR
    have e1 : (s.ext []).next = s.next := by rw [ext_next]; rfl
    have e2 : (s.ext []).newVar (V.flat vs) = (s.ext [.var (V.flat vs)]).ext [] := by rw [ext_newVar, ext_ext_nil]; rfl
    rw [e1, e2]
    refine hk _ _ ?_
    have hne : vs ≠ [] := fun e => h0 (by rw [← hm', e]; rfl)
    refine ⟨(b2 ++ [(true, s.next)]) ++ l2, .cons (show BOk _ (.own _ _) _ from .slc (rest := []) (by rw [ext_vars0, List.append_nil]; rfl) hm' hcl (by simp) (Nat.le_refl _) hne (m1.congr fun p hp => .lt (hlt p (List.mem_append_left _ hp)))) (m2.congr (by rw [ext_next]; omega) fun p hp => .lt (hlt p (List.mem_append_right _ hp))), ?_, fun p hp => ?_⟩
    · have hr : LeL ((b2 ++ [(true, s.next)]) ++ l2) ([(true, s.next)] ++ (b2 ++ l2)) := by
        rw [← List.append_assoc]
        exact (LeL.comm b2 _).app (LeL.refl l2)
      refine hr.1 ?_
      rw [List.singleton_append, List.nodup_cons]
      exact ⟨fun hm => by have := hlt _ hm; simp at this, m3.1 h2⟩
    · rw [ext_next]
      simp only [List.mem_append, List.mem_singleton] at hp
      rcases hp with (hp | rfl) | hp
      · have := hlt p (List.mem_append_left _ hp); simp only [List.length_singleton]; omega
      · simp
      · have := hlt p (List.mem_append_right _ hp); simp only [List.length_singleton]; omega
end
/-! ### Nil slices where they are made -/
theorem AnsL.geng {P : Program} {L : Kn} {s : S} {op : Op} {vs : List V} {v : V} (hv : opdL L op.operands.toList = some vs)
    (hg : ∀ (d : Option Nat) (ty : TypeId) (p : String) (a : Array Edge) (g : Option (Nat × Bool)) (E : Env) (A : Act), RelS E s → RepL E vs (op.operands.toList.map A.eval) → DoesO P ⟨d, op, ty, p, a, g⟩ A E s v s) : AnsL P op L s v :=
  ⟨fun _ hσ dst ty p a g _ hk => .inr ⟨vs, fun v' s' => v' = v ∧ s' = s, opdL_eq hσ hv, fun E A hr hrep => ⟨v, s, ⟨rfl, rfl⟩, hg dst ty p a g E A hr hrep⟩, fun v' s' h => by obtain ⟨rfl, rfl⟩ := h; exact hk⟩⟩
/-- An empty slice literal, owned. -/
theorem AnsL.bslN {P : Program} {L : Kn} {s : S} {tt : BT} (ht : tt.ok P) {T e : TypeId} {t te : Ty} {parts : Array (Nat × Operand)} (hp : parts.toList = []) (hT : tt.get T = some t) (hkd : t.kd = .slice e) (hte : tt.get e = some te) (hz : (Nat.beq te.zero.length te.size && Nat.blt 0 te.size) = true) :
    AnsL P (.buildSlice T 0 parts) L s (.slm (.is 0) 0 0 0) := by
  simp only [Bool.and_eq_true] at hz
  refine .geng (vs := []) (by show opdL L ((parts.toList.map (·.2)).toArray).toList = _; rw [hp]; rfl) fun d ty p a g E A hr _ => ?_
  have h := vbuildSlice_sound (P := P) (T := T) (len := 0) (parts := []) (pv := []) (v := .zsl) (s' := s) (s := s) (E := E) hr .nil (by
    simp only [vbuildSlice, ht.get hT, hkd, ht.get hte, Option.bind_some]
    rw [if_pos ⟨Nat.eq_of_beq_eq_true hz.1, by simpa using hz.2, by omega⟩]
    simp [vfill])
  obtain ⟨val, E', h1, h2, h3, h4⟩ := h
  have h4' : RepV E' (.slm (.is 0) 0 0 0) val := nil_slm0 rfl E' val h4
  refine .of ⟨val, E', h1, h2, h3, h4'⟩ ?_
  have hpa : parts = #[] := by apply Array.ext'; simpa using hp
  subst hpa
  simp only [execOp]
  rw [show Array.map (fun x => (x.fst, A.eval x.snd)) (#[] : Array (Nat × Operand)) = #[] by simp]
  try rfl
/-- Nil cells, taken for owned slices. -/
def nzO : List V → Option (List V)
  | [] => some []
  | .nilsl :: vs => match nzO vs with
    | some r => some (.slm (.is 0) 0 0 0 :: r)
    | none => none
  | v :: vs => match nzO vs with
    | some r => some (v :: r)
    | none => none
theorem nzO_rep {E : Env} : ∀ {vs r : List V} {vals : List Value}, nzO vs = some r → RepL E vs vals → RepL E r vals
  | [], r, vals, h, k => by cases h; exact k
  | v :: vs, r, vals, h, k => by
    unfold nzO at h
    cases k with
    | cons k1 k2 =>
      split at h
      · rename_i e; cases e
      · rename_i us e
        cases e
        split at h
        · rename_i r' e2
          cases h
          exact .cons (nil_slm0 rfl E _ k1) (nzO_rep e2 k2)
        · cases h
      · rename_i u us _ e
        cases e
        split at h
        · rename_i r' e2
          cases h
          exact .cons k1 (nzO_rep e2 k2)
        · cases h
theorem own_build {P : Program} {T : TypeId} {parts : List (Nat × V)} {pv : List (Nat × Value)} {t : Ty} {fs : List FieldI} {b : Bool} {zero' cs : List V} {E : Env} (hp : RepP E parts pv) (ht : tyOf P T = some t) (hkd : t.kd = .struct fs b) (h0 : t.zero.length = t.size ∧ 0 < t.size)
    (hzn : nzO t.zero = some zero') (hcs : vfill (placeS fs) zero' parts = some cs) : ∃ val, (Instr.build T pv.toArray).run P E.w = .ok val E.w ∧ RepV E (.agg cs) val := by
  obtain ⟨_, d, _, hd, hk, _⟩ := tyOf_parts ht
  obtain ⟨i, z, hi, hz, hs, hzs, hrep⟩ := zero_rep ht h0
  rw [hkd] at hk
  cases d <;> simp [kdOf] at hk
  rename_i flds _
  obtain ⟨l, hl, ⟨rfl, _⟩⟩ := hk
  have hpl := run_places (P := P) (w := E.w) hl
  obtain ⟨A, hA, hAr⟩ := vfill_sound hp (nzO_rep hzn (hrep E)) hcs
  have hplace : (fun i => ((l.map fun f => (f.off, f.size)).toArray)[i]?) = placeS l := by
    funext i
    simp [placeS]
  refine ⟨.agg A, ?_, by simpa using RepV.agg hAr⟩
  have hmap : (flds.mapM (fun f => do pure (f.offset, ← sizeOf f.type) : Field → Sem (Nat × Nat))).run P E.w = .ok (l.map fun f => (f.off, f.size)).toArray E.w := by
    rw [← Array.toArray_toList (xs := flds), List.mapM_toArray]
    simp only [Sem.run_map, hpl, Result.andThen_ok]
  simp only [Instr.build, Sem.run_bind, zeroValue, run_typeInfo' hi, Result.andThen_ok, hz, Sem.run_pure, run_underlying hd, hmap, hplace]
  rw [Array.toArray_toList] at hA
  simp only [hA, Sem.run_pure]
theorem AnsL.buildZ {P : Program} {L : Kn} {s : S} {tt : BT} (ht : tt.ok P) {T : TypeId} {sz b : Nat} {g : Bool} {zero zero' cs : List V} {fs : List FieldI} {parts : Array (Nat × Operand)} {ps : List (Nat × V)} (hT : tt.get T = some ⟨sz, b, zero, .struct fs g⟩)
    (hz : (Nat.beq zero.length sz && Nat.blt 0 sz) = true) (hzn : nzO zero = some zero') (hp : opdP L parts.toList = some ps) (hf : Fills fs zero' ps cs) : AnsL P (.build T parts) L s (.agg cs) := by
  simp only [Bool.and_eq_true] at hz
  refine .geng (vs := ps.map (·.2)) (by show opdL L ((parts.toList.map (·.2)).toArray).toList = _; exact opdL_parts hp) fun d ty p a gd E A hr hrep => ?_
  refine .same hr (own_build (RepP.ofL hp hrep) (ht.get hT) rfl ⟨Nat.eq_of_beq_eq_true hz.1, by simpa using hz.2⟩ hzn hf.eq) ?_
  have : (parts.toList.map fun p => (p.1, A.eval p.2)).toArray = parts.map fun p => (p.1, A.eval p.2) := by apply Array.ext'; simp
  simp only [execOp, this]
  try rfl
/-! ### Nil slices in results -/
/-! ### Memory of one's own, given up: a plain value -/
def S.lose (s : S) (ls : List (Bool × Nat)) : S := { s with vars := fun x => if (true, x) ∈ ls then none else s.vars x }
theorem Ow.frz {s : S} {v d : V} {ls : List (Bool × Nat)} (h : Ow s v d ls) : VTurn v s d (s.lose ls) := by
  intro E val hr hv
  let so : S := { vars := fun x => if (true, x) ∈ ls then s.vars x else none, fams := fun _ => none, next := s.next }
  have hsov : ∀ l cs, so.vars l = some cs → (true, l) ∈ ls ∧ s.vars l = some cs := fun l cs hl => by
    by_cases e : (true, l) ∈ ls
    · have : so.vars l = s.vars l := if_pos e
      exact ⟨e, by rw [← this]; exact hl⟩
    · have : so.vars l = none := if_neg e
      rw [this] at hl; cases hl
  have hro : RelS E so := hr.weaken (fun l cs hl => (hsov l cs hl).2) (fun _ _ h => by cases h) (Nat.le_refl _)
  have hrd : Rd so v d := (h.congr (s' := so) fun p hp => ⟨fun e => by
    have e2 : p = (true, p.2) := by rw [← e]
    have : so.vars p.2 = s.vars p.2 := if_pos (by rw [← e2]; exact hp)
    exact this, fun e => by rw [(h.vars p hp).1] at e; cases e⟩).rd
  have hls : ∀ l cs, (s.lose ls).vars l = some cs → (true, l) ∉ ls ∧ s.vars l = some cs := fun l cs hl => by
    by_cases e : (true, l) ∈ ls
    · have : (s.lose ls).vars l = none := if_pos e
      rw [this] at hl; cases hl
    · have : (s.lose ls).vars l = s.vars l := if_neg e
      exact ⟨e, by rw [← this]; exact hl⟩
  have hlss : ∀ l, ((s.lose ls).vars l).isSome = true → (true, l) ∉ ls ∧ (s.vars l).isSome = true := fun l hl => by
    obtain ⟨cs, hcs⟩ := Option.isSome_iff_exists.1 hl
    obtain ⟨a, b⟩ := hls l cs hcs
    exact ⟨a, by rw [b]; rfl⟩
  have ev : Evolve E (lentEnv E so) := ⟨fun _ _ i => .inl i, fun _ _ _ => rfl, fun _ _ h => h, fun id F hF => ⟨F, hF, Nat.le_refl _, fun _ => rfl⟩⟩
  refine ⟨lentEnv E so, rfl, hr.fin3 ⟨ev, rfl, rfl, rfl, Nat.le_refl _, fun _ _ _ => rfl, fun k _ ht => ?_, Nat.le_refl _⟩ ⟨fun l cs hl => ?_, fun l l' g hl hl' => hr.varinj l l' g (hlss l hl).2 (hlss l' hl').2, fun id n sz hid => ?_, hr.faminj, fun l g id F hl => hr.famvar l g id F (hlss l hl).2, hr.fresh, hr.pos, fun g o i => ?_⟩ (Rd.rep hro hrd hv)⟩
  · rcases ht with ⟨l, hl, hg⟩ | ht
    · exact .inl ⟨l, (hlss l hl).2, hg⟩
    · exact .inr ht
  · obtain ⟨hn, hv0⟩ := hls l cs hl
    obtain ⟨g, arr, e, fr, h1, h2⟩ := hr.var l cs hv0
    refine ⟨g, arr, e, fr, h1, h2.heap, h2.rep.evolve ev, h2.le, h2.free, fun o i => ?_⟩
    rcases i with i | ⟨l2, cs2, k1, k2, _⟩
    · exact h2.imm o i
    · obtain ⟨k3, k4⟩ := hsov l2 cs2 k1
      have := hr.varinj l l2 g (by rw [hv0]; rfl) (by rw [k4]; rfl) h1 k2
      exact hn (this ▸ k3)
  · obtain ⟨h00, F, h1, h2, h3, h4, h5, h6⟩ := hr.fam id n sz hid
    refine ⟨h00, F, h1, h2, h3, h4, h5, fun g hg => ?_⟩
    obtain ⟨arr, e, fr, h7, h8, h9, h10⟩ := h6 g hg
    refine ⟨arr, e, fr, h7, h8, h9, fun o ho i => ?_⟩
    rcases i with i | ⟨l2, cs2, k1, k2, _⟩
    · exact h10 o ho i
    · obtain ⟨k3, k4⟩ := hsov l2 cs2 k1
      exact hr.famvar l2 g id F (by rw [k4]; rfl) k2 (by rw [show s.fams id = some (n, sz) from hid]; rfl) h1 hg
  · rcases i with i | ⟨l, cs, k1, k2, ho⟩
    · exact hr.imm g o i
    · obtain ⟨g', arr, e, fr, m1, m2⟩ := hro.var l cs k1
      rw [k2] at m1
      cases m1
      have := m2.le
      exact ⟨arr[o]'(by omega), by show E.w.cell? _ = _; rw [cell_of_row E.w _ _ arr e fr m2.heap]; simp⟩
theorem VTurn.tup {vs ds : List V} {s s' : S} (h : VTurn (.agg vs) s (.agg ds) s') : VTurn (.tup vs) s (.tup ds) s' := by
  intro E val hr hv
  cases hv with
  | tup r =>
    obtain ⟨E', h1, h2, h3, h4⟩ := h E _ hr (.agg r)
    cases h4 with
    | agg r2 => exact ⟨E', h1, h2, h3, .tup r2⟩
theorem Hold.frz {s : S} {H : List BE} {v d : V} (h : Hold s s.next (.own v d :: H)) : ∃ s' : S, VTurn v (s.ext []) d (s'.ext []) ∧ Hold s' s'.next H := by
  obtain ⟨ls, h1, h2, h3⟩ := h.ex
  cases h1 with
  | @cons _ a _ b k1 k2 =>
    have k1' : Ow s v d a := k1
    have hlt : ∀ p ∈ a, p.2 < s.next := fun p hp => h3 p (List.mem_append_left _ hp)
    have k3 : Ow (s.ext []) v d a := k1'.congr fun p hp => .lt (hlt p hp)
    have e : (s.ext []).lose a = (s.lose a).ext [] := by
      refine S.ext_eq (fun x => ?_) (fun x => rfl) rfl
      show (if (true, x) ∈ a then none else (s.ext []).vars x) = (if x < s.next then (if (true, x) ∈ a then none else s.vars x) else Own.cells? ([][x - s.next]?))
      by_cases hx : x < s.next
      · rw [if_pos hx, ext_vars_lt s [] hx]
      · rw [if_neg hx]
        by_cases hm : (true, x) ∈ a
        · exact absurd (hlt _ hm) hx
        · rw [if_neg hm]
          show (if x < s.next then s.vars x else Own.cells? ([][x - s.next]?)) = _
          rw [if_neg hx]
    refine ⟨s.lose a, by rw [← e]; exact k3.frz, b, HoldL.congr (s := s) (s' := s.lose a) (show s.next ≤ s.next from Nat.le_refl _) k2 fun p hp => ⟨fun ep => ?_, fun _ => rfl⟩, (List.nodup_append.1 h2).2.1, fun p hp => h3 p (List.mem_append_right _ hp)⟩
    show (if (true, p.2) ∈ a then none else s.vars p.2) = s.vars p.2
    refine if_neg fun hm => (List.nodup_append.1 h2).2.2 _ hm p hp ?_
    obtain ⟨p1, p2⟩ := p
    simp only at ep ⊢
    rw [ep]
/-! ### Draws that take and answer memory of one's own -/
inductive Takes : List BE → List BE → List BE → Prop
  | nil {H} : Takes H [] H
  | cons {H H1 H2 H0 e} (i : Nat) : nthO H i = some e → eraO H i = some H1 → Takes H1 H0 H2 → Takes H (e :: H0) H2
theorem Takes.sel : ∀ {H H0 H1 : List BE}, Takes H H0 H1 → Sel H (H0 ++ H1)
  | _, _, _, .nil => Sel.refl _
  | _, _, _, .cons i h1 h2 h3 => .cons i h1 h2 h3.sel
theorem Takes.p {H H1 H0 H2 : List BE} {e : BE} (h : Pick H e H1) (t : Takes H1 H0 H2) : Takes H (e :: H0) H2 := by
  obtain ⟨i, h1, h2⟩ := h.idx
  exact .cons i h1 h2 t
theorem Sel.app {H1 H' : List BE} (h : Sel H1 H') : ∀ H0 : List BE, Sel (H0 ++ H1) (H0 ++ H')
  | [] => h
  | _ :: H0 => .cons 0 rfl rfl (Sel.app h H0)
/-- A function that draws: it takes 'H0', and answers 'B'. -/
def DrwB (P : Program) (g : FuncId) (b : V) (args : List V) (H0 : List BE) {β : Type} (F : β → V) (B : β → List BE) (p : β → Prop) : Prop :=
  ∀ (s : S) (H : List BE) (l : Nat) (i h : Int), 0 ≤ i → Hold s s.next (H0 ++ .cell l (curC b i h) :: H) →
    VCalls P g (.ptr l 0 :: args) (s.ext []) (fun v t => ∃ (y : β) (s' : S) (i' h' : Int), p y ∧ v = F y ∧ 0 ≤ i' ∧ t = s'.ext [] ∧ Hold s' s'.next (B y ++ .cell l (curC b i' h') :: H))
theorem DrwB.fin {s : S} {b : V} {β : Type} {F : β → V} {B : β → List BE} {p : β → Prop} {v : V} {l : Nat} {i' h' : Int} {H H' : List BE} (y : β) (hp : p y) (hv : v = F y) (hi : 0 ≤ i') (hh : Hold s s.next H') (hs : Sel H' (B y ++ .cell l (curC b i' h') :: H)) :
    ∃ (y : β) (s' : S) (i' h' : Int), p y ∧ v = F y ∧ 0 ≤ i' ∧ s.ext [] = s'.ext [] ∧ Hold s' s'.next (B y ++ .cell l (curC b i' h') :: H) := ⟨y, s, i', h', hp, hv, hi, rfl, hh.sel hs⟩
section
variable {P : Program} {N : Nat} {ops : Array Oper} {l : List Oper} {K : Kn → S → Prop} {L : Kn} {s : S} {d : Nat} {ty : TypeId} {p : String} {a : Array Edge} {H H1 H2 : List BE}
theorem LOps.drawB {f : Operand} {g : FuncId} {args : Array Operand} {A : Array TypeId} {vs : List V} {m : Nat} {b : V} {i h : Int} {H0 : List BE} {β : Type} {F : β → V} {B : β → List BE} {q : β → Prop} (j : Nat) (hf : opd L f = some (.fn g [])) (ha : opdL L args.toList = some (.ptr m 0 :: vs)) (hok : CallOk P g)
    (hh : Hold s s.next H) (hc : DrwB P g b vs H0 F B q) (ht : Takes H H0 H1) (hi : nthO H1 j = some (.cell m (curC b i h))) (he : eraO H1 j = some H2) (h0 : 0 ≤ i)
    (hk : ∀ (s' : S) (y : β) (i' h' : Int), q y → 0 ≤ i' → Hold s' s'.next (B y ++ .cell m (curC b i' h') :: H2) → LOps P N ops l K ((d, F y) :: L) (s'.ext [])) :
    LOps P N ops (⟨some d, .call ⟨.value f, args, A⟩, ty, p, a, none⟩ :: l) K L (s.ext []) := by
  refine .call hf ha (appO_nil _) hok (hc s H2 m i h h0 ((hh.sel ht.sel).sel ((Sel.cons j hi he (Sel.refl _)).app H0))) fun v s' hv => ?_
  obtain ⟨y, t, i', h', h1, rfl, h2, rfl, h3⟩ := hv
  exact hk t y i' h' h1 h2 h3
end
end Go.Proofs.YtbnbmcplmipgdaaGreatDoor
