/-
  Calls that read and write one variable of the caller's, over the books; results of owned memory as new memory. Own work; no condition.
-/
import Derived.Test.YtbnbmcplmipgdaaGreatDoorMg29
namespace Go.Proofs.YtbnbmcplmipgdaaGreatDoor
open Go
set_option linter.unusedSimpArgs false
set_option linter.unusedVariables false

/-- A function that takes a variable first: it finds 'cs' there and leaves 'cs2'; it answers r. -/
def PtrC (P : Program) (g : FuncId) (args cs cs2 : List V) (r : V) : Prop :=
  ∀ (s : S) (H : List BE) (l : Nat), Hold s s.next (.cell l cs :: H) → VCalls P g (.ptr l 0 :: args) (s.ext []) (fun v t => ∃ s' : S, v = r ∧ t = s'.ext [] ∧ Hold s' s'.next (.cell l cs2 :: H))
theorem PtrC.fin {s : S} {l : Nat} {cs2 : List V} {v r : V} {H H' : List BE} (hv : v = r) (hh : Hold s s.next H') (hs : Sel H' (.cell l cs2 :: H)) :
    ∃ s' : S, v = r ∧ s.ext [] = s'.ext [] ∧ Hold s' s'.next (.cell l cs2 :: H) := ⟨s, hv, rfl, hh.sel hs⟩
/-- As 'PtrC'; besides it takes 'H0', and answers 'B'. -/
def PtrB (P : Program) (g : FuncId) (args cs : List V) (H0 : List BE) {β : Type} (F : β → V) (cs2 : β → List V) (B : β → List BE) (p : β → Prop) : Prop :=
  ∀ (s : S) (H : List BE) (l : Nat), Hold s s.next (H0 ++ .cell l cs :: H) → VCalls P g (.ptr l 0 :: args) (s.ext []) (fun v t => ∃ (y : β) (s' : S), p y ∧ v = F y ∧ t = s'.ext [] ∧ Hold s' s'.next (B y ++ .cell l (cs2 y) :: H))
theorem PtrB.fin {s : S} {l : Nat} {β : Type} {F : β → V} {cs2 : β → List V} {B : β → List BE} {p : β → Prop} {v : V} {H H' : List BE} (y : β) (hp : p y) (hv : v = F y) (hh : Hold s s.next H') (hs : Sel H' (B y ++ .cell l (cs2 y) :: H)) :
    ∃ (y : β) (s' : S), p y ∧ v = F y ∧ s.ext [] = s'.ext [] ∧ Hold s' s'.next (B y ++ .cell l (cs2 y) :: H) := ⟨y, s, hp, hv, rfl, hh.sel hs⟩
section
variable {P : Program} {N : Nat} {ops : Array Oper} {l : List Oper} {K : Kn → S → Prop} {L : Kn} {s : S} {d : Nat} {ty : TypeId} {p : String} {a : Array Edge} {H H1 H2 : List BE}
theorem LOps.ptrC {f : Operand} {g : FuncId} {args : Array Operand} {A : Array TypeId} {vs cs cs2 : List V} {r : V} {m : Nat} (j : Nat) (hf : opd L f = some (.fn g [])) (ha : opdL L args.toList = some (.ptr m 0 :: vs)) (hok : CallOk P g)
    (hh : Hold s s.next H) (hi : nthO H j = some (.cell m cs)) (he : eraO H j = some H1) (hc : PtrC P g vs cs cs2 r)
    (hk : ∀ s' : S, Hold s' s'.next (.cell m cs2 :: H1) → LOps P N ops l K ((d, r) :: L) (s'.ext [])) :
    LOps P N ops (⟨some d, .call ⟨.value f, args, A⟩, ty, p, a, none⟩ :: l) K L (s.ext []) := by
  refine .call hf ha (appO_nil _) hok (hc s H1 m (hh.front hi he)) fun v s' hv => ?_
  obtain ⟨t, rfl, rfl, h3⟩ := hv
  exact hk t h3
theorem LOps.ptrB {f : Operand} {g : FuncId} {args : Array Operand} {A : Array TypeId} {vs cs : List V} {m : Nat} {H0 : List BE} {β : Type} {F : β → V} {cs2 : β → List V} {B : β → List BE} {q : β → Prop} (j : Nat) (hf : opd L f = some (.fn g [])) (ha : opdL L args.toList = some (.ptr m 0 :: vs)) (hok : CallOk P g)
    (hh : Hold s s.next H) (hc : PtrB P g vs cs H0 F cs2 B q) (ht : Takes H H0 H1) (hi : nthO H1 j = some (.cell m cs)) (he : eraO H1 j = some H2)
    (hk : ∀ (s' : S) (y : β), q y → Hold s' s'.next (B y ++ .cell m (cs2 y) :: H2) → LOps P N ops l K ((d, F y) :: L) (s'.ext [])) :
    LOps P N ops (⟨some d, .call ⟨.value f, args, A⟩, ty, p, a, none⟩ :: l) K L (s.ext []) := by
  refine .call hf ha (appO_nil _) hok (hc s H2 m ((hh.sel ht.sel).sel ((Sel.cons j hi he (Sel.refl _)).app H0))) fun v s' hv => ?_
  obtain ⟨y, t, h1, rfl, rfl, h3⟩ := hv
  exact hk t y h1 h3
end

/-! ### Less is told of variables; owned memory as new memory -/
theorem RelS.trim {E : Env} {s s' : S} (h : RelS E s) (hv : ∀ l cs, s'.vars l = some cs → ∃ rest, s.vars l = some (cs ++ rest)) (hf : s'.fams = s.fams) (hn : s'.next = s.next) : RelS E s' := by
  have hs : ∀ l, (s'.vars l).isSome = true → (s.vars l).isSome = true := fun l hl => by
    obtain ⟨cs, hcs⟩ := Option.isSome_iff_exists.1 hl
    obtain ⟨rest, hr⟩ := hv l cs hcs
    rw [hr]; rfl
  refine ⟨⟨fun l cs hl => ?_, fun l l' g a b => h.varinj l l' g (hs l a) (hs l' b), by rw [hf]; exact h.fam, by rw [hf]; exact h.faminj, fun l g id F a => by rw [hf]; exact h.famvar l g id F (hs l a), by rw [hn]; exact h.fresh, by rw [hn]; exact h.pos, h.imm⟩, h.tab.less rfl fun k t => ?_⟩
  · obtain ⟨rest, hr⟩ := hv l cs hl
    obtain ⟨g, arr, e, fr, h1, h2⟩ := h.var l _ hr
    have hlen : cs.length ≤ (cs ++ rest).length := by simp
    refine ⟨g, arr, e, fr, h1, ⟨h2.heap, ?_, by have := h2.le; omega, fun o ho => h2.free o (by omega), h2.imm⟩⟩
    obtain ⟨a, b, hab, ha, hb⟩ := h2.rep.split
    have hal := ha.length
    have : arr.toList.take cs.length = a := by
      have e1 : (arr.toList.take (cs ++ rest).length).take cs.length = arr.toList.take cs.length := by rw [List.take_take, Nat.min_eq_left hlen]
      rw [← e1, hab, List.take_append_of_le_length (by omega), List.take_of_length_le (by omega)]
    rw [this]; exact ha
  · rcases t with ⟨l, a, b⟩ | ⟨id, F, a, b, c⟩
    · exact .inl ⟨l, hs l a, b⟩
    · exact .inr ⟨id, F, by rw [hf] at a; exact a, b, c⟩
/-- Of each variable only the first cells. -/
def S.cutN (s : S) (N : Nat → Nat) : S := { s with vars := fun x => (s.vars x).map (List.take (N x)) }
theorem Tr.cells {t : S} {v d : V} {ls : List (Bool × Nat)} (h : Tr t v d ls) : TrL t v.cells d.cells ls := by
  cases h with
  | agg h => exact h
  | scal h =>
    have e : v.cells = [v] := by cases v <;> first | rfl | (simp [V.scal] at h)
    rw [e]
    exact .cons (a := []) (.scal h) .nil
  | zsl => exact .cons (a := []) .zsl .nil
  | nilsl => exact .cons (a := []) .nilsl .nil
  | emp => exact .cons (a := []) .emp .nil
  | emp' => exact .cons (a := []) .emp' .nil
  | sl h1 h2 h3 h4 h5 =>
    have := TrL.cons (Tr.sl h1 h2 h3 h4 h5) (TrL.nil (t := t))
    rw [List.append_nil] at this
    exact this
  | @slm ex l n us ds sz ls h1 h2 h3 h4 h5 =>
    have := TrL.cons (Tr.slm (ex := ex) h1 h2 h3 h4 h5) (TrL.nil (t := t))
    rw [List.append_nil] at this
    exact this
  | tup h =>
    have := TrL.cons (Tr.tup h) (TrL.nil (t := t))
    rw [List.append_nil] at this
    exact this
theorem TrL.flat {t : S} : ∀ {vs ds : List V} {ls : List (Bool × Nat)}, TrL t vs ds ls → TrL t (V.flat vs) (V.flat ds) ls
  | _, _, _, .nil => .nil
  | _, _, _, .cons h k => by
    rw [flat_cons, flat_cons]
    exact h.cells.append k.flat
theorem TrL.sizes {t : S} {sz : Nat} : ∀ {vs ds : List V} {ls : List (Bool × Nat)}, TrL t vs ds ls → (∀ v ∈ vs, v.cells.length = sz) → ∀ d ∈ ds, d.cells.length = sz
  | _, _, _, .nil, _, d, hd => by cases hd
  | _, _, _, .cons h k, hv, d, hd => by
    rcases List.mem_cons.1 hd with rfl | hd
    · rw [h.cells.len]; exact hv _ (by simp)
    · exact k.sizes (fun v h => hv v (by simp [h])) d hd
mutual
theorem Ow.cut {s : S} : ∀ {v d : V} {ls : List (Bool × Nat)}, Ow s v d ls → ls.Nodup → ∃ N : Nat → Nat, ∀ N' : Nat → Nat, (∀ p ∈ ls, N' p.2 = N p.2) → Tr (s.cutN N') v d ls
  | _, _, _, .scal h, _ => ⟨fun _ => 0, fun _ _ => .scal h⟩
  | _, _, _, .slm0, _ => ⟨fun _ => 0, fun _ _ => .emp'⟩
  | _, _, _, .agg h, hn => by
    obtain ⟨N, hN⟩ := h.cut hn
    exact ⟨N, fun N' h' => .agg (hN N' h')⟩
  | _, _, _, .slc (l := l) (us := us) (ds := ds) (ls := ls) h1 h2 h3 h4 h5 h0 h6, hn => by
    have hnl : (true, l) ∉ ls := fun hm => (List.nodup_append.1 hn).2.2 _ hm _ (by simp) rfl
    have hv := h6.vars
    obtain ⟨N, hN⟩ := h6.cut (List.nodup_append.1 hn).1
    refine ⟨fun x => if x = l then (V.flat us).length else N x, fun N' h' => ?_⟩
    have hl : N' l = (V.flat us).length := by
      have := h' (true, l) (by simp)
      simpa using this
    have h7 := hN N' fun p hp => by
      have := h' p (List.mem_append_left _ hp)
      have hne : p.2 ≠ l := fun e => hnl (by
        obtain ⟨p1, p2⟩ := p
        dsimp only at e
        subst e
        obtain ⟨rfl, _⟩ := hv _ hp
        exact hp)
      simpa [hne] using this
    have hd := h7.sizes h3
    have hlen := h7.len
    refine .slm (us := V.flat us) ?_ (by omega) hd ?_ h7.flat
    · cases us with
      | nil => exact absurd rfl h0
      | cons u us =>
        cases ds with
        | nil => simp at hlen
        | cons _ _ => rfl
    · show (s.vars l).map (List.take (N' l)) = _
      rw [h1, hl]
      simp
theorem OwL.cut {s : S} : ∀ {vs ds : List V} {ls : List (Bool × Nat)}, OwL s vs ds ls → ls.Nodup → ∃ N : Nat → Nat, ∀ N' : Nat → Nat, (∀ p ∈ ls, N' p.2 = N p.2) → TrL (s.cutN N') vs ds ls
  | _, _, _, .nil, _ => ⟨fun _ => 0, fun _ _ => .nil⟩
  | _, _, _, .cons (a := a) (b := b) h1 t, hn => by
    have hd := (List.nodup_append.1 hn).2.2
    obtain ⟨Na, hA⟩ := h1.cut (List.nodup_append.1 hn).1
    obtain ⟨Nb, hB⟩ := t.cut (List.nodup_append.1 hn).2.1
    refine ⟨fun x => if (true, x) ∈ a then Na x else Nb x, fun N' h' => .cons (hA N' fun p hp => ?_) (hB N' fun p hp => ?_)⟩
    · have := h' p (List.mem_append_left _ hp)
      have hm : (true, p.2) ∈ a := by
        obtain ⟨e, _⟩ := h1.vars p hp
        obtain ⟨p1, p2⟩ := p
        dsimp only at e
        subst e
        exact hp
      simpa [hm] using this
    · have := h' p (List.mem_append_right _ hp)
      have hm : (true, p.2) ∉ a := fun hq => by
        obtain ⟨e, _⟩ := t.vars p hp
        obtain ⟨p1, p2⟩ := p
        dsimp only at e hq
        subst e
        exact hd _ hq _ hp rfl
      simpa [hm] using this
end
theorem Hold.own2 {s : S} {H : List BE} {v d : V} (h : Hold s s.next (.own v d :: H)) : ∃ s' : S, VTurn v (s.ext []) v s' ∧ Own2 d v s' := by
  have h0 := h.ext0
  generalize s.ext [] = t at h0 ⊢
  obtain ⟨ls, h1, h2, h3⟩ := h0.ex
  cases h1 with
  | @cons _ a0 _ b0 k1 k2 =>
    have k1' : Ow t v d a0 := k1
    have hn := (List.nodup_append.1 h2).1
    obtain ⟨N, hN⟩ := k1'.cut hn
    refine ⟨t.cutN N, fun E val hr hv => ?_, a0, hN N fun _ _ => rfl, hn⟩
    have hr' : RelS E (t.cutN N) := hr.trim (fun x cs hx => by
      obtain ⟨cs0, e1, rfl⟩ := Option.map_eq_some_iff.1 (show (t.vars x).map (List.take (N x)) = some cs from hx)
      exact ⟨cs0.drop (N x), by rw [e1, List.take_append_drop]⟩) rfl rfl
    refine ⟨E, rfl, ⟨.refl E, rfl, rfl, rfl, Nat.le_refl _, fun _ _ _ => rfl, fun k _ tr => ?_, Nat.le_refl _⟩, hr', hv⟩
    rcases tr with ⟨x, a, b⟩ | ⟨id, F, a, b, c⟩
    · refine .inl ⟨x, ?_, b⟩
      change ((t.vars x).map (List.take (N x))).isSome = true at a
      simpa using a
    · exact .inr ⟨id, F, a, b, c⟩
theorem VCalls.ext0 {P : Program} {f : FuncId} {args : List V} {s : S} {R : V → S → Prop} (h : VCalls P f args (s.ext []) R) : VCalls P f args s R := fun E vals h1 h2 => by
  rw [ext_nil h1] at h
  exact h E vals h1 h2
/-- Several answers of new memory, taken as plain values. -/
theorem VCalls.pureT {P : Program} {f : FuncId} {ds us : List V} (hds : V.plainL ds = true) (hd : V.plainL us = true) (h : ∀ t, VCalls P f ds t (fun v t' => Own2 (.tup us) v t')) (s : S) : VCalls P f ds s (fun v s' => v = .tup us ∧ s' = s) := by
  have hdat : V.dat (.tup us) = true := by
    have := plain_dat (.agg us) hd
    simpa [V.dat] using this
  have hfg : V.forget (.tup us) = .tup us := by
    have := plain_forget (.agg us) hd
    simp only [V.forget, V.agg.injEq] at this
    simp only [V.forget, this]
  refine VCalls.pure hdat (VCalls.turn (VCalls.lend2 (RdL.plain ds hds) h) ?_)
  rintro v s' _ ⟨rfl, rfl⟩
  have k := VTurn.thaw s (d := .agg us) hd
  exact ⟨.tup us, _, k.tup, hfg, fun l hl => ext_vars_lt _ _ hl, fun l hl => ext_fams_lt _ _ hl⟩
/-- What is answered of scalars over the books is answered at every state. -/
theorem VCalls.pureS {P : Program} {f : FuncId} {ds us : List V} (hds : V.plainL ds = true) (hd : us.all V.scal = true) (hp : V.plainL us = true) (h : ∀ s : S, VCalls P f ds (s.ext []) (fun v t => v = .tup us)) (s : S) : VCalls P f ds s (fun v s' => v = .tup us ∧ s' = s) :=
  VCalls.pureT hds hp (fun t => VCalls.mono (VCalls.ext0 (h t)) fun v t' e => by subst e; exact ⟨[], .tup (TrL.scal hd), List.nodup_nil⟩) s
/-- What is answered is owned: so it is new memory. -/
theorem VCalls.ownO {P : Program} {g : FuncId} {args : List V} {t0 : S} {d : V} (h : VCalls P g args t0 (fun v t => ∃ (s' : S) (H' H2 : List BE), t = s'.ext [] ∧ Hold s' s'.next H' ∧ ConsO H' v d H2)) :
    VCalls P g args t0 (fun v t => Own2 d v t) := by
  refine VCalls.turn h ?_
  rintro v t _ ⟨s', H', H2, rfl, hh, hc⟩
  obtain ⟨s2, h1, h2⟩ := (hh.pack hc).own2
  exact ⟨v, s2, h1, h2⟩
theorem VCalls.ownT {P : Program} {g : FuncId} {args : List V} {t0 : S} {d : V} {us : List V} (hu : us.all V.scal = true) (h : VCalls P g args t0 (fun v t => ∃ (s' : S) (v0 : V) (H' H2 : List BE), v = .tup (v0 :: us) ∧ t = s'.ext [] ∧ Hold s' s'.next H' ∧ ConsO H' v0 d H2)) :
    VCalls P g args t0 (fun v t => Own2 (.tup (d :: us)) v t) := by
  refine VCalls.turn h ?_
  rintro v t _ ⟨s', v0, H', H2, rfl, rfl, hh, hc⟩
  obtain ⟨s2, h1, h2⟩ := (hh.pack hc).own2
  refine ⟨.tup (v0 :: us), s2, fun E val hr hv => ?_, h2.tup1 hu⟩
  cases hv with
  | tup hv =>
    cases hv with
    | cons hv ht =>
      obtain ⟨E1, e1, e2, e3, e4⟩ := h1 E _ hr hv
      exact ⟨E1, e1, e2, e3, .tup (.cons e4 (ht.evolve e2.ev))⟩

end Go.Proofs.YtbnbmcplmipgdaaGreatDoor
