/-
  A variable of cells, read and written at any place; what its first cells own, given up; an answer that lies in it. Own work; no condition.
-/
import Derived.Test.YtkkifdgnebbghaaVStack
namespace Go.Proofs.Ytkkifdgnebbghaa
open Go

theorem takeO_at : ∀ {cs : List V} {j : Nat} {v : V}, cs[j]? = some v → takeO cs j 1 false = some v
  | [], _, _, h => by simp at h
  | c :: cs, 0, v, h => by
    simp only [List.getElem?_cons_zero, Option.some.injEq] at h
    subst h
    rfl
  | c :: cs, j + 1, v, h => by
    have := takeO_at (cs := cs) (j := j) (v := v) (by simpa using h)
    unfold takeO at this ⊢
    exact this
theorem splO_at : ∀ {cs : List V} {j : Nat} (v : V), j < cs.length → splO cs j [v] = some (cs.set j v)
  | [], _, _, h => by simp at h
  | c :: cs, 0, v, h => by
    unfold splO
    simp [dropO, appO]
  | c :: cs, j + 1, v, h => by
    have := splO_at (cs := cs) (j := j) v (by simpa using h)
    unfold splO
    simp [this]
section
variable {P : Program} {N : Nat} {ops : Array Oper} {l : List Oper} {K : Kn → S → Prop} {L : Kn} {s : S} {tt : BT} {d : Nat} {ty : TypeId} {p : String} {a : Array Edge} {H H1 : List BE}
theorem AnsL.loadAt (ht : tt.ok P) {T : TypeId} {u : Ty} {x : Operand} {k off j : Nat} {cs : List V} {v : V} (i : Nat) (hh : Hold s s.next H) (hx : opd L x = some (.ptr k off)) (hi : nthO H i = some (.cell k cs)) (hT : tt.get T = some u) (hz : u.size = 1) (ha : u.agg = false) (ho : off = 0 + j * 1) (hj : cs[j]? = some v) :
    AnsL P (.load T x) L (s.ext []) v := by
  have : off = j := by omega
  subst this
  exact .loadH ht i hh hx hi hT (by rw [hz, ha]; exact takeO_at hj)
theorem LOps.storeAt (ht : tt.ok P) {T : TypeId} {u : Ty} {x y : Operand} {k off j : Nat} {cs : List V} {v : V} {H' : List BE} (i : Nat) (hh : Hold s s.next H) (hx : opd L x = some (.ptr k off)) (hi : nthO H i = some (.cell k cs)) (hy : opd L y = some v) (hT : tt.get T = some u)
    (hc : cellsO v = some [v]) (h1 : v.one = true) (hz : u.size = 1) (ho : off = 0 + j * 1) (hj : j < cs.length) (hs : setO H i (.cell k (cs.set j v)) = some H') (hk : ∀ s' : S, Hold s' s'.next H' → LOps P N ops l K L (s'.ext [])) :
    LOps P N ops (⟨none, .store T x y, ty, p, a, none⟩ :: l) K L (s.ext []) := by
  have : off = j := by omega
  subst this
  exact .storeH ht i hh hx hi hy hT hc (by unfold onesO; rw [h1]; rfl) (by rw [hz]; rfl) (splO_at v hj) hs hk
theorem AnsL.idxAt (ht : tt.ok P) {T e : TypeId} {t te : Ty} {x i : Operand} {ex : Cp} {b off len : Nat} {z : Int} {k : IntKind} {t0 : S} (j : Nat) (hx : opd L x = some (.slm ex b off len)) (hi : opd L i = some (.int k z)) (hT : tt.get T = some t) (hkd : t.kd = .slice e)
    (hte : tt.get e = some te) (hz : z = (j : Int)) (hj : j < len) : AnsL P (.indexAddr T x i) L t0 (.ptr b (off + j * te.size)) := by
  subst hz
  exact .idxM ht hx hi hT hkd hte hj
/-- An append of plain one-cell values to a slice without capacity: its variable is open. -/
theorem LOps.appZP (ht : tt.ok P) {T U e : TypeId} {t te : Ty} {x y : Operand} {u : V} {ys : List V} (hx : opd L x = some u) (hux : ∀ E val, RepV E u val → RepV E (.slm (.is 0) 0 0 0) val) (hy : opd L y = some (.sl 0 ys))
    (hT : tt.get T = some t) (hkd : t.kd = .slice e) (hte : tt.get e = some te) (hz : (Nat.beq te.zero.length te.size && Nat.blt 0 te.size) = true) (hU : Nat.beq U T = true) (hne : ys.isEmpty = false) (hh : Hold s s.next H)
    (hall : Elems te ys) (hb : AppB ys.length te.bytes)
    (hk : ∀ (s' : S) (c' l' : Nat) (rest' : List V), ys.length ≤ c' → rest'.length = (c' - ys.length) * te.size → Hold s' s'.next (.cell l' (V.flat ys ++ rest') :: H) → LOps P N ops l K ((d, .slm (.is c') l' 0 ys.length) :: L) (s'.ext [])) : LOps P N ops (⟨some d, appCall x y #[T, U], ty, p, a, none⟩ :: l) K L (s.ext []) := by
  simp only [Bool.and_eq_true] at hz
  have hU' := Nat.eq_of_beq_eq_true hU
  subst hU'
  have hpos : 0 < ys.length := by cases ys with | nil => cases hne | cons _ _ => simp
  have hsz := elems_sizes hall
  obtain ⟨ls, k2, h2, h3⟩ := hh.ex
  refine .geng (vs := [u, .sl 0 ys]) (R := AppR (s.ext []) False 0 te.size (0 + ys.length) (V.flat ([] ++ ys))) (by
    show opdL L [x, y] = _
    simp only [opdL, hx, hy]) (fun E A hr hrep => ?_) (fun v' s' hR => ?_)
  · obtain ⟨t', d0, _, hd, hkd', _⟩ := tyOf_parts (ht.get hT)
    rw [hkd] at hkd'
    have : d0 = .slice e := by cases d0 <;> simp [kdOf] at hkd'; rw [hkd']
    subst this
    obtain ⟨i0, z, hi0, hz0, hs0, hzs0, hrep0⟩ := zero_rep (ht.get hte) ⟨Nat.eq_of_beq_eq_true hz.1, by simpa using hz.2⟩
    obtain ⟨i', _, hi', _, _, _, hb', _⟩ := tyOf_parts (ht.get hte)
    rw [hi0] at hi'
    cases hi'
    have hrep' : RepL E [u, .sl 0 ys] [A.eval x, A.eval y] := hrep
    cases hrep' with
    | cons r1 r2 => cases r2 with
      | cons r2 r3 =>
        cases r3
        obtain ⟨ad, m, cy, news, hyv, hm, hmc, hnl, hnr, hnews, hnone⟩ := elems_sound (ht.get hte) (by simpa using hz.2) hr r2 (show elemsOf te (.sl 0 ys) (s.ext []) = some ys from rfl) hsz
        subst hm
        obtain ⟨ad, rfl⟩ : ∃ b, ad = some b := by
          cases ad with
          | none => have := hnone rfl; omega
          | some b => exact ⟨b, rfl⟩
        obtain ⟨v', s', h4, h5⟩ := own_append (P := P) (ty := ty) (te := te) (us := []) (rest := []) (q := False) (l := 0) (c := 0) (n := 0) hd hi0 hz0 hzs0 hs0 hb' hr (hux E _ r1) (.inl ⟨rfl, rfl, rfl⟩) rfl (fun u hu => by cases hu) (a := ad) (cy := cy) hpos hnl hnr (hnews ad rfl) (RepL.one hnr (elems_ones hall)) (by rw [Nat.zero_add]; exact hb.1) (by rw [Nat.zero_add]; exact hb.2)
        refine ⟨v', s', h4, .of h5 ?_⟩
        rw [← hyv]
        have hexec : execOp A.eval ⟨some d, appCall x y #[U, U], ty, p, a, none⟩ = builtin .append #[U, U] ty (#[x, y].map fun | .const _ => true | _ => false) (#[x, y].map A.eval) := by
          simp only [execOp, appCall, resolve]
          rfl
        rw [hexec, show #[x, y].map A.eval = #[A.eval x, A.eval y] by simp]
        rfl
  · obtain ⟨c', n', rest', rfl, hm, hrl, h4⟩ := hR.ex
    rw [Nat.zero_add, List.nil_append] at *
    rcases h4 with ⟨rfl, rfl⟩ | ⟨hf, _⟩
    · have e1 : (s.ext []).next = s.next := by rw [ext_next]; rfl
      have e2 : (s.ext []).newVar (V.flat ys ++ rest') = (s.ext [.var (V.flat ys ++ rest')]).ext [] := by rw [ext_newVar, ext_ext_nil]; rfl
      rw [e1, e2]
      refine hk _ _ _ rest' hm hrl ?_
      refine ⟨[(true, s.next)] ++ ls, .cons ⟨rfl, by rw [ext_vars0]; rfl⟩ (k2.congr (by rw [ext_next]; omega) fun p hp => .lt (h3 p hp)), ?_, fun p hp => ?_⟩
      · rw [List.singleton_append, List.nodup_cons]
        exact ⟨fun hm => by have := h3 _ hm; simp at this, h2⟩
      · rw [ext_next]
        simp only [List.mem_append, List.mem_singleton] at hp
        rcases hp with rfl | hp
        · simp
        · have := h3 p hp; simp only [List.length_singleton]; omega
    · exact hf.elim
end
theorem RelS.revarZ {E : Env} {s : S} (hr : RelS E s) {l : Nat} {cs ds : List V} (hv : s.vars l = some cs) (hlen : ds.length = cs.length) (h : ∀ g arr, E.loc l = some g → (∃ e fr, E.w.heap[g]? = some (.cells arr e fr)) → RepL E ds (arr.toList.take cs.length)) : RelS E (s.setVar l ds) := by
  have hsome : ∀ x, ((s.setVar l ds).vars x).isSome = true → (s.vars x).isSome = true := fun x hx => by
    by_cases e : x = l
    · rw [e, hv]; rfl
    · rw [vars_setVar_ne e] at hx; exact hx
  refine ⟨⟨fun x c hx => ?_, fun a b g ha hb => hr.varinj a b g (hsome a ha) (hsome b hb), hr.fam, hr.faminj, fun a g id F ha => hr.famvar a g id F (hsome a ha), hr.fresh, hr.pos, hr.imm⟩, hr.tab.less rfl fun k t => t.elim (fun ⟨x, a, b⟩ => .inl ⟨x, hsome x a, b⟩) .inr⟩
  by_cases e : x = l
  · subst e
    rw [vars_setVar] at hx
    cases hx
    obtain ⟨g, arr, e, fr, h1, h2⟩ := hr.var x cs hv
    exact ⟨g, arr, e, fr, h1, h2.heap, by rw [hlen]; exact h g arr h1 ⟨e, fr, h2.heap⟩, by rw [hlen]; exact h2.le, fun o ho => h2.free o (by rw [hlen] at ho; exact ho), h2.imm⟩
  · rw [vars_setVar_ne e] at hx
    exact hr.var x c hx
theorem WL.frzCR {P : Program} {N : Nat} {c : Code} {Q : Exit → Kn → S → Prop} {L : Kn} {s : S} {H : List BE} {l : Nat} {us ds rest : List V} (hh : Hold s s.next (.own (.agg us) (.agg ds) :: .cell l (us ++ rest) :: H)) (h : ∀ s1 : S, Hold s1 s1.next (.cell l (ds ++ rest) :: H) → WL P N c Q L (s1.ext [])) : WL P N c Q L (s.ext []) := by
  obtain ⟨s2, ht, h2⟩ := hh.frz
  obtain ⟨q1, q2⟩ := hh.drop1.cell (.head _)
  obtain ⟨r1, r2⟩ := h2.cell (.head _)
  have q3 : (s.ext []).vars l = some (us ++ rest) := by rw [ext_vars_lt _ _ (by omega)]; exact q2
  have r3 : (s2.ext []).vars l = some (us ++ rest) := by rw [ext_vars_lt _ _ (by omega)]; exact r2
  have hw := h (s2.setVar l (ds ++ rest)) (h2.set (i := 0) (cs := us ++ rest) rfl rfl)
  rw [← ext0_setVar (by omega)] at hw
  refine ⟨fun σ hσ => ?_⟩
  have hw := hw.run σ hσ
  intro E a hr ha
  obtain ⟨g, arr, e, fr, k1, k2⟩ := hr.var l _ q3
  obtain ⟨va, vb, hvab, rA, rB⟩ := k2.rep.split
  obtain ⟨E', e1, e2, e3, e4⟩ := ht E (.agg va.toArray) hr (.agg (by simpa using rA))
  have e5 : RepL E' ds va := by
    cases e4 with
    | agg r => simpa using r
  have e5' : RepL E' (ds ++ rest) (arr.toList.take (us ++ rest).length) := by
    rw [hvab]
    exact e5.append (rB.evolve e2.ev)
  have hlen : (ds ++ rest).length = (us ++ rest).length := by rw [← e5'.length, k2.rep.length]
  have e6 : RelS E' ((s2.ext []).setVar l (ds ++ rest)) := e3.revarZ r3 hlen fun g' arr' hg' hp => by
    obtain ⟨e', fr', hp⟩ := hp
    have hg2 := e2.ev.loc _ _ k1
    rw [hg2] at hg'
    cases hg'
    rw [e1, k2.heap] at hp
    cases hp
    exact e5'
  have st : Step E (s.ext []) E' ((s2.ext []).setVar l (ds ++ rest)) := e2.trans (Step.setVar (by rw [r3]; rfl) _ r3)
  have ha' : RepA E' σ N a := ⟨fun t => (ha.slot t).evolve e2.ev, ha.size, ha.defers⟩
  have := hw E' a e6 ha'
  rw [e1] at this
  exact wp_mono this fun _ _ _ ⟨E2, σ', s', x, y, z1, z2, z3⟩ => ⟨E2, σ', s', x, y, z1, z2, st.trans z3⟩
theorem FinS.cell {s : S} {H : List BE} {c l n : Nat} {ds rest : List V} (hh : Hold s s.next (.cell l (V.flat ds ++ rest) :: H)) (hn : n = ds.length) {sz : Nat} (hsz : ∀ x ∈ ds, x.cells.length = sz) (hp : V.plainL ds = true) : FinS s (.slm (.is c) l 0 n) (.sl 0 ds) H :=
  ⟨[.cell l (V.flat ds ++ rest)], hh, rfl, fun s' ls h => by
    cases h with
    | cons h1 t =>
      obtain ⟨_, hv⟩ := h1
      exact .slm hv hn.symm hsz (RdL.plain ds hp)⟩

end Go.Proofs.Ytkkifdgnebbghaa
