/-
  An append to a slice whose variable is open in the books, whatever its elements own; owned memory given up at a function's end, read off the books. Own work; no condition.
-/
import Derived.Test.YtkkifdgnebbghaaVCap2
namespace Go.Proofs.Ytkkifdgnebbghaa
open Go

section
variable {P : Program} {N : Nat} {ops : Array Oper} {l : List Oper} {K : Kn → S → Prop} {L : Kn} {s : S} {tt : BT} {d : Nat} {ty : TypeId} {p : String} {a : Array Edge} {H H1 : List BE}
/-- An append to a slice whose variable is open: its elements as they lie there. -/
theorem LOps.appD (ht : tt.ok P) {T U e : TypeId} {t te : Ty} {x y : Operand} {c lv n : Nat} {us ys rest : List V} (i : Nat) (hx : opd L x = some (.slm (.is c) lv 0 n)) (hi : nthO H i = some (.cell lv (V.flat us ++ rest))) (he : eraO H i = some H1) (hy : opd L y = some (.sl 0 ys))
    (hT : tt.get T = some t) (hkd : t.kd = .slice e) (hte : tt.get e = some te) (hz : (Nat.beq te.zero.length te.size && Nat.blt 0 te.size) = true) (hU : Nat.beq U T = true) (hne : ys.isEmpty = false) (hh : Hold s s.next H)
    (hun : us.length = n) (hus : ∀ u ∈ us, u.cells.length = te.size) (hq : us ≠ []) (hrl : rest.length = (c - n) * te.size) (hnc : n ≤ c) (hall : Elems te ys) (hb : AppB (n + ys.length) te.bytes)
    (hk : ∀ (s' : S) (c' l' : Nat) (rest' : List V), Hold s' s'.next (.cell l' (V.flat (us ++ ys) ++ rest') :: H1) → LOps P N ops l K ((d, .slm (.is c') l' 0 (n + ys.length)) :: L) (s'.ext [])) : LOps P N ops (⟨some d, appCall x y #[T, U], ty, p, a, none⟩ :: l) K L (s.ext []) := by
  simp only [Bool.and_eq_true] at hz
  have hU' := Nat.eq_of_beq_eq_true hU
  subst hU'
  have hpos : 0 < ys.length := by cases ys with | nil => cases hne | cons _ _ => simp
  obtain ⟨ls, h1, h2, h3⟩ := hh.ex
  obtain ⟨a0, l0, k1, k2, k3⟩ := h1.take hi he
  obtain ⟨rfl, hv⟩ : a0 = [(true, lv)] ∧ s.vars lv = some (V.flat us ++ rest) := k1
  have hnd := k3.1 h2
  have hlt : ∀ p ∈ [(true, lv)] ++ l0, p.2 < s.next := fun p hp => h3 p (k3.2 p hp)
  have hlv : lv < s.next := hlt (true, lv) (by simp)
  have hsz := elems_sizes hall
  refine .geng (vs := [.slm (.is c) lv 0 n, .sl 0 ys]) (R := AppR (s.ext []) (us ≠ []) lv te.size (n + ys.length) (V.flat (us ++ ys))) (by
    show opdL L [x, y] = _
    simp only [opdL, hx, hy]) (fun E A hr hrep => ?_) (fun v' s' hR => ?_)
  · obtain ⟨t', d0, _, hd, hkd', _⟩ := tyOf_parts (ht.get hT)
    rw [hkd] at hkd'
    have : d0 = .slice e := by cases d0 <;> simp [kdOf] at hkd'; rw [hkd']
    subst this
    obtain ⟨i0, z, hi0, hz0, hs0, hzs0, hrep0⟩ := zero_rep (ht.get hte) ⟨Nat.eq_of_beq_eq_true hz.1, by simpa using hz.2⟩
    obtain ⟨i', _, hi', _, _, _, hb', _⟩ := tyOf_parts (ht.get hte)
    rw [hi0] at hi'
    cases hi'
    have hrep' : RepL E [.slm (.is c) lv 0 n, .sl 0 ys] [A.eval x, A.eval y] := hrep
    cases hrep' with
    | cons r1 r2 => cases r2 with
      | cons r2 r3 =>
        cases r3
        obtain ⟨ad, m, cy, news, hyv, hm, hmc, hnl, hnr, hnews, hnone⟩ := elems_sound (ht.get hte) (by simpa using hz.2) hr r2 (show elemsOf te (.sl 0 ys) (s.ext []) = some ys from rfl) hsz
        subst hm
        obtain ⟨ad, rfl⟩ : ∃ b, ad = some b := by
          cases ad with
          | none => have := hnone rfl; omega
          | some b => exact ⟨b, rfl⟩
        obtain ⟨v', s', h4, h5⟩ := own_append (P := P) (ty := ty) (te := te) (us := us) (rest := rest) hd hi0 hz0 hzs0 hs0 hb' hr r1 (.inr ⟨hq, by rw [ext_vars_lt s [] hlv]; exact hv, hrl, hnc⟩) hun hus (a := ad) (cy := cy) hpos hnl hnr (hnews ad rfl) (RepL.one hnr (elems_ones hall)) hb.1 hb.2
        refine ⟨v', s', h4, .of h5 ?_⟩
        rw [← hyv]
        have hexec : execOp A.eval ⟨some d, appCall x y #[U, U], ty, p, a, none⟩ = builtin .append #[U, U] ty (#[x, y].map fun | .const _ => true | _ => false) (#[x, y].map A.eval) := by
          simp only [execOp, appCall, resolve]
          rfl
        rw [hexec, show #[x, y].map A.eval = #[A.eval x, A.eval y] by simp]
        rfl
  · obtain ⟨c', n', rest', rfl, hm, hrl, h4⟩ := hR.ex
    rcases h4 with ⟨rfl, rfl⟩ | ⟨_, rfl, rfl⟩
    · have e1 : (s.ext []).next = s.next := by rw [ext_next]; rfl
      have e2 : (s.ext []).newVar (V.flat (us ++ ys) ++ rest') = (s.ext [.var (V.flat (us ++ ys) ++ rest')]).ext [] := by rw [ext_newVar, ext_ext_nil]; rfl
      rw [e1, e2]
      refine hk _ _ _ rest' ?_
      refine ⟨[(true, s.next)] ++ l0, .cons ⟨rfl, by rw [ext_vars0]; rfl⟩ (k2.congr (by rw [ext_next]; omega) fun p hp => .lt (hlt p (List.mem_append_right _ hp))), ?_, fun p hp => ?_⟩
      · rw [List.singleton_append, List.nodup_cons]
        exact ⟨fun hm => by have := hlt _ (List.mem_append_right _ hm); simp at this, (List.nodup_append.1 hnd).2.1⟩
      · rw [ext_next]
        simp only [List.mem_append, List.mem_singleton] at hp
        rcases hp with rfl | hp
        · simp
        · have := hlt p (by simp [hp]); simp only [List.length_singleton]; omega
    · rw [ext0_setVar hlv]
      refine hk _ _ _ rest' ?_
      have hnot : ∀ p ∈ l0, SameOn s (s.setVar n' (V.flat (us ++ ys) ++ rest')) p := fun p hp => by
        have hne : p ≠ (true, n') := by
          rintro rfl
          rw [List.singleton_append, List.nodup_cons] at hnd
          exact hnd.1 hp
        refine ⟨fun e => ?_, fun _ => rfl⟩
        have : p.2 ≠ n' := fun e2 => hne (by rw [← e, ← e2])
        simp [S.setVar, this]
      exact ⟨[(true, n')] ++ l0, .cons ⟨rfl, by simp [S.setVar]⟩ (HoldL.congr (s := s) (s' := s.setVar n' (V.flat (us ++ ys) ++ rest')) (show s.next ≤ s.next from Nat.le_refl _) k2 hnot), hnd, hlt⟩
end

theorem AnsL.idxE {P : Program} {L : Kn} {s : S} {tt : BT} (ht : tt.ok P) {T e : TypeId} {t te : Ty} {x i : Operand} {ex : Cp} {b off off' len j : Nat} {k : IntKind} (hx : opd L x = some (.slm ex b off len)) (hi : opd L i = some (.int k (j : Int))) (hT : tt.get T = some t) (hkd : t.kd = .slice e)
    (hte : tt.get e = some te) (hj : j < len) (ho : off' = off + j * te.size) : AnsL P (.indexAddr T x i) L s (.ptr b off') := by
  subst ho
  exact .idxO ht hx hi hT hkd hte hj
/-! ### Memory of one's own, given up, read off the books -/
theorem frzR {s : S} {v d : V} {ls : List (Bool × Nat)} (hrd : ∀ s' : S, s'.next = s.next → (∀ p ∈ ls, SameOn s s' p) → Rd s' v d) (hvs : ∀ p ∈ ls, p.1 = true ∧ (s.vars p.2).isSome = true) : VTurn v s d (s.lose ls) := by
  intro E val hr hv
  let so : S := { vars := fun x => if (true, x) ∈ ls then s.vars x else none, fams := fun _ => none, next := s.next }
  have hsov : ∀ l cs, so.vars l = some cs → (true, l) ∈ ls ∧ s.vars l = some cs := fun l cs hl => by
    by_cases e : (true, l) ∈ ls
    · have : so.vars l = s.vars l := if_pos e
      exact ⟨e, by rw [← this]; exact hl⟩
    · have : so.vars l = none := if_neg e
      rw [this] at hl; cases hl
  have hro : RelS E so := hr.weaken (fun l cs hl => (hsov l cs hl).2) (fun _ _ h => by cases h) (Nat.le_refl _)
  have hrd : Rd so v d := hrd so rfl fun p hp => ⟨fun e => by
    have e2 : p = (true, p.2) := by rw [← e]
    have : so.vars p.2 = s.vars p.2 := if_pos (by rw [← e2]; exact hp)
    exact this, fun e => by rw [(hvs p hp).1] at e; cases e⟩
  have hls : ∀ l cs, (s.lose ls).vars l = some cs → (true, l) ∉ ls ∧ s.vars l = some cs := fun l cs hl => by
    by_cases e : (true, l) ∈ ls
    · have : (s.lose ls).vars l = none := if_pos e
      rw [this] at hl; cases hl
    · have : (s.lose ls).vars l = s.vars l := if_neg e
      exact ⟨e, by rw [← this]; exact hl⟩
  have hlss : ∀ l, ((s.lose ls).vars l).isSome = true → (true, l) ∉ ls ∧ (s.vars l).isSome = true := fun l hl => by
    obtain ⟨cs, hcs⟩ := Option.isSome_iff_exists.1 hl
    obtain ⟨a, b⟩ := hls l cs hcs
    exact ⟨a, by rw [b]; rfl⟩
  have ev : Evolve E (lentEnv E so) := ⟨fun _ _ i => .inl i, fun _ _ _ => rfl, fun _ _ h => h, fun id F hF => ⟨F, hF, Nat.le_refl _, fun _ => rfl⟩⟩
  refine ⟨lentEnv E so, rfl, hr.fin3 ⟨ev, rfl, rfl, rfl, Nat.le_refl _, fun _ _ _ => rfl, fun k _ ht => ?_, Nat.le_refl _⟩ ⟨fun l cs hl => ?_, fun l l' g hl hl' => hr.varinj l l' g (hlss l hl).2 (hlss l' hl').2, fun id n sz hid => ?_, hr.faminj, fun l g id F hl => hr.famvar l g id F (hlss l hl).2, hr.fresh, hr.pos, fun g o i => ?_⟩ (Rd.rep hro hrd hv)⟩
  · rcases ht with ⟨l, hl, hg⟩ | ht
    · exact .inl ⟨l, (hlss l hl).2, hg⟩
    · exact .inr ht
  · obtain ⟨hn, hv0⟩ := hls l cs hl
    obtain ⟨g, arr, e, fr, h1, h2⟩ := hr.var l cs hv0
    refine ⟨g, arr, e, fr, h1, h2.heap, h2.rep.evolve ev, h2.le, h2.free, fun o i => ?_⟩
    rcases i with i | ⟨l2, cs2, k1, k2, _⟩
    · exact h2.imm o i
    · obtain ⟨k3, k4⟩ := hsov l2 cs2 k1
      have := hr.varinj l l2 g (by rw [hv0]; rfl) (by rw [k4]; rfl) h1 k2
      exact hn (this ▸ k3)
  · obtain ⟨h00, F, h1, h2, h3, h4, h5, h6⟩ := hr.fam id n sz hid
    refine ⟨h00, F, h1, h2, h3, h4, h5, fun g hg => ?_⟩
    obtain ⟨arr, e, fr, h7, h8, h9, h10⟩ := h6 g hg
    refine ⟨arr, e, fr, h7, h8, h9, fun o ho i => ?_⟩
    rcases i with i | ⟨l2, cs2, k1, k2, _⟩
    · exact h10 o ho i
    · obtain ⟨k3, k4⟩ := hsov l2 cs2 k1
      exact hr.famvar l2 g id F (by rw [k4]; rfl) k2 (by rw [show s.fams id = some (n, sz) from hid]; rfl) h1 hg
  · rcases i with i | ⟨l, cs, k1, k2, ho⟩
    · exact hr.imm g o i
    · obtain ⟨g', arr, e, fr, m1, m2⟩ := hro.var l cs k1
      rw [k2] at m1
      cases m1
      have := m2.le
      exact ⟨arr[o]'(by omega), by show E.w.cell? _ = _; rw [cell_of_row E.w _ _ arr e fr m2.heap]; simp⟩
/-- Entries that are variables alone. -/
def BE.co : BE → Bool
  | .cell _ _ => true
  | .own _ _ => true
  | _ => false
theorem HoldL.split {s : S} : ∀ {A B : List BE} {ls : List (Bool × Nat)}, HoldL s (A ++ B) ls → ∃ a b, ls = a ++ b ∧ HoldL s A a ∧ HoldL s B b
  | [], B, ls, h => ⟨[], ls, rfl, .nil, h⟩
  | e :: A, B, ls, h => by
    cases h with
    | cons h1 t =>
      obtain ⟨a, b, rfl, k1, k2⟩ := HoldL.split t
      exact ⟨_ ++ a, b, by rw [List.append_assoc], .cons h1 k1, k2⟩
theorem HoldL.co {s : S} : ∀ {A : List BE} {ls : List (Bool × Nat)}, HoldL s A ls → A.all BE.co = true → ∀ p ∈ ls, p.1 = true ∧ (s.vars p.2).isSome = true
  | _, _, .nil, _ => fun p hp => by cases hp
  | e :: A, _, .cons h1 t, h => fun p hp => by
    rw [List.all_cons, Bool.and_eq_true] at h
    rcases List.mem_append.1 hp with hp | hp
    · cases e with
      | cell l cs =>
        obtain ⟨rfl, h1⟩ := h1
        rw [List.mem_singleton] at hp
        subst hp
        exact ⟨rfl, by rw [h1]; rfl⟩
      | own v d => exact Ow.vars h1 p hp
      | blk => cases h.1
      | acc => cases h.1
      | fac => cases h.1
    · exact HoldL.co t h.2 p hp
/-- What is answered at a function's end, read off entries that are given up. -/
structure FinS (s : S) (v d : V) (H : List BE) : Prop where
  ex : ∃ es, Hold s s.next (es ++ H) ∧ es.all BE.co = true ∧ ∀ (s' : S) ls, HoldL s' es ls → Rd s' v d
theorem FinS.ofO {s : S} {H H' H2 : List BE} {v d : V} (hh : Hold s s.next H') (hc : ConsO H' v d H2) (hs : Sel H2 H) : FinS s v d H :=
  ⟨[.own v d], (hh.pack hc).sel (.cons 0 rfl rfl hs), rfl, fun s' ls h => by
    cases h with
    | cons h1 t => exact Ow.rd h1⟩
theorem FinS.turn {s : S} {v d : V} {H : List BE} (h : FinS s v d H) : ∃ s' : S, VTurn v (s.ext []) d (s'.ext []) ∧ Hold s' s'.next H := by
  obtain ⟨es, h1, h2, h3⟩ := h.ex
  obtain ⟨ls, k1, k2, k3⟩ := h1.ex
  obtain ⟨a, b, rfl, m1, m2⟩ := k1.split
  have hlt : ∀ p ∈ a, p.2 < s.next := fun p hp => k3 p (List.mem_append_left _ hp)
  have e : (s.ext []).lose a = (s.lose a).ext [] := by
    refine S.ext_eq (fun x => ?_) (fun x => rfl) rfl
    show (if (true, x) ∈ a then none else (s.ext []).vars x) = (if x < s.next then (if (true, x) ∈ a then none else s.vars x) else Own.cells? ([][x - s.next]?))
    by_cases hx : x < s.next
    · rw [if_pos hx, ext_vars_lt s [] hx]
    · rw [if_neg hx]
      by_cases hm : (true, x) ∈ a
      · exact absurd (hlt _ hm) hx
      · rw [if_neg hm]
        show (if x < s.next then s.vars x else Own.cells? ([][x - s.next]?)) = _
        rw [if_neg hx]
  have m0 : HoldL (s.ext []) es a := m1.congr (by rw [ext_next]; omega) fun p hp => .lt (hlt p hp)
  refine ⟨s.lose a, by rw [← e]; exact frzR (fun s' hn hs => h3 s' a (m0.congr (by rw [hn]; exact Nat.le_refl _) hs)) (m0.co h2), b, HoldL.congr (s := s) (s' := s.lose a) (show s.next ≤ s.next from Nat.le_refl _) m2 fun p hp => ⟨fun ep => ?_, fun _ => rfl⟩, (List.nodup_append.1 k2).2.1, fun p hp => k3 p (List.mem_append_right _ hp)⟩
  show (if (true, p.2) ∈ a then none else s.vars p.2) = s.vars p.2
  refine if_neg fun hm => (List.nodup_append.1 k2).2.2 _ hm p hp ?_
  obtain ⟨p1, p2⟩ := p
  simp only at ep ⊢
  rw [ep]
theorem VCalls.frzS {P : Program} {g : FuncId} {args : List V} {t0 : S} {α : Type} {f : α → V} {p : α → Prop} {H : α → List BE} (h : VCalls P g args t0 (fun v t => ∃ (x : α) (s' : S), p x ∧ t = s'.ext [] ∧ FinS s' v (f x) (H x))) :
    VCalls P g args t0 (fun v t => ∃ (x : α) (s' : S), p x ∧ v = f x ∧ t = s'.ext [] ∧ Hold s' s'.next (H x)) := by
  refine VCalls.turn h fun v t _ ⟨x, s', h1, h2, h3⟩ => ?_
  subst h2
  obtain ⟨s2, k1, k2⟩ := h3.turn
  exact ⟨f x, s2.ext [], k1, x, s2, h1, rfl, rfl, k2⟩
/-- A variable's value, given up between two regions: from there on a plain one. -/
theorem WL.frz {P : Program} {N : Nat} {c : Code} {Q : Exit → Kn → S → Prop} {L : Kn} {s : S} {H : List BE} {v d : V} (k : Nat) (hk : lk L k = some v) (hh : Hold s s.next (.own v d :: H)) (h : ∀ s1 : S, Hold s1 s1.next H → WL P N c Q ((k, d) :: L) (s1.ext [])) : WL P N c Q L (s.ext []) := by
  obtain ⟨s2, ht, h2⟩ := hh.frz
  refine ⟨fun σ hσ => ?_⟩
  have hv : σ k = v := hσ _ _ hk
  have hw := (h s2 h2).run (put σ k d) (hσ.cons k d)
  intro E a hr ha
  obtain ⟨E', e1, e2, e3, e4⟩ := ht E _ hr (by have := ha.slot k; rw [hv] at this; exact this)
  have ha' : RepA E' (put σ k d) N a := ⟨fun t => by
    unfold put
    split
    · rename_i e; subst e; exact e4
    · exact (ha.slot t).evolve e2.ev, ha.size, ha.defers⟩
  have := hw E' a e3 ha'
  rw [e1] at this
  exact wp_mono this fun _ _ _ ⟨E2, σ', s', x, y, z1, z2, z3⟩ => ⟨E2, σ', s', x, y, z1, z2, e2.trans z3⟩
theorem RdL.app {s : S} : ∀ {vs ds ws es : List V}, RdL s vs ds → RdL s ws es → RdL s (vs ++ ws) (ds ++ es)
  | _, _, _, _, .nil, k => k
  | _, _, _, _, .cons h t, k => .cons h (t.app k)
/-- Plain values, and behind them one that is given up. -/
theorem FinS.pl {s : S} {H H' H2 : List BE} {v d : V} (ps : List V) (hh : Hold s s.next H') (hc : ConsO H' v d H2) (hs : Sel H2 H) (hp : V.plainL ps = true) : FinS s (.agg (ps ++ [v])) (.agg (ps ++ [d])) H :=
  ⟨[.own v d], (hh.pack hc).sel (.cons 0 rfl rfl hs), rfl, fun s' ls h => by
    cases h with
    | cons h1 t => exact .agg ((RdL.plain ps hp).app (.cons (Ow.rd h1) .nil))⟩
theorem VCalls.frzST {P : Program} {g : FuncId} {args : List V} {t0 : S} {α : Type} {f : α → List V} {p : α → Prop} {H : List BE} (h : VCalls P g args t0 (fun v t => ∃ (x : α) (s' : S) (vs : List V), p x ∧ v = .tup vs ∧ t = s'.ext [] ∧ FinS s' (.agg vs) (.agg (f x)) H)) :
    VCalls P g args t0 (fun v t => ∃ (x : α) (s' : S), p x ∧ v = .tup (f x) ∧ t = s'.ext [] ∧ Hold s' s'.next H) := by
  refine VCalls.turn h fun v t _ ⟨x, s', vs, h1, h0, h2, h3⟩ => ?_
  subst h2 h0
  obtain ⟨s2, k1, k2⟩ := h3.turn
  exact ⟨.tup (f x), s2.ext [], k1.tup, x, s2, h1, rfl, rfl, k2⟩
/-- A slice whose last element is the same as its first. -/
theorem FinS.dup {s : S} {H : List BE} {c l n sz : Nat} {u d : V} {Z dZ rest : List V} (hh : Hold s s.next (.cell l (V.flat (u :: Z ++ [u]) ++ rest) :: .own u d :: .own (.agg Z) (.agg dZ) :: H)) (hn : n = dZ.length + 2) (hsz : ∀ x ∈ d :: dZ, x.cells.length = sz) :
    FinS s (.agg [.slm (.is c) l 0 n]) (.agg [.sl 0 (d :: dZ ++ [d])]) H := by
  refine ⟨[.cell l (V.flat (u :: Z ++ [u]) ++ rest), .own u d, .own (.agg Z) (.agg dZ)], hh, rfl, fun s' ls h => ?_⟩
  cases h with
  | cons h1 t =>
    cases t with
    | cons h2 t =>
      cases t with
      | cons h3 t =>
        obtain ⟨_, hv⟩ := h1
        have k2 : Ow s' u d _ := h2
        have k3 : ∃ a, OwL s' Z dZ a := by
          have k : Ow s' (.agg Z) (.agg dZ) _ := h3
          cases k with
          | scal hs => cases hs
          | agg k => exact ⟨_, k⟩
        obtain ⟨a3, k3⟩ := k3
        have hw : OwL s' (u :: Z) (d :: dZ) _ := .cons k2 k3
        have hz := hw.sizes hsz
        refine .agg (.cons (.slm hv (by rw [hn, k3.len]; simp) (sz := sz) (fun x hx => ?_) (RdL.app (.cons k2.rd k3.rd) (.cons k2.rd .nil))) .nil)
        rcases List.mem_append.1 hx with hx | hx
        · exact hz x hx
        · rw [List.mem_singleton] at hx
          subst hx
          exact hz x (by simp)

/-- A slice whose first element is open: its cells lie in the slice's variable, what they own in other entries. -/
theorem FinS.opn {s : S} {H : List BE} {c l n sz : Nat} {u d : V} {A Z ce dZ rest : List V} (es : List BE) (hh : Hold s s.next (.cell l (V.flat A ++ (ce ++ (V.flat Z ++ rest))) :: .own (.agg A) (.agg []) :: .own (.agg Z) (.agg dZ) :: (es ++ H))) (hce : ce = u.cells) (hsu : u.cells.length = sz) (hco : es.all BE.co = true)
    (hu : ∀ (s' : S) ls, HoldL s' es ls → Rd s' u d) (hn : n = dZ.length + 1) (hsz : ∀ x ∈ dZ, x.cells.length = sz) : FinS s (.agg [.slm (.is c) l 0 n]) (.agg [.sl 0 (d :: dZ)]) H := by
  refine ⟨.cell l (V.flat A ++ (ce ++ (V.flat Z ++ rest))) :: .own (.agg A) (.agg []) :: .own (.agg Z) (.agg dZ) :: es, hh, hco, fun s' ls h => ?_⟩
  subst hce
  cases h with
  | cons h1 t =>
    cases t with
    | cons h2 t =>
      cases t with
      | cons h3 t =>
        obtain ⟨_, hv⟩ := h1
        have k2 : Ow s' (.agg A) (.agg []) _ := h2
        have k3 : ∃ a, OwL s' Z dZ a := by
          have k : Ow s' (.agg Z) (.agg dZ) _ := h3
          cases k with
          | scal hs => cases hs
          | agg k => exact ⟨_, k⟩
        obtain ⟨a3, k3⟩ := k3
        have hA : A = [] := by
          cases k2 with
          | scal hs => cases hs
          | agg k => cases k; rfl
        subst hA
        have hz := k3.sizes hsz
        have hv' : s'.vars l = some (V.flat (u :: Z) ++ rest) := by
          rw [hv, flat_cons]
          simp [V.flat]
        refine .agg (.cons (.slm hv' (by rw [hn, k3.len]; simp) (sz := sz) (fun x hx => ?_) (.cons (hu s' _ t) k3.rd)) .nil)
        rcases List.mem_cons.1 hx with rfl | hx
        · exact hsu
        · exact hz x hx

theorem Hold.extN {s : S} {H : List BE} (h : Hold s s.next H) (xs : List Own) : Hold (s.ext xs) (s.ext xs).next H := by
  obtain ⟨ls, h1, h2, h3⟩ := h.ex
  exact ⟨ls, h1.congr (by rw [ext_next]; omega) fun p hp => .lt (h3 p hp), h2, fun p hp => by rw [ext_next]; have := h3 p hp; omega⟩
theorem LOps.reb {P : Program} {N : Nat} {ops : Array Oper} {l : List Oper} {K : Kn → S → Prop} {L : Kn} {s : S} {H : List BE} {xs : List Own} (hh : Hold s s.next H) (hk : ∀ s1 : S, Hold s1 s1.next H → LOps P N ops l K L (s1.ext [])) : LOps P N ops l K L (s.ext xs) := by
  rw [← ext_ext_nil]
  exact hk _ (hh.extN xs)
theorem WL.reb {P : Program} {N : Nat} {c : Code} {Q : Exit → Kn → S → Prop} {L : Kn} {s : S} {H : List BE} {xs : List Own} (hh : Hold s s.next H) (hk : ∀ s1 : S, Hold s1 s1.next H → WL P N c Q L (s1.ext [])) : WL P N c Q L (s.ext xs) := by
  rw [← ext_ext_nil]
  exact hk _ (hh.extN xs)

end Go.Proofs.Ytkkifdgnebbghaa
