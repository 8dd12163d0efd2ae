/-
  Memory of one's own taken apart and put together again; calls that turn it; elements read and written. Own work; no condition.
-/
import Derived.Test.YtkkifdgnebbghaaDCow
namespace Go.Proofs.Ytkkifdgnebbghaa
open Go

theorem Hold.split {s : S} {H : List BE} {b n : Nat} {d d1 d2 : V} (h : Hold s b (.blk n d :: H)) (hc : cv d = cv d1 + cv d2) (ht : (thw n d).2 = (thw n d1).2 ++ (thw (n + cv d1) d2).2) (p1 : d1.plain = true) (p2 : d2.plain = true) :
    Hold s b (.blk n d1 :: .blk (n + cv d1) d2 :: H) := by
  obtain ⟨ls, h1, h2, h3⟩ := h.ex
  cases h1 with
  | cons k1 k2 =>
    obtain ⟨e1, e2, e3, e4⟩ := k1
    rename_i a0 b0
    have hv : vl n (cv d1) ++ (vl (n + cv d1) (cv d2) ++ b0) = a0 ++ b0 := by rw [← List.append_assoc, vl_append, e1, hc]
    rw [ht] at e3
    have e5 := e3.right
    rw [thw_cv] at e5
    exact ⟨vl n (cv d1) ++ (vl (n + cv d1) (cv d2) ++ b0), .cons ⟨rfl, p1, e3.left, by omega⟩ (.cons ⟨rfl, p2, e5, by omega⟩ k2), by rw [hv]; exact h2, by rw [hv]; exact h3⟩
theorem Hold.join {s : S} {H : List BE} {b n m : Nat} {d d1 d2 : V} (h : Hold s b (.blk n d1 :: .blk m d2 :: H)) (hm : m = n + cv d1) (hc : cv d = cv d1 + cv d2) (ht : (thw n d).2 = (thw n d1).2 ++ (thw (n + cv d1) d2).2) (hp : d.plain = true) :
    Hold s b (.blk n d :: H) := by
  subst hm
  obtain ⟨ls, h1, h2, h3⟩ := h.ex
  cases h1 with
  | cons k1 k2 =>
    cases k2 with
    | cons k2 k3 =>
      obtain ⟨e1, e2, e3, e4⟩ := k1
      obtain ⟨f1, f2, f3, f4⟩ := k2
      rename_i a0 a1 b0
      have hv : vl n (cv d) ++ b0 = a0 ++ (a1 ++ b0) := by rw [e1, f1, ← List.append_assoc, vl_append, hc]
      refine ⟨vl n (cv d) ++ b0, .cons ⟨rfl, hp, ?_, by omega⟩ k3, by rw [hv]; exact h2, by rw [hv]; exact h3⟩
      rw [ht]
      intro j p hj
      rcases Nat.lt_or_ge j (thw n d1).2.length with hlt | hge
      · rw [List.getElem?_append_left hlt] at hj
        exact e3 j p hj
      · rw [List.getElem?_append_right hge] at hj
        have := f3 _ p hj
        rw [thw_cv] at this hge
        rwa [show n + cv d1 + (j - cv d1) = n + j by omega] at this
/-- A slice's cells, and what its elements hold. -/
theorem Hold.open {s : S} {H : List BE} {b n : Nat} {ds : List V} (h : Hold s b (.blk n (.sl 0 ds) :: H)) (hne : ds.isEmpty = false) (hp : V.plainL ds = true) : Hold s b (.cell (n + cvL ds) (V.flat (thwL n ds).1) :: .blk n (.agg ds) :: H) := by
  have hc : cv (.sl 0 ds) = cvL ds + 1 := by simp [cv, hne]
  have ht : (thw n (.sl 0 ds)).2 = (thwL n ds).2 ++ [(0, V.flat (thwL n ds).1)] := by
    unfold thw
    rw [hne]
    simp
  obtain ⟨ls, h1, h2, h3⟩ := h.ex
  cases h1 with
  | cons k1 k2 =>
    obtain ⟨e1, e2, e3, e4⟩ := k1
    rename_i a0 b0
    rw [ht] at e3
    rw [hc, ← vl_append] at e1
    have hr : LeL ([(true, n + cvL ds)] ++ (vl n (cvL ds) ++ b0)) (a0 ++ b0) := by
      rw [e1, ← List.append_assoc]
      exact (LeL.comm _ _).app (LeL.refl b0)
    refine ⟨[(true, n + cvL ds)] ++ (vl n (cvL ds) ++ b0), .cons ⟨rfl, ?_⟩ (.cons ⟨rfl, hp, e3.left, by rw [hc] at e4; simp only [cv]; omega⟩ k2), hr.1 h2, fun p hp => h3 p (hr.2 p hp)⟩
    have := e3.right 0 _ rfl
    rw [thwL_cv] at this
    exact this
theorem Hold.shut {s : S} {H : List BE} {b n l : Nat} {ds cs : List V} (h : Hold s b (.cell l cs :: .blk n (.agg ds) :: H)) (hl : l = n + cvL ds) (hcs : cs = V.flat (thwL n ds).1) (hne : ds.isEmpty = false) (hp : V.plain (.sl 0 ds) = true) (hb : l < s.next) : Hold s b (.blk n (.sl 0 ds) :: H) := by
  subst hl
  subst hcs
  have hc : cv (.sl 0 ds) = cvL ds + 1 := by simp [cv, hne]
  have ht : (thw n (.sl 0 ds)).2 = (thwL n ds).2 ++ [(0, V.flat (thwL n ds).1)] := by
    unfold thw
    rw [hne]
    simp
  obtain ⟨ls, h1, h2, h3⟩ := h.ex
  cases h1 with
  | cons k1 k2 =>
    cases k2 with
    | cons k2 k3 =>
      obtain ⟨e1, e2⟩ := k1
      obtain ⟨f1, f2, f3, f4⟩ := k2
      rename_i a0 a1 b0
      have hr : LeL (vl n (cvL ds + 1) ++ b0) (a0 ++ (a1 ++ b0)) := by
        have f1' : a1 = vl n (cvL ds) := f1
        rw [e1, f1', ← vl_append, ← List.append_assoc]
        exact (LeL.comm _ _).app (LeL.refl b0)
      refine ⟨vl n (cvL ds + 1) ++ b0, .cons ⟨by rw [hc], hp, ?_, by rw [hc]; omega⟩ k3, hr.1 h2, fun p hp => h3 p (hr.2 p hp)⟩
      rw [ht]
      intro j p hj
      rcases Nat.lt_or_ge j (thwL n ds).2.length with hlt | hge
      · rw [List.getElem?_append_left hlt] at hj
        exact f3 j p hj
      · rw [List.getElem?_append_right hge] at hj
        rw [thwL_cv] at hge hj
        have hj2 : j - cvL ds = 0 := by
          have := (List.getElem?_eq_some_iff.1 hj).1
          simp only [List.length_singleton] at this
          omega
        rw [hj2] at hj
        cases hj
        rw [show n + j = n + cvL ds by omega]
        exact e2
theorem plainL_append (a b : List V) : V.plainL (a ++ b) = (V.plainL a && V.plainL b) := by
  rw [V.plainL_eq, V.plainL_eq, V.plainL_eq, List.all_append]
/-- One of a row of values. -/
theorem Hold.part {s : S} {H : List BE} {b n : Nat} {A Z : List V} {d : V} (h : Hold s b (.blk n (.agg (A ++ d :: Z)) :: H)) (hp : V.plainL (A ++ d :: Z) = true) : Hold s b (.blk n (.agg A) :: .blk (n + cvL A) d :: .blk (n + cvL A + cv d) (.agg Z) :: H) := by
  rw [plainL_append] at hp
  simp only [V.plainL, Bool.and_eq_true] at hp
  obtain ⟨p1, p2, p3⟩ := hp
  have h1 := h.split (d1 := .agg A) (d2 := .agg (d :: Z)) (by simp only [cv, cvL_append]) (by simp only [thw, thwL_append, thwL_cv, cv]) p1 (by simp only [V.plain, V.plainL, p2, p3, Bool.and_self])
  have e : cv (.agg A) = cvL A := rfl
  rw [e] at h1
  -- the second, taken apart in its turn
  have h2 : Hold s b (.blk (n + cvL A) (.agg (d :: Z)) :: .blk n (.agg A) :: H) := h1.sel (.cons 1 rfl rfl (.cons 0 rfl rfl (Sel.refl H)))
  have h3 := h2.split (d1 := d) (d2 := .agg Z) (by simp only [cv, cvL]) (by simp only [thw, thwL, thw_cv]) p2 p3
  exact h3.sel (.cons 2 rfl rfl (.cons 0 rfl rfl (.cons 0 rfl rfl (Sel.refl H))))
theorem Hold.unpart {s : S} {H : List BE} {b n m m' : Nat} {A Z : List V} {d : V} (h : Hold s b (.blk n (.agg A) :: .blk m d :: .blk m' (.agg Z) :: H)) (hm : m = n + cvL A) (hm' : m' = m + cv d) (hp : V.plainL (A ++ d :: Z) = true) : Hold s b (.blk n (.agg (A ++ d :: Z)) :: H) := by
  subst hm
  subst hm'
  have hp' := hp
  rw [plainL_append] at hp
  simp only [V.plainL, Bool.and_eq_true] at hp
  obtain ⟨p1, p2, p3⟩ := hp
  have h1 : Hold s b (.blk (n + cvL A) d :: .blk (n + cvL A + cv d) (.agg Z) :: .blk n (.agg A) :: H) := h.sel (.cons 1 rfl rfl (.cons 1 rfl rfl (.cons 0 rfl rfl (Sel.refl H))))
  have h2 := h1.join (d := .agg (d :: Z)) rfl (by simp only [cv, cvL]) (by simp only [thw, thwL, thw_cv]) (by simp only [V.plain, V.plainL, p2, p3, Bool.and_self])
  have h3 : Hold s b (.blk n (.agg A) :: .blk (n + cvL A) (.agg (d :: Z)) :: H) := h2.sel (.cons 1 rfl rfl (.cons 0 rfl rfl (Sel.refl H)))
  exact h3.join rfl (by simp only [cv, cvL_append]) (by simp only [thw, thwL_append, thwL_cv, cv]) hp'

theorem flat_thwL_append (A B : List V) (n : Nat) : V.flat (thwL n (A ++ B)).1 = V.flat (thwL n A).1 ++ V.flat (thwL (n + cvL A) B).1 := by
  rw [thwL_append, thwL_cv, V.flat_append]
theorem flat_thwL_cons (d : V) (B : List V) (n : Nat) : V.flat (thwL n (d :: B)).1 = (thw n d).1.cells ++ V.flat (thwL (n + cv d) B).1 := by
  simp only [thwL, thw_cv, flat_cons]

/-- One element of a slice, by itself. -/
theorem Hold.elt {s : S} {H : List BE} {b n : Nat} {A Z : List V} {d : V} (h : Hold s b (.blk n (.sl 0 (A ++ d :: Z)) :: H)) (hp : V.plain (.sl 0 (A ++ d :: Z)) = true) :
    Hold s b (.cell (n + cvL (A ++ d :: Z)) (V.flat (thwL n A).1 ++ ((thw (n + cvL A) d).1.cells ++ V.flat (thwL (n + cvL A + cv d) Z).1)) :: .blk (n + cvL A) d :: .blk n (.agg A) :: .blk (n + cvL A + cv d) (.agg Z) :: H) := by
  have hp' : V.plainL (A ++ d :: Z) = true := by
    simp only [V.plain, Bool.and_eq_true] at hp
    exact hp.2
  have hne : (A ++ d :: Z).isEmpty = false := by cases A <;> rfl
  have h1 := h.open hne hp'
  rw [flat_thwL_append, flat_thwL_cons] at h1
  have h2 : Hold s b (.blk n (.agg (A ++ d :: Z)) :: .cell (n + cvL (A ++ d :: Z)) (V.flat (thwL n A).1 ++ ((thw (n + cvL A) d).1.cells ++ V.flat (thwL (n + cvL A + cv d) Z).1)) :: H) := h1.sel (.cons 1 rfl rfl (.cons 0 rfl rfl (Sel.refl H)))
  have h3 := h2.part hp'
  exact h3.sel (.cons 3 rfl rfl (.cons 1 rfl rfl (.cons 0 rfl rfl (.cons 0 rfl rfl (Sel.refl H)))))
theorem Hold.unelt {s : S} {H : List BE} {b n m m' l : Nat} {A Z ce : List V} {d : V} (h : Hold s b (.cell l (V.flat (thwL n A).1 ++ (ce ++ V.flat (thwL m' Z).1)) :: .blk m d :: .blk n (.agg A) :: .blk m' (.agg Z) :: H)) (hm : m = n + cvL A) (hm' : m' = m + cv d)
    (hl : l = n + cvL (A ++ d :: Z)) (hce : ce = (thw m d).1.cells) (hp : V.plain (.sl 0 (A ++ d :: Z)) = true) (hb : l < s.next) : Hold s b (.blk n (.sl 0 (A ++ d :: Z)) :: H) := by
  have hp' : V.plainL (A ++ d :: Z) = true := by
    simp only [V.plain, Bool.and_eq_true] at hp
    exact hp.2
  have hne : (A ++ d :: Z).isEmpty = false := by cases A <;> rfl
  have h2 : Hold s b (.blk n (.agg A) :: .blk m d :: .blk m' (.agg Z) :: .cell l (V.flat (thwL n A).1 ++ (ce ++ V.flat (thwL m' Z).1)) :: H) := h.sel (.cons 2 rfl rfl (.cons 1 rfl rfl (.cons 1 rfl rfl (.cons 0 rfl rfl (Sel.refl H)))))
  have h3 := h2.unpart hm hm' hp'
  have h4 : Hold s b (.cell l (V.flat (thwL n A).1 ++ (ce ++ V.flat (thwL m' Z).1)) :: .blk n (.agg (A ++ d :: Z)) :: H) := h3.sel (.cons 1 rfl rfl (.cons 0 rfl rfl (Sel.refl H)))
  refine h4.shut hl ?_ hne hp hb
  subst hm' hm hce
  rw [flat_thwL_append, flat_thwL_cons]
theorem thw_slE {n : Nat} {a b : List V} (hl : a.length = b.length) (hc : cvL a = cvL b) : (thw n (.sl 0 a)).1 = (thw n (.sl 0 b)).1 := by
  cases a with
  | nil =>
    have : b = [] := List.length_eq_zero_iff.1 hl.symm
    rw [this]
  | cons x a =>
    cases b with
    | nil => cases hl
    | cons y b => rw [thw_sl n 0 rfl, thw_sl n 0 rfl, hc, hl]
theorem cvL_mapE {α : Type} {f : α → V} {F : α → α} : ∀ (l : List α), (∀ x ∈ l, cv (f (F x)) = cv (f x)) → cvL (l.map fun x => f (F x)) = cvL (l.map f)
  | [], _ => rfl
  | x :: l, h => by simp only [List.map_cons, cvL, h x (by simp), cvL_mapE l fun y hy => h y (by simp [hy])]

/-- A function that turns what it is given. -/
def TurnF (P : Program) (g : FuncId) (A : V → List V) (d d' : V) : Prop :=
  ∀ (s : S) (H : List BE) (n : Nat), Hold s s.next (.blk n d :: H) → VCalls P g (A (thw n d).1) (s.ext []) (fun v t => ∃ s' : S, v = (thw n d').1 ∧ t = s'.ext [] ∧ Hold s' s'.next (.blk n d' :: H))
section
variable {P : Program} {N : Nat} {ops : Array Oper} {l : List Oper} {K : Kn → S → Prop} {L : Kn} {s : S} {tt : BT} {d : Nat} {ty : TypeId} {p : String} {a : Array Edge} {H H1 : List BE}
theorem LOps.turnH {f : Operand} {g : FuncId} {args : Array Operand} {B : Array TypeId} {A : V → List V} {dv dv' : V} {m : Nat} (j : Nat) (hf : opd L f = some (.fn g [])) (hc : TurnF P g A dv dv') (ha : opdL L args.toList = some (A (thw m dv).1)) (hok : CallOk P g)
    (hh : Hold s s.next H) (hi : nthO H j = some (.blk m dv)) (he : eraO H j = some H1)
    (hk : ∀ s' : S, Hold s' s'.next (.blk m dv' :: H1) → LOps P N ops l K ((d, (thw m dv').1) :: L) (s'.ext [])) :
    LOps P N ops (⟨some d, .call ⟨.value f, args, B⟩, ty, p, a, none⟩ :: l) K L (s.ext []) := by
  refine .call hf ha (appO_nil _) hok (hc s H1 m (hh.front hi he)) fun v s' hv => ?_
  obtain ⟨t, rfl, rfl, h3⟩ := hv
  exact hk t h3
/-- An element, loaded. -/
theorem AnsL.loadHE (ht : tt.ok P) {T : TypeId} {u : Ty} {x : Operand} {k off q : Nat} {cs CA ce CZ : List V} {v : V} (i f : Nat) (hh : Hold s s.next H) (hi : nthO H i = some (.cell k cs)) (hcs : cs = CA ++ (ce ++ CZ)) (hq : CA.length = q) (hx : opd L x = some (.ptr k off)) (ho : off = 0 + q + f) (hT : tt.get T = some u)
    (hr : takeO ce f u.size u.agg = some v) : AnsL P (.load T x) L (s.ext []) v := by
  subst hcs
  obtain ⟨h1, h2⟩ := hh.cell (List.mem_of_getElem? (nthO_eq hi))
  refine .of fun σ hσ _ _ _ _ _ => ?_
  have h := take_mid (CA := CA) (CZ := CZ) hr
  rw [hq, show q + f = off by omega] at h
  simp only [vop, opd_eq hσ hx, vload, ht.get hT, ext_vars_lt s [] (show k < s.next by omega), h2, h, Option.bind_some, Option.map_some]
/-- An element, written. -/
theorem LOps.storeHE (ht : tt.ok P) {T : TypeId} {u : Ty} {x y : Operand} {k off q : Nat} {cs CA ce ce' CZ vs : List V} {v : V} {H' : List BE} (i f : Nat) (hh : Hold s s.next H) (hi : nthO H i = some (.cell k cs)) (hcs : cs = CA ++ (ce ++ CZ)) (hq : CA.length = q) (hx : opd L x = some (.ptr k off)) (ho : off = 0 + q + f)
    (hy : opd L y = some v) (hT : tt.get T = some u) (hc : cellsO v = some vs) (h1 : onesO vs = true) (hn : Nat.beq vs.length u.size = true) (hsp : splO ce f vs = some ce') (hs : setO H i (.cell k (CA ++ (ce' ++ CZ))) = some H')
    (hk : ∀ s' : S, Hold s' s'.next H' → LOps P N ops l K L (s'.ext [])) : LOps P N ops (⟨none, .store T x y, ty, p, a, none⟩ :: l) K L (s.ext []) := by
  subst hcs
  obtain ⟨g1, g2⟩ := hh.cell (List.mem_of_getElem? (nthO_eq hi))
  refine .stN (v := .und) (s' := (s.setVar k (CA ++ (ce' ++ CZ))).ext []) (fun σ hσ => ?_) (hk _ (hh.set hi hs))
  obtain ⟨h2, h3⟩ := splO_eq hsp
  have h4 : vs.length = u.size := Nat.eq_of_beq_eq_true hn
  simp only [vop, opd_eq hσ hx, opd_eq hσ hy, vstore, ht.get hT, ext_vars_lt s [] (show k < s.next by omega), g2, cellsO_eq hc, Option.bind_some]
  have h5 := splice_mid (CA := CA) (CZ := CZ) h3
  rw [hq, show q + f = off by omega] at h5
  rw [if_pos ⟨h4, by simp only [List.length_append]; omega, onesO_eq h1⟩, h5, ← h2, Option.map_some, ext0_setVar (by omega)]
theorem AnsL.lenT (ht : tt.ok P) {T e : TypeId} {t : Ty} {x : Operand} {n : Nat} {ds : List V} {v : V} (hx : opd L x = some v) (hv : v = (thw n (.sl 0 ds)).1) (hT : tt.get T = some t) (hkd : t.kd = .slice e) : AnsL P (.call ⟨.builtin .len, #[x], #[T]⟩) L s (.int .i64 ds.length) := by
  subst hv
  refine .of fun σ hσ _ _ _ _ _ => ?_
  cases ds with
  | nil =>
    have e : (thw n (.sl 0 [])).1 = .sl 0 [] := rfl
    rw [e] at hx
    simp only [vop, vevL, opd_eq hσ hx, vbuiltin, vlen, ht.get hT, hkd, Option.bind_some, Option.map_some]
  | cons y r =>
    rw [thw_sl n 0 rfl] at hx
    simp only [vop, vevL, opd_eq hσ hx, vbuiltin, vlen, ht.get hT, hkd, Option.bind_some, Option.map_some]
theorem AnsL.idxT (ht : tt.ok P) {T e : TypeId} {t te : Ty} {x i : Operand} {n j : Nat} {k : IntKind} {ds : List V} {v : V} (hx : opd L x = some v) (hv : v = (thw n (.sl 0 ds)).1) (hi : opd L i = some (.int k (j : Int))) (hT : tt.get T = some t) (hkd : t.kd = .slice e)
    (hte : tt.get e = some te) (hj : j < ds.length) : AnsL P (.indexAddr T x i) L s (.ptr (n + cvL ds) (0 + j * te.size)) := by
  subst hv
  have hne : ds.isEmpty = false := by cases ds with | nil => simp at hj | cons => rfl
  rw [thw_sl n 0 hne] at hx
  exact AnsL.idxM ht hx hi hT hkd hte hj

/-- A loop that turns the elements of a slice, one by one. -/
theorem WL.loopTurn {α : Type} {c : Code} {Q : Exit → Kn → S → Prop} (n sz : Nat) (xs : List α) (f : α → V) (F : α → α) (LI : Nat → Kn) (H0 : List BE) (hsz : ∀ x, (f x).cells.length = sz) (hcv : ∀ x ∈ xs, cv (f (F x)) = cv (f x)) (hpl : ∀ x, (f x).plain = true)
    (hL : SubL (LI 0) L) (hh : Hold s s.next H) (hH : Sel H (.blk n (.sl 0 (xs.map f)) :: H0))
    (round : ∀ (i : Nat) (hi : i < xs.length) (s : S) (m m' : Nat) (A Z CA CZ : List V), CA.length = i * sz → Hold s s.next (.cell (n + cvL (xs.map f)) (CA ++ ((thw m (f xs[i])).1.cells ++ CZ)) :: .blk m (f xs[i]) :: .blk n (.agg A) :: .blk m' (.agg Z) :: H0) →
      WL P N c (CutH (fun _ : Unit => LI (i + 1)) (fun _ => .cell (n + cvL (xs.map f)) (CA ++ ((thw m (f (F xs[i]))).1.cells ++ CZ)) :: .blk m (f (F xs[i])) :: .blk n (.agg A) :: .blk m' (.agg Z) :: H0) (fun _ => True)) (LI i) (s.ext []))
    (fin : ∀ s : S, Hold s s.next (.blk n (.sl 0 ((xs.map F).map f)) :: H0) → WL P N c (lfin Q) (LI xs.length) (s.ext [])) : WL P N (.loop c) Q L (s.ext []) := by
  have hpn : ∀ l : List α, ∀ r : List α, V.plain (.sl 0 (l.map (fun x => f (F x)) ++ r.map f)) = true := fun l r => by
    simp only [V.plain, Bool.and_eq_true, beq_self_eq_true, true_and, V.plainL_eq, List.all_eq_true]
    refine ⟨sameSz_of (sz := sz) fun x hx => ?_, fun x hx => ?_⟩
    · rcases List.mem_append.1 hx with hx | hx
      · obtain ⟨y, _, rfl⟩ := List.mem_map.1 hx; exact hsz _
      · obtain ⟨y, _, rfl⟩ := List.mem_map.1 hx; exact hsz _
    · rcases List.mem_append.1 hx with hx | hx
      · obtain ⟨y, _, rfl⟩ := List.mem_map.1 hx; exact hpl _
      · obtain ⟨y, _, rfl⟩ := List.mem_map.1 hx; exact hpl _
  have hcvm : ∀ i, cvL ((xs.take i).map (fun x => f (F x)) ++ (xs.drop i).map f) = cvL (xs.map f) := fun i => by
    rw [cvL_append, cvL_mapE _ fun x hx => hcv x (List.mem_of_mem_take hx), ← cvL_append, ← List.map_append, List.take_append_drop]
  refine WL.loopH (fun i : Nat => xs.length - i) LI (fun i => .blk n (.sl 0 ((xs.take i).map (fun x => f (F x)) ++ (xs.drop i).map f)) :: H0) (fun i => i ≤ xs.length) 0 (by omega) hL hh (by simpa using hH) fun i s hi hh => ?_
  rcases Nat.lt_or_ge i xs.length with hlt | hge
  · have hd : xs.drop i = xs[i] :: xs.drop (i + 1) := List.drop_eq_getElem_cons hlt
    have ht : xs.take (i + 1) = xs.take i ++ [xs[i]] := (List.take_append_getElem hlt).symm
    have hcv0 := hcvm i
    have hp0 := hpn (xs.take i) (xs.drop i)
    rw [hd, List.map_cons] at hh hcv0 hp0
    have h1 := hh.elt hp0
    rw [hcv0] at h1
    refine (round i hlt s _ _ _ _ _ _ ?_ h1).mono ?_
    · have hall : ∀ x ∈ (xs.take i).map (fun x => f (F x)), x.cells.length = sz := fun x hx => by
        obtain ⟨y, _, rfl⟩ := List.mem_map.1 hx; exact hsz _
      rw [flat_len_sz hall, List.length_map, List.length_take, Nat.min_eq_left hi]
    · rintro e L' s' ⟨⟨rfl, _, t, _, hsub, rfl, ht2⟩⟩
      have hcv1 := hcvm (i + 1)
      have hp1 := hpn (xs.take (i + 1)) (xs.drop (i + 1))
      rw [ht, List.map_append, List.map_cons, List.map_nil, List.append_assoc, List.singleton_append] at hcv1 hp1
      have hc := hcv xs[i] (List.getElem_mem hlt)
      have hlb := (ht2.cell (List.mem_cons_self ..)).1
      have h2 := ht2.unelt rfl (by rw [hc]) (by rw [hcv1]) rfl hp1 (by omega)
      refine lbackH.of (i + 1) hsub h2 ?_ hlt (by omega)
      rw [ht, List.map_append, List.map_cons, List.map_nil, List.append_assoc, List.singleton_append]
      exact Sel.refl _
  · have hi2 : i = xs.length := by omega
    subst hi2
    rw [List.take_length, List.drop_length, List.map_nil, List.append_nil] at hh
    refine (fin s (by rw [List.map_map]; exact hh)).mono ?_
    rintro e L' s' ⟨h⟩
    cases e with
    | normal => exact h.elim
    | _ => exact ⟨h⟩
end

end Go.Proofs.Ytkkifdgnebbghaa
