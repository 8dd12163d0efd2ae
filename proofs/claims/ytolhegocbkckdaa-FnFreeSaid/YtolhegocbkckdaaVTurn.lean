/-
  Memory of one's own taken apart and put together again; calls that turn it; elements read and written. Own work; no condition.
-/
import Derived.Test.YtolhegocbkckdaaDCow
namespace Go.Proofs.Ytolhegocbkckdaa
open Go
theorem Hold.split {s : S} {H : List BE} {b n : Nat} {d d1 d2 : V} (h : Hold s b (.blk n d :: H)) (hc : cv d = cv d1 + cv d2) (ht : (thw n d).2 = (thw n d1).2 ++ (thw (n + cv d1) d2).2) (p1 : d1.plain = true) (p2 : d2.plain = true) :
    Hold s b (.blk n d1 :: .blk (n + cv d1) d2 :: H) := by
  obtain ⟨ls, h1, h2, h3⟩ := h.ex
  cases h1 with
  | cons k1 k2 =>
    obtain ⟨e1, e2, e3, e4⟩ := k1
    rename_i a0 b0
    have hv : vl n (cv d1) ++ (vl (n + cv d1) (cv d2) ++ b0) = a0 ++ b0 := by rw [← List.append_assoc, vl_append, e1, hc]
    rw [ht] at e3
    have e5 := e3.right
    rw [thw_cv] at e5
    exact ⟨vl n (cv d1) ++ (vl (n + cv d1) (cv d2) ++ b0), .cons ⟨rfl, p1, e3.left, by omega⟩ (.cons ⟨rfl, p2, e5, by omega⟩ k2), by rw [hv]; exact h2, by rw [hv]; exact h3⟩
/-- A slice's cells, and what its elements hold. -/
theorem Hold.open {s : S} {H : List BE} {b n : Nat} {ds : List V} (h : Hold s b (.blk n (.sl 0 ds) :: H)) (hne : ds.isEmpty = false) (hp : V.plainL ds = true) : Hold s b (.cell (n + cvL ds) (V.flat (thwL n ds).1) :: .blk n (.agg ds) :: H) := by
  have hc : cv (.sl 0 ds) = cvL ds + 1 := by simp [cv, hne]
  have ht : (thw n (.sl 0 ds)).2 = (thwL n ds).2 ++ [(0, V.flat (thwL n ds).1)] := by
    unfold thw
    rw [hne]
    simp
  obtain ⟨ls, h1, h2, h3⟩ := h.ex
  cases h1 with
  | cons k1 k2 =>
    obtain ⟨e1, e2, e3, e4⟩ := k1
    rename_i a0 b0
    rw [ht] at e3
    rw [hc, ← vl_append] at e1
    have hr : LeL ([(true, n + cvL ds)] ++ (vl n (cvL ds) ++ b0)) (a0 ++ b0) := by
      rw [e1, ← List.append_assoc]
      exact (LeL.comm _ _).app (LeL.refl b0)
    refine ⟨[(true, n + cvL ds)] ++ (vl n (cvL ds) ++ b0), .cons ⟨rfl, ?_⟩ (.cons ⟨rfl, hp, e3.left, by rw [hc] at e4; simp only [cv]; omega⟩ k2), hr.1 h2, fun p hp => h3 p (hr.2 p hp)⟩
    have := e3.right 0 _ rfl
    rw [thwL_cv] at this
    exact this
theorem plainL_append (a b : List V) : V.plainL (a ++ b) = (V.plainL a && V.plainL b) := by
  rw [V.plainL_eq, V.plainL_eq, V.plainL_eq, List.all_append]
/-- One of a row of values. -/
theorem Hold.part {s : S} {H : List BE} {b n : Nat} {A Z : List V} {d : V} (h : Hold s b (.blk n (.agg (A ++ d :: Z)) :: H)) (hp : V.plainL (A ++ d :: Z) = true) : Hold s b (.blk n (.agg A) :: .blk (n + cvL A) d :: .blk (n + cvL A + cv d) (.agg Z) :: H) := by
  rw [plainL_append] at hp
  simp only [V.plainL, Bool.and_eq_true] at hp
  obtain ⟨p1, p2, p3⟩ := hp
  have h1 := h.split (d1 := .agg A) (d2 := .agg (d :: Z)) (by simp only [cv, cvL_append]) (by simp only [thw, thwL_append, thwL_cv, cv]) p1 (by simp only [V.plain, V.plainL, p2, p3, Bool.and_self])
  have e : cv (.agg A) = cvL A := rfl
  rw [e] at h1
  -- the second, taken apart in its turn
  have h2 : Hold s b (.blk (n + cvL A) (.agg (d :: Z)) :: .blk n (.agg A) :: H) := h1.sel (.cons 1 rfl rfl (.cons 0 rfl rfl (Sel.refl H)))
  have h3 := h2.split (d1 := d) (d2 := .agg Z) (by simp only [cv, cvL]) (by simp only [thw, thwL, thw_cv]) p2 p3
  exact h3.sel (.cons 2 rfl rfl (.cons 0 rfl rfl (.cons 0 rfl rfl (Sel.refl H))))
theorem flat_thwL_append (A B : List V) (n : Nat) : V.flat (thwL n (A ++ B)).1 = V.flat (thwL n A).1 ++ V.flat (thwL (n + cvL A) B).1 := by
  rw [thwL_append, thwL_cv, V.flat_append]
theorem flat_thwL_cons (d : V) (B : List V) (n : Nat) : V.flat (thwL n (d :: B)).1 = (thw n d).1.cells ++ V.flat (thwL (n + cv d) B).1 := by
  simp only [thwL, thw_cv, flat_cons]
section
variable {P : Program} {N : Nat} {ops : Array Oper} {l : List Oper} {K : Kn → S → Prop} {L : Kn} {s : S} {tt : BT} {d : Nat} {ty : TypeId} {p : String} {a : Array Edge} {H H1 : List BE}
/-- An element, loaded. -/
theorem AnsL.loadHE (ht : tt.ok P) {T : TypeId} {u : Ty} {x : Operand} {k off q : Nat} {cs CA ce CZ : List V} {v : V} (i f : Nat) (hh : Hold s s.next H) (hi : nthO H i = some (.cell k cs)) (hcs : cs = CA ++ (ce ++ CZ)) (hq : CA.length = q) (hx : opd L x = some (.ptr k off)) (ho : off = 0 + q + f) (hT : tt.get T = some u)
    (hr : takeO ce f u.size u.agg = some v) : AnsL P (.load T x) L (s.ext []) v := by
  subst hcs
  obtain ⟨h1, h2⟩ := hh.cell (List.mem_of_getElem? (nthO_eq hi))
  refine .of fun σ hσ _ _ _ _ _ => ?_
  have h := take_mid (CA := CA) (CZ := CZ) hr
  rw [hq, show q + f = off by omega] at h
  simp only [vop, opd_eq hσ hx, vload, ht.get hT, ext_vars_lt s [] (show k < s.next by omega), h2, h, Option.bind_some, Option.map_some]
/-- An element, written. -/
theorem LOps.storeHE (ht : tt.ok P) {T : TypeId} {u : Ty} {x y : Operand} {k off q : Nat} {cs CA ce ce' CZ vs : List V} {v : V} {H' : List BE} (i f : Nat) (hh : Hold s s.next H) (hi : nthO H i = some (.cell k cs)) (hcs : cs = CA ++ (ce ++ CZ)) (hq : CA.length = q) (hx : opd L x = some (.ptr k off)) (ho : off = 0 + q + f)
    (hy : opd L y = some v) (hT : tt.get T = some u) (hc : cellsO v = some vs) (h1 : onesO vs = true) (hn : Nat.beq vs.length u.size = true) (hsp : splO ce f vs = some ce') (hs : setO H i (.cell k (CA ++ (ce' ++ CZ))) = some H')
    (hk : ∀ s' : S, Hold s' s'.next H' → LOps P N ops l K L (s'.ext [])) : LOps P N ops (⟨none, .store T x y, ty, p, a, none⟩ :: l) K L (s.ext []) := by
  subst hcs
  obtain ⟨g1, g2⟩ := hh.cell (List.mem_of_getElem? (nthO_eq hi))
  refine .stN (v := .und) (s' := (s.setVar k (CA ++ (ce' ++ CZ))).ext []) (fun σ hσ => ?_) (hk _ (hh.set hi hs))
  obtain ⟨h2, h3⟩ := splO_eq hsp
  have h4 : vs.length = u.size := Nat.eq_of_beq_eq_true hn
  simp only [vop, opd_eq hσ hx, opd_eq hσ hy, vstore, ht.get hT, ext_vars_lt s [] (show k < s.next by omega), g2, cellsO_eq hc, Option.bind_some]
  have h5 := splice_mid (CA := CA) (CZ := CZ) h3
  rw [hq, show q + f = off by omega] at h5
  rw [if_pos ⟨h4, by simp only [List.length_append]; omega, onesO_eq h1⟩, h5, ← h2, Option.map_some, ext0_setVar (by omega)]
end
end Go.Proofs.Ytolhegocbkckdaa
