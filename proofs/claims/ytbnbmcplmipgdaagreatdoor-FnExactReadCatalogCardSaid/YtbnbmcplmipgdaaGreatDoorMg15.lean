/-
  Further rules over the books: appends to a slice of nothing, slice literals of what lies in variables, a row with one more cell.
  Memory of one's own taken apart and put together again; calls that turn it; elements read and written.
  A text's bytes in a variable, and back.
  Own work; no condition.
-/
import Derived.Test.YtbnbmcplmipgdaaGreatDoorVTree
namespace Go.Proofs.YtbnbmcplmipgdaaGreatDoor
open Go
section
variable {P : Program} {N : Nat} {ops : Array Oper} {l : List Oper} {K : Kn → S → Prop} {L : Kn} {s : S} {tt : BT} {d : Nat} {ty : TypeId} {p : String} {a : Array Edge} {H : List BE}
end
/-- A slice literal of what lies in variables, that nobody appends to: it changes nothing that anybody sees. -/
theorem AnsL.bslE {P : Program} {L : Kn} {s : S} {tt : BT} (ht : tt.ok P) {T e : TypeId} {t te : Ty} {m : Nat} {parts : Array (Nat × Operand)} {ps : List (Nat × V)} {vs : List V} (hp : opdP L parts.toList = some ps) (hT : tt.get T = some t) (hkd : t.kd = .slice e) (hte : tt.get e = some te)
    (hz : (Nat.beq te.zero.length te.size && Nat.blt 0 te.size && Nat.ble (m * te.size) 16777216) = true) (hsq : seqO 0 ps = some vs) (hlen : Nat.beq vs.length m = true) (hm : Nat.beq m 0 = false) (hel : ElsH te vs) : AnsL P (.buildSlice T m parts) L s (.sl 0 vs) := by
  simp only [Bool.and_eq_true] at hz
  have hm' : vs.length = m := Nat.eq_of_beq_eq_true hlen
  have h0 : ¬ m = 0 := fun e => by rw [e] at hm; cases hm
  have hz1 : te.zero.length = te.size := Nat.eq_of_beq_eq_true hz.1.1
  have hz2 : 0 < te.size := by simpa using hz.1.2
  have hz3 : m * te.size ≤ 16777216 := Nat.le_of_ble_eq_true hz.2
  have hcl : ∀ v ∈ vs, v.cells.length = te.size := fun v hv => (hel v hv).1
  have hf : ∀ v ∈ vs, v.fits te.agg = true := fun v hv => (hel v hv).2
  have hfill := vfill_seq (n := m) hz1 (us := []) (by simpa using hsq) (by simpa using hcl) (by simp; omega)
  rw [List.nil_append, filled_full hm', filled_nil] at hfill
  have hsz1 : te.agg = false → te.size = 1 := fun hag => by
    cases vs with
    | nil => exact absurd hm'.symm h0
    | cons v r =>
      obtain ⟨h1, h2⟩ := hel v (by simp)
      rw [← h1]
      rw [hag] at h2
      cases v <;> simp_all [V.fits, V.cells, V.one]
  have hck := chunk_flat hz2 hcl hf
  rw [hm'] at hck
  have hb : vbuildSlice P T m ps s = some (.sl s.next vs, s.newFam m te.size) := by
    simp only [vbuildSlice, ht.get hT, hkd, ht.get hte, Option.bind_some]
    rw [if_pos ⟨hz1, hz2, hz3⟩, hfill]
    simp only [Option.bind_some]
    rw [if_neg h0, if_pos (chunkOk_flat hf hsz1), hck]
  refine ⟨fun σ hσ dst ty p a g K hk => ?_⟩
  refine .inl ?_
  unfold VOp0
  exact .inr ⟨ps, .sl 0 vs, opdP_eq hσ hp, by simp only [vbsF, hb], hk⟩
/-- A struct's fields, put in one by one. -/
inductive Fills (fs : List FieldI) : List V → List (Nat × V) → List V → Prop
  | nil {cells} : Fills fs cells [] cells
  | cons {cells cells' r vs i v rest f} : nthO fs i = some f → cellsO v = some vs → Nat.beq vs.length f.size = true → splO cells f.off vs = some cells' → Fills fs cells' rest r → Fills fs cells ((i, v) :: rest) r
theorem Fills.eq {fs : List FieldI} {cells : List V} {ps : List (Nat × V)} {r : List V} (h : Fills fs cells ps r) : vfill (placeS fs) cells ps = some r := by
  induction h with
  | nil => rfl
  | cons h1 h2 h3 h4 _ ih =>
    obtain ⟨e1, e2⟩ := splO_eq h4
    have e3 := Nat.eq_of_beq_eq_true h3
    have e4 := cellsO_eq h2
    unfold vfill
    simp only [placeS, nthO_eq h1, Option.map_some, Option.bind_some]
    rw [if_pos ⟨by rw [e4]; exact e3, by rw [← e3]; exact e2⟩, e4, ← e1]
    exact ih
end Go.Proofs.YtbnbmcplmipgdaaGreatDoor

namespace Go.Proofs.YtbnbmcplmipgdaaGreatDoor
open Go
theorem Hold.split {s : S} {H : List BE} {b n : Nat} {d d1 d2 : V} (h : Hold s b (.blk n d :: H)) (hc : cv d = cv d1 + cv d2) (ht : (thw n d).2 = (thw n d1).2 ++ (thw (n + cv d1) d2).2) (p1 : d1.plain = true) (p2 : d2.plain = true) :
    Hold s b (.blk n d1 :: .blk (n + cv d1) d2 :: H) := by
  obtain ⟨ls, h1, h2, h3⟩ := h.ex
  cases h1 with
  | cons k1 k2 =>
    obtain ⟨e1, e2, e3, e4⟩ := k1
    rename_i a0 b0
    have hv : vl n (cv d1) ++ (vl (n + cv d1) (cv d2) ++ b0) = a0 ++ b0 := by rw [← List.append_assoc, vl_append, e1, hc]
    rw [ht] at e3
    have e5 := e3.right
    rw [thw_cv] at e5
    exact ⟨vl n (cv d1) ++ (vl (n + cv d1) (cv d2) ++ b0), .cons ⟨rfl, p1, e3.left, by omega⟩ (.cons ⟨rfl, p2, e5, by omega⟩ k2), by rw [hv]; exact h2, by rw [hv]; exact h3⟩
theorem plainL_append (a b : List V) : V.plainL (a ++ b) = (V.plainL a && V.plainL b) := by
  rw [V.plainL_eq, V.plainL_eq, V.plainL_eq, List.all_append]
theorem flat_thwL_append (A B : List V) (n : Nat) : V.flat (thwL n (A ++ B)).1 = V.flat (thwL n A).1 ++ V.flat (thwL (n + cvL A) B).1 := by
  rw [thwL_append, thwL_cv, V.flat_append]
theorem flat_thwL_cons (d : V) (B : List V) (n : Nat) : V.flat (thwL n (d :: B)).1 = (thw n d).1.cells ++ V.flat (thwL (n + cv d) B).1 := by
  simp only [thwL, thw_cv, flat_cons]
section
variable {P : Program} {N : Nat} {ops : Array Oper} {l : List Oper} {K : Kn → S → Prop} {L : Kn} {s : S} {tt : BT} {d : Nat} {ty : TypeId} {p : String} {a : Array Edge} {H H1 : List BE}
/-- An element, loaded. -/
theorem AnsL.loadHE (ht : tt.ok P) {T : TypeId} {u : Ty} {x : Operand} {k off q : Nat} {cs CA ce CZ : List V} {v : V} (i f : Nat) (hh : Hold s s.next H) (hi : nthO H i = some (.cell k cs)) (hcs : cs = CA ++ (ce ++ CZ)) (hq : CA.length = q) (hx : opd L x = some (.ptr k off)) (ho : off = 0 + q + f) (hT : tt.get T = some u)
    (hr : takeO ce f u.size u.agg = some v) : AnsL P (.load T x) L (s.ext []) v := by
  subst hcs
  obtain ⟨h1, h2⟩ := hh.cell (List.mem_of_getElem? (nthO_eq hi))
  refine .of fun σ hσ _ _ _ _ _ => ?_
  have h := take_mid (CA := CA) (CZ := CZ) hr
  rw [hq, show q + f = off by omega] at h
  simp only [vop, opd_eq hσ hx, vload, ht.get hT, ext_vars_lt s [] (show k < s.next by omega), h2, h, Option.bind_some, Option.map_some]
/-- An element, written. -/
theorem LOps.storeHE (ht : tt.ok P) {T : TypeId} {u : Ty} {x y : Operand} {k off q : Nat} {cs CA ce ce' CZ vs : List V} {v : V} {H' : List BE} (i f : Nat) (hh : Hold s s.next H) (hi : nthO H i = some (.cell k cs)) (hcs : cs = CA ++ (ce ++ CZ)) (hq : CA.length = q) (hx : opd L x = some (.ptr k off)) (ho : off = 0 + q + f)
    (hy : opd L y = some v) (hT : tt.get T = some u) (hc : cellsO v = some vs) (h1 : onesO vs = true) (hn : Nat.beq vs.length u.size = true) (hsp : splO ce f vs = some ce') (hs : setO H i (.cell k (CA ++ (ce' ++ CZ))) = some H')
    (hk : ∀ s' : S, Hold s' s'.next H' → LOps P N ops l K L (s'.ext [])) : LOps P N ops (⟨none, .store T x y, ty, p, a, none⟩ :: l) K L (s.ext []) := by
  subst hcs
  obtain ⟨g1, g2⟩ := hh.cell (List.mem_of_getElem? (nthO_eq hi))
  refine .stN (v := .und) (s' := (s.setVar k (CA ++ (ce' ++ CZ))).ext []) (fun σ hσ => ?_) (hk _ (hh.set hi hs))
  obtain ⟨h2, h3⟩ := splO_eq hsp
  have h4 : vs.length = u.size := Nat.eq_of_beq_eq_true hn
  simp only [vop, opd_eq hσ hx, opd_eq hσ hy, vstore, ht.get hT, ext_vars_lt s [] (show k < s.next by omega), g2, cellsO_eq hc, Option.bind_some]
  have h5 := splice_mid (CA := CA) (CZ := CZ) h3
  rw [hq, show q + f = off by omega] at h5
  rw [if_pos ⟨h4, by simp only [List.length_append]; omega, onesO_eq h1⟩, h5, ← h2, Option.map_some, ext0_setVar (by omega)]
end
end Go.Proofs.YtbnbmcplmipgdaaGreatDoor

namespace Go.Proofs.YtbnbmcplmipgdaaGreatDoor
open Go
set_option linter.unusedSimpArgs false
set_option linter.unusedVariables false

def bL (b : List UInt8) : List V := b.map fun c => .int .u8 c.toNat
theorem bL_len (b : List UInt8) : (bL b).length = b.length := by simp [bL]
theorem bL_app (a b : List UInt8) : bL (a ++ b) = bL a ++ bL b := by simp [bL]
theorem bL_chunk : ∀ L : List UInt8, chunkV 1 false L.length (bL L) = bL L
  | [] => by simp [bL]
  | c :: L => by
    have := bL_chunk L
    simp only [bL] at this
    simp [bL, this]
theorem bL_bytes : ∀ L : List UInt8, vbytes (bL L) = some L
  | [] => rfl
  | c :: L => by
    have := bL_bytes L
    simp only [bL] at this
    simp [bL, this]
section
variable {P : Program} {N : Nat} {ops : Array Oper} {l : List Oper} {K : Kn → S → Prop} {L : Kn} {s : S} {tt : BT} {d : Nat} {ty : TypeId} {p : String} {a : Array Edge} {H H1 : List BE}
theorem LOps.toBytesH (ht : tt.ok P) {U T e : TypeId} {u t te : Ty} {x : Operand} {b : List UInt8} (hx : opd L x = some (.str b)) (hU : tt.get U = some u) (hT : tt.get T = some t) (hkd : t.kd = .slice e) (hte : tt.get e = some te) (hke : te.kd = .int .u8) (hh : Hold s s.next H)
    (hk : ∀ (s' : S) (n : Nat), Hold s' s'.next (.cell n (bL b) :: H) → LOps P N ops l K ((d, .slm .un n 0 b.length) :: L) (s'.ext [])) : LOps P N ops (⟨some d, .convert U T x, ty, p, a, none⟩ :: l) K L (s.ext []) := by
  refine .st (v := .slm .un s.next 0 b.length) (s' := (s.ext [.var (bL b)]).ext []) (fun σ hσ => ?_) (hk _ _ (hh.new (bL b)))
  have e1 : (s.ext []).next = s.next := by rw [ext_next]; rfl
  simp only [vop, opd_eq hσ hx, vconvert, vtoBytes, ht.get hU, ht.get hT, hkd, ht.get hte, hke, Option.bind_some, Option.map_some, ext_newVar, ext_ext_nil, e1]
  rfl
theorem AnsL.toStrH (ht : tt.ok P) {U T e : TypeId} {u t te : Ty} {x : Operand} {n len : Nat} {cs : List V} {b : List UInt8} (i : Nat) (hh : Hold s s.next H) (hi : nthO H i = some (.cell n cs)) (hcs : cs = bL b) (hl : len = b.length) (hx : opd L x = some (.slm .un n 0 len))
    (hU : tt.get U = some u) (hku : u.kd = .slice e) (hT : tt.get T = some t) (hkt : t.kd = .string) (hte : tt.get e = some te) (hke : te.kd = .int .u8) (hsz : Nat.beq te.size 1 = true) (hag : te.agg = false) : AnsL P (.convert U T x) L (s.ext []) (.str b) := by
  subst hcs hl
  obtain ⟨h1, h2⟩ := hh.cell (List.mem_of_getElem? (nthO_eq hi))
  refine .of fun σ hσ _ _ _ _ _ => ?_
  have h3 : te.size = 1 := Nat.eq_of_beq_eq_true hsz
  have h4 : 0 + b.length * 1 ≤ (bL b).length := by rw [bL_len]; omega
  have h5 : ((bL b).drop 0).take (b.length * 1) = bL b := by rw [List.drop_zero, List.take_of_length_le (by rw [bL_len]; omega)]
  have h6 : chunkOk 1 false (bL b) = true := by
    have : (bL b).all V.one = true := by
      rw [List.all_eq_true]
      intro x hx
      obtain ⟨c, _, rfl⟩ := List.mem_map.1 hx
      rfl
    unfold chunkOk
    rw [this]
    rfl
  simp only [vop, opd_eq hσ hx, vconvert, vtoStr, ht.get hU, ht.get hT, hku, hkt, ht.get hte, hke, h3, if_true, elemsOf, ext_vars_lt s [] (show n < s.next by omega), h2, Option.bind_some, Option.map_some, if_pos h4, h5, hag, h6, bL_chunk, bL_bytes]
end
end Go.Proofs.YtbnbmcplmipgdaaGreatDoor
