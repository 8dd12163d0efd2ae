/-
  A text's bytes in a variable, and back. Own work; no condition.
-/
import Derived.Test.YtpnabgllpgodmaaDoorVTurn
namespace Go.Proofs.YtpnabgllpgodmaaDoor
open Go
set_option linter.unusedSimpArgs false
set_option linter.unusedVariables false

def bL (b : List UInt8) : List V := b.map fun c => .int .u8 c.toNat
theorem bL_len (b : List UInt8) : (bL b).length = b.length := by simp [bL]
theorem bL_app (a b : List UInt8) : bL (a ++ b) = bL a ++ bL b := by simp [bL]
theorem bL_chunk : ∀ L : List UInt8, chunkV 1 false L.length (bL L) = bL L
  | [] => by simp [bL]
  | c :: L => by
    have := bL_chunk L
    simp only [bL] at this
    simp [bL, this]
theorem bL_bytes : ∀ L : List UInt8, vbytes (bL L) = some L
  | [] => rfl
  | c :: L => by
    have := bL_bytes L
    simp only [bL] at this
    simp [bL, this]
section
variable {P : Program} {N : Nat} {ops : Array Oper} {l : List Oper} {K : Kn → S → Prop} {L : Kn} {s : S} {tt : BT} {d : Nat} {ty : TypeId} {p : String} {a : Array Edge} {H H1 : List BE}
theorem LOps.toBytesH (ht : tt.ok P) {U T e : TypeId} {u t te : Ty} {x : Operand} {b : List UInt8} (hx : opd L x = some (.str b)) (hU : tt.get U = some u) (hT : tt.get T = some t) (hkd : t.kd = .slice e) (hte : tt.get e = some te) (hke : te.kd = .int .u8) (hh : Hold s s.next H)
    (hk : ∀ (s' : S) (n : Nat), Hold s' s'.next (.cell n (bL b) :: H) → LOps P N ops l K ((d, .slm .un n 0 b.length) :: L) (s'.ext [])) : LOps P N ops (⟨some d, .convert U T x, ty, p, a, none⟩ :: l) K L (s.ext []) := by
  refine .st (v := .slm .un s.next 0 b.length) (s' := (s.ext [.var (bL b)]).ext []) (fun σ hσ => ?_) (hk _ _ (hh.new (bL b)))
  have e1 : (s.ext []).next = s.next := by rw [ext_next]; rfl
  simp only [vop, opd_eq hσ hx, vconvert, vtoBytes, ht.get hU, ht.get hT, hkd, ht.get hte, hke, Option.bind_some, Option.map_some, ext_newVar, ext_ext_nil, e1]
  rfl
theorem AnsL.toStrH (ht : tt.ok P) {U T e : TypeId} {u t te : Ty} {x : Operand} {n len : Nat} {cs : List V} {b : List UInt8} (i : Nat) (hh : Hold s s.next H) (hi : nthO H i = some (.cell n cs)) (hcs : cs = bL b) (hl : len = b.length) (hx : opd L x = some (.slm .un n 0 len))
    (hU : tt.get U = some u) (hku : u.kd = .slice e) (hT : tt.get T = some t) (hkt : t.kd = .string) (hte : tt.get e = some te) (hke : te.kd = .int .u8) (hsz : Nat.beq te.size 1 = true) (hag : te.agg = false) : AnsL P (.convert U T x) L (s.ext []) (.str b) := by
  subst hcs hl
  obtain ⟨h1, h2⟩ := hh.cell (List.mem_of_getElem? (nthO_eq hi))
  refine .of fun σ hσ _ _ _ _ _ => ?_
  have h3 : te.size = 1 := Nat.eq_of_beq_eq_true hsz
  have h4 : 0 + b.length * 1 ≤ (bL b).length := by rw [bL_len]; omega
  have h5 : ((bL b).drop 0).take (b.length * 1) = bL b := by rw [List.drop_zero, List.take_of_length_le (by rw [bL_len]; omega)]
  have h6 : chunkOk 1 false (bL b) = true := by
    have : (bL b).all V.one = true := by
      rw [List.all_eq_true]
      intro x hx
      obtain ⟨c, _, rfl⟩ := List.mem_map.1 hx
      rfl
    unfold chunkOk
    rw [this]
    rfl
  simp only [vop, opd_eq hσ hx, vconvert, vtoStr, ht.get hU, ht.get hT, hku, hkt, ht.get hte, hke, h3, if_true, elemsOf, ext_vars_lt s [] (show n < s.next by omega), h2, Option.bind_some, Option.map_some, if_pos h4, h5, hag, h6, bL_chunk, bL_bytes]
end
end Go.Proofs.YtpnabgllpgodmaaDoor
