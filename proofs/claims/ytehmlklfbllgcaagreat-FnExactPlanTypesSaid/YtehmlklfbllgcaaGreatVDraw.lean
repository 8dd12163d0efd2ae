/-
  Draws from a string of bytes, over the books: a cursor is a cell of the books; what is drawn has some property, the cursor has moved. Own work; no condition.
-/
import Derived.Test.YtehmlklfbllgcaaGreatVFill
import Derived.Test.YtehmlklfbllgcaaGreatVNil
namespace Go.Proofs.YtehmlklfbllgcaaGreat
open Go
theorem Sel.refl : ∀ (H : List BE), Sel H H
  | [] => .nil
  | _ :: H => .cons 0 rfl rfl (Sel.refl H)
theorem Sel.drop {e : BE} : ∀ {H H' : List BE}, Sel H H' → Sel (e :: H) H'
  | _, _, .nil => .nil
  | _, _, .cons (H := H) (H1 := H1) i h1 h2 h3 => .cons (H1 := e :: H1) (i + 1) h1 (by simp only [eraO, h2]) (Sel.drop h3)
theorem Hold.front {s : S} {b i : Nat} {e : BE} {H H1 : List BE} (h : Hold s b H) (hi : nthO H i = some e) (he : eraO H i = some H1) : Hold s b (e :: H1) := h.sel (.cons i hi he (Sel.refl _))
def band (a b : Int) : Int := IntKind.i64.wrap (BitVec.ofInt 64 a &&& BitVec.ofInt 64 b).toNat
theorem band_mask (a : Int) (m : Nat) (hm : m < 9223372036854775808) : 0 ≤ band a m ∧ band a m ≤ m := by
  unfold band
  have h : (BitVec.ofInt 64 a &&& BitVec.ofInt 64 (m : Int)).toNat ≤ m := by
    rw [BitVec.toNat_and, BitVec.ofInt_natCast, BitVec.toNat_ofNat, Nat.mod_eq_of_lt (by omega : m < 2 ^ 64)]
    exact Nat.and_le_right
  rw [IntKind.wrap_i64]
  omega
theorem band_255 (a : Int) : 0 ≤ band a 255 ∧ band a 255 ≤ 255 := band_mask a 255 (by omega)
def ileO (a b : Int) : Bool := decide (a ≤ b)
def byteV (b : UInt8) : V := .int .u8 b.toNat
def curC (b : V) (i h : Int) : List V := [b, .int .i64 i, .int .i64 h]
/-- A slice of bytes. -/
def Bytes (b : V) : Prop := b = .nilsl ∨ ∃ bs : List UInt8, b = .sl 0 (bs.map byteV) ∧ bs.length ≤ maxLen
theorem Drw.fin {s : S} {b : V} {α : Type} {f : α → V} {p : α → Prop} {v : V} {l : Nat} {i' h' : Int} {H H' : List BE} (x : α) (hp : p x) (hv : v = f x) (hi : 0 ≤ i') (hh : Hold s s.next H') (hs : Sel H' (.cell l (curC b i' h') :: H)) :
    ∃ (x : α) (s' : S) (i' h' : Int), p x ∧ v = f x ∧ 0 ≤ i' ∧ s.ext [] = s'.ext [] ∧ Hold s' s'.next (.cell l (curC b i' h') :: H) := ⟨x, s, i', h', hp, hv, hi, rfl, hh.sel hs⟩
theorem DrwAll.fin {s : S} {α : Type} {f : α → V} {p : α → Prop} {v : V} {H H' : List BE} (x : α) (hp : p x) (hv : v = f x) (hh : Hold s s.next H') (hs : Sel H' H) :
    ∃ (x : α) (s' : S), p x ∧ v = f x ∧ s.ext [] = s'.ext [] ∧ Hold s' s'.next H := ⟨x, s, hp, hv, rfl, hh.sel hs⟩
theorem AnsL.shr {P : Program} {L : Kn} {s : S} {T U : TypeId} {x y : Operand} {k k' : IntKind} {m n : Int} (hx : opd L x = some (.int k m)) (hy : opd L y = some (.int k' n)) (h : ileO 0 n = true) : AnsL P (.binOp .shr T x y U) L s (.int k (m.fdiv (2 ^ (min n.toNat k.bits)))) :=
  .of fun σ hσ _ _ _ _ _ => by
    have h' : 0 ≤ n := by simpa [ileO] using h
    simp only [vop, opd_eq hσ hx, opd_eq hσ hy, vbin, h', Option.bind_some, if_true, Option.map_some]
theorem AnsL.rem {P : Program} {L : Kn} {s : S} {T U : TypeId} {x y : Operand} {k : IntKind} {m n : Int} (hx : opd L x = some (.int k m)) (hy : opd L y = some (.int k n)) (h : 0 < n) : AnsL P (.binOp .rem T x y U) L s (.int k (m.tmod n)) :=
  .of fun σ hσ _ _ _ _ _ => by
    have h' : ¬ n = 0 := by omega
    simp only [vop, opd_eq hσ hx, opd_eq hσ hy, vbin, vint, h', Option.bind_some, if_true, if_false, Option.map_some]
section
variable {P : Program} {N : Nat} {ops : Array Oper} {l : List Oper} {K : Kn → S → Prop} {L : Kn} {s : S} {d : Nat} {ty : TypeId} {p : String} {a : Array Edge} {H H1 : List BE}
end
end Go.Proofs.YtehmlklfbllgcaaGreat
