/-
  Draws from a string of bytes, over the books: a cursor is a cell of the books; what is drawn has some property, the cursor has moved. Own work; no condition.
-/
import Derived.Test.YtkkifdgnebbghaaVFill
import Derived.Test.YtkkifdgnebbghaaVNil
namespace Go.Proofs.Ytkkifdgnebbghaa
open Go

theorem Sel.refl : ∀ (H : List BE), Sel H H
  | [] => .nil
  | _ :: H => .cons 0 rfl rfl (Sel.refl H)
theorem Sel.drop {e : BE} : ∀ {H H' : List BE}, Sel H H' → Sel (e :: H) H'
  | _, _, .nil => .nil
  | _, _, .cons (H := H) (H1 := H1) i h1 h2 h3 => .cons (H1 := e :: H1) (i + 1) h1 (by simp only [eraO, h2]) (Sel.drop h3)
theorem Hold.front {s : S} {b i : Nat} {e : BE} {H H1 : List BE} (h : Hold s b H) (hi : nthO H i = some e) (he : eraO H i = some H1) : Hold s b (e :: H1) := h.sel (.cons i hi he (Sel.refl _))

def band (a b : Int) : Int := IntKind.i64.wrap (BitVec.ofInt 64 a &&& BitVec.ofInt 64 b).toNat
theorem band_mask (a : Int) (m : Nat) (hm : m < 9223372036854775808) : 0 ≤ band a m ∧ band a m ≤ m := by
  unfold band
  have h : (BitVec.ofInt 64 a &&& BitVec.ofInt 64 (m : Int)).toNat ≤ m := by
    rw [BitVec.toNat_and, BitVec.ofInt_natCast, BitVec.toNat_ofNat, Nat.mod_eq_of_lt (by omega : m < 2 ^ 64)]
    exact Nat.and_le_right
  rw [IntKind.wrap_i64]
  omega
theorem band_255 (a : Int) : 0 ≤ band a 255 ∧ band a 255 ≤ 255 := band_mask a 255 (by omega)
def ileO (a b : Int) : Bool := decide (a ≤ b)
def byteV (b : UInt8) : V := .int .u8 b.toNat
def curC (b : V) (i h : Int) : List V := [b, .int .i64 i, .int .i64 h]
/-- A slice of bytes. -/
def Bytes (b : V) : Prop := b = .nilsl ∨ ∃ bs : List UInt8, b = .sl 0 (bs.map byteV) ∧ bs.length ≤ maxLen

/-- A function that draws: ahead of all else it takes the cursor. -/
def Drw (P : Program) (g : FuncId) (b : V) (args : List V) {α : Type} (f : α → V) (p : α → Prop) : Prop :=
  ∀ (s : S) (H : List BE) (l : Nat) (i h : Int), 0 ≤ i → Hold s s.next (.cell l (curC b i h) :: H) →
    VCalls P g (.ptr l 0 :: args) (s.ext []) (fun v t => ∃ (x : α) (s' : S) (i' h' : Int), p x ∧ v = f x ∧ 0 ≤ i' ∧ t = s'.ext [] ∧ Hold s' s'.next (.cell l (curC b i' h') :: H))
theorem Drw.fin {s : S} {b : V} {α : Type} {f : α → V} {p : α → Prop} {v : V} {l : Nat} {i' h' : Int} {H H' : List BE} (x : α) (hp : p x) (hv : v = f x) (hi : 0 ≤ i') (hh : Hold s s.next H') (hs : Sel H' (.cell l (curC b i' h') :: H)) :
    ∃ (x : α) (s' : S) (i' h' : Int), p x ∧ v = f x ∧ 0 ≤ i' ∧ s.ext [] = s'.ext [] ∧ Hold s' s'.next (.cell l (curC b i' h') :: H) := ⟨x, s, i', h', hp, hv, hi, rfl, hh.sel hs⟩
/-- A function that makes the cursor. -/
def DrwNew (P : Program) (g : FuncId) (b : V) : Prop :=
  ∀ (s : S) (H : List BE), Hold s s.next H → VCalls P g [b] (s.ext []) (fun v t => ∃ (l : Nat) (s' : S) (h' : Int), v = .ptr l 0 ∧ t = s'.ext [] ∧ Hold s' s'.next (.cell l (curC b 0 h') :: H))
/-- A function that draws from bytes. -/
def DrwAll (P : Program) (g : FuncId) (b : V) {α : Type} (f : α → V) (p : α → Prop) : Prop := ∀ (s : S) (H : List BE), Hold s s.next H → VCalls P g [b] (s.ext []) (fun v t => ∃ (x : α) (s' : S), p x ∧ v = f x ∧ t = s'.ext [] ∧ Hold s' s'.next H)
theorem DrwAll.fin {s : S} {α : Type} {f : α → V} {p : α → Prop} {v : V} {H H' : List BE} (x : α) (hp : p x) (hv : v = f x) (hh : Hold s s.next H') (hs : Sel H' H) :
    ∃ (x : α) (s' : S), p x ∧ v = f x ∧ s.ext [] = s'.ext [] ∧ Hold s' s'.next H := ⟨x, s, hp, hv, rfl, hh.sel hs⟩
theorem AnsL.shr {P : Program} {L : Kn} {s : S} {T U : TypeId} {x y : Operand} {k k' : IntKind} {m n : Int} (hx : opd L x = some (.int k m)) (hy : opd L y = some (.int k' n)) (h : ileO 0 n = true) : AnsL P (.binOp .shr T x y U) L s (.int k (m.fdiv (2 ^ (min n.toNat k.bits)))) :=
  .of fun σ hσ _ _ _ _ _ => by
    have h' : 0 ≤ n := by simpa [ileO] using h
    simp only [vop, opd_eq hσ hx, opd_eq hσ hy, vbin, h', Option.bind_some, if_true, Option.map_some]
theorem AnsL.rem {P : Program} {L : Kn} {s : S} {T U : TypeId} {x y : Operand} {k : IntKind} {m n : Int} (hx : opd L x = some (.int k m)) (hy : opd L y = some (.int k n)) (h : 0 < n) : AnsL P (.binOp .rem T x y U) L s (.int k (m.tmod n)) :=
  .of fun σ hσ _ _ _ _ _ => by
    have h' : ¬ n = 0 := by omega
    simp only [vop, opd_eq hσ hx, opd_eq hσ hy, vbin, vint, h', Option.bind_some, if_true, if_false, Option.map_some]
section
variable {P : Program} {N : Nat} {ops : Array Oper} {l : List Oper} {K : Kn → S → Prop} {L : Kn} {s : S} {d : Nat} {ty : TypeId} {p : String} {a : Array Edge} {H H1 : List BE}
theorem LOps.drawH {f : Operand} {g : FuncId} {args : Array Operand} {B : Array TypeId} {vs : List V} {m : Nat} {b : V} {i h : Int} {α : Type} {F : α → V} {q : α → Prop} (j : Nat) (hf : opd L f = some (.fn g [])) (ha : opdL L args.toList = some (.ptr m 0 :: vs)) (hok : CallOk P g)
    (hh : Hold s s.next H) (hi : nthO H j = some (.cell m (curC b i h))) (he : eraO H j = some H1) (h0 : 0 ≤ i) (hc : Drw P g b vs F q)
    (hk : ∀ (s' : S) (x : α) (i' h' : Int), q x → 0 ≤ i' → Hold s' s'.next (.cell m (curC b i' h') :: H1) → LOps P N ops l K ((d, F x) :: L) (s'.ext [])) :
    LOps P N ops (⟨some d, .call ⟨.value f, args, B⟩, ty, p, a, none⟩ :: l) K L (s.ext []) := by
  refine .call hf ha (appO_nil _) hok (hc s H1 m i h h0 (hh.front hi he)) fun v s' hv => ?_
  obtain ⟨x, t, i', h', h1, rfl, h2, rfl, h3⟩ := hv
  exact hk t x i' h' h1 h2 h3
theorem LOps.drawNew {f : Operand} {g : FuncId} {args : Array Operand} {B : Array TypeId} {b : V} (hf : opd L f = some (.fn g [])) (ha : opdL L args.toList = some [b]) (hok : CallOk P g)
    (hh : Hold s s.next H) (hc : DrwNew P g b) (hk : ∀ (s' : S) (m : Nat) (h' : Int), Hold s' s'.next (.cell m (curC b 0 h') :: H) → LOps P N ops l K ((d, .ptr m 0) :: L) (s'.ext [])) :
    LOps P N ops (⟨some d, .call ⟨.value f, args, B⟩, ty, p, a, none⟩ :: l) K L (s.ext []) := by
  refine .call hf ha (appO_nil _) hok (hc s H hh) fun v s' hv => ?_
  obtain ⟨m, t, h', rfl, rfl, h3⟩ := hv
  exact hk t m h' h3
theorem LOps.drawAll {f : Operand} {g : FuncId} {args : Array Operand} {B : Array TypeId} {b : V} {α : Type} {F : α → V} {q : α → Prop} (hf : opd L f = some (.fn g [])) (ha : opdL L args.toList = some [b]) (hok : CallOk P g)
    (hh : Hold s s.next H) (hc : DrwAll P g b F q) (hk : ∀ (s' : S) (x : α), q x → Hold s' s'.next H → LOps P N ops l K ((d, F x) :: L) (s'.ext [])) :
    LOps P N ops (⟨some d, .call ⟨.value f, args, B⟩, ty, p, a, none⟩ :: l) K L (s.ext []) := by
  refine .call hf ha (appO_nil _) hok (hc s H hh) fun v s' hv => ?_
  obtain ⟨x, t, h1, rfl, rfl, h3⟩ := hv
  exact hk t x h1 h3
end

end Go.Proofs.Ytkkifdgnebbghaa
