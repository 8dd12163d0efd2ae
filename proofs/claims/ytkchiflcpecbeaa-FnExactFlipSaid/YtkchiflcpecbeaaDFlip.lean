/-
  Flip, of the program and of the reference, at the value level. Own work; no condition.
-/
import Derived.Test.YtkchiflcpecbeaaDDraw2
namespace Go.Proofs.Ytkchiflcpecbeaa
open Go
set_option linter.unusedSimpArgs false
set_option maxHeartbeats 8000000

def bitOn (bits : Int) (i : Nat) : Bool := decide (band (bits.fdiv (2 ^ (min i IntKind.i64.bits))) 1 = 1)
def xorB (b : UInt8) (j : Nat) : UInt8 := UInt8.ofNat (b.toNat ^^^ (IntKind.u8.wrap (2 ^ (min j IntKind.u8.bits)) % 256).toNat)
def flipAt (b : List UInt8) (at' : Nat) (bits : Int) (i : Nat) : List UInt8 :=
  if bitOn bits i then (if at' + i < 8 * b.length then b.set ((at' + i) / 8) (xorB (b.getD ((at' + i) / 8) 0) ((at' + i) % 8)) else b) else b
def flips (b : List UInt8) (at' : Nat) (bits : Int) : Nat → List UInt8
  | 0 => b
  | k + 1 => flipAt (flips b at' bits k) at' bits k
theorem flipAt_length (b : List UInt8) (at' : Nat) (bits : Int) (i : Nat) : (flipAt b at' bits i).length = b.length := by
  unfold flipAt; split <;> (try split) <;> simp
theorem flips_length (b : List UInt8) (at' : Nat) (bits : Int) : ∀ k, (flips b at' bits k).length = b.length
  | 0 => rfl
  | k + 1 => by rw [flips, flipAt_length, flips_length b at' bits k]
def flip (b : List UInt8) (at' : Int) (bits : Int) : List UInt8 := if at' < 0 then b else flips b at'.toNat bits 32

theorem vbits_xor8 (x y : Int) : vbits .xor .u8 x y = some (.int .u8 (IntKind.u8.wrap (BitVec.ofInt 8 x ^^^ BitVec.ofInt 8 y).toNat)) := rfl
theorem xorB_val (b : UInt8) (j : Nat) : IntKind.u8.wrap ((b.toNat ^^^ (IntKind.u8.wrap (2 ^ (min j IntKind.u8.bits)) % 256).toNat : Nat) : Int) = ((xorB b j).toNat : Int) := by
  unfold xorB
  have hx : b.toNat ^^^ (IntKind.u8.wrap (2 ^ (min j IntKind.u8.bits)) % 256).toNat < 2 ^ 8 := Nat.xor_lt_two_pow (by have := b.toNat_lt; omega) (by omega)
  generalize b.toNat ^^^ (IntKind.u8.wrap (2 ^ (min j IntKind.u8.bits)) % 256).toNat = n at *
  have hw : IntKind.u8.wrap (n : Int) = n := by simp [IntKind.wrap, IntKind.bits, IntKind.signed]; omega
  rw [hw]
  simp
  omega
theorem splice_set {cs : List V} {m : Nat} {v : V} (h : m < cs.length) : splice cs m [v] = cs.set m v := by
  unfold splice
  rw [List.set_eq_take_append_cons_drop, if_pos h]
  simp
theorem chunk1 : ∀ L : List UInt8, chunkV 1 false L.length (L.map fun c => V.int .u8 c.toNat) = L.map fun c => V.int .u8 c.toNat
  | [] => by simp
  | c :: L => by simp [chunk1 L]
theorem vbytes1 : ∀ L : List UInt8, vbytes (L.map fun c => V.int .u8 c.toNat) = some L
  | [] => rfl
  | c :: L => by simp [vbytes1 L]
def byteL (b : List UInt8) : List V := b.map fun c => .int .u8 c.toNat

theorem specFlip_v (b : List UInt8) (p bits : Int) (hb : b.length ≤ 1048576) (s : S) : VCalls Try.prog 13 [.str b, .int .i64 p, .int .i64 bits] s (fun v s' => v = .str (flip b p bits) ∧ s' = s) := by
  refine VCalls.pureE Try.func13 rfl (by simp [Try.ntmps13]) (by simp) ?_
  rw [Try.ntmps13, Try.results13]
  by_cases hp : p < 0
  · have : flip b p bits = b := by simp [flip, hp]
    repeat' first
      | (refine hK _ _ ?_; clear hK K)
      | (refine VWp.seqK fun K hK => ?_)
      | (refine VWp.region ?_; simp [hp])
      | (refine VWp.ret ?_)
      | (refine VWp.block ?_)
      | (refine VWp.skip ?_; simp only [vthen, vinBlock])
      | (refine VWp.exit ?_; simp only [vthen, vinBlock, if_true])
      | (apply VWp.condT; focus (simp [hp]; done))
      | (apply VWp.condF; focus (simp [hp]; done))
    simp [this]
    exact ⟨_, rfl⟩
  obtain ⟨a, rfl⟩ := Int.eq_ofNat_of_zero_le (Int.not_lt.1 hp)
  refine VWp.seqK fun K hK => VWp.region ?_; simp; refine hK _ _ ?_; clear hK K
  refine VWp.seqK fun K hK => ?_
  refine VWp.seqK fun K2 hK2 => VWp.region ?_; simp; refine hK2 _ _ ?_; clear hK2 K2
  apply VWp.condF; focus (simp; done)
  refine VWp.skip ?_; simp only [vthen]; refine hK _ _ ?_; clear hK K
  refine VWp.seqK fun K hK => VWp.region ?_; simp; refine hK _ _ ?_; clear hK K
  refine VWp.seqK fun K hK => ?_
  refine VWp.seqK fun K2 hK2 => VWp.region ?_; simp; refine hK2 _ _ ?_; clear hK2 K2
  refine VWp.block (VWp.loop (fun n σ t => ∃ k : Nat, n = 32 - k ∧ k ≤ 32 ∧ σ 1 = .int .i64 a ∧ σ 2 = .int .i64 bits ∧ σ 7 = .slm false s.next 0 b.length ∧ σ 8 = .int .i64 k ∧ t = s.ext [.var (byteL (flips b a bits k))]) 32 ⟨0, by simp, by simp, by simp, by simp, by simp, by simp, by simp [byteL, flips]⟩ ?_)
  rintro n σ t ⟨k, rfl, hk, h1, h2, h7, h8, rfl⟩
  refine VWp.seqK fun K1 hK1 => ?_
  refine VWp.seqK fun K2 hK2 => VWp.region ?_; simp [h1, h2, h7, h8]; refine hK2 _ _ ?_; clear hK2 K2
  refine VWp.cond (b := decide ((k : Int) < 32)) (by simp) (fun hlt => ?_) (fun hge => ?_)
  · have hlt : k < 32 := by have := of_decide_eq_true hlt; omega
    refine VWp.skip ?_; simp only [vthen]; refine hK1 _ _ ?_; clear hK1 K1
    have c1 : IntKind.u64.wrap (k : Int) = k := by rw [IntKind.wrap_u64]; omega
    have w1 : IntKind.i64.wrap (8 * (b.length : Int)) = 8 * b.length := by rw [IntKind.wrap_i64]; omega
    have w2 : IntKind.i64.wrap (8 * (b.length : Int) - k) = 8 * b.length - k := by rw [IntKind.wrap_i64]; omega
    have w4 : IntKind.i64.wrap ((k : Int) + 1) = (k : Int) + 1 := wrap_succ (by omega)
    refine VWp.seqK fun K1 hK1 => VWp.block ?_
    cases hb1 : bitOn bits k
    case false =>
      have hb2 : decide (band (bits.fdiv (2 ^ (min k IntKind.i64.bits))) 1 = 1) = false := hb1
      repeat' first
        | (refine hK _ _ ?_; clear hK K)
        | (refine VWp.seqK fun K hK => ?_)
        | (refine VWp.region ?_; simp [h1, h2, h7, h8, c1, w1, w2, w4, vbits_and, hb2])
        | (refine VWp.ret ?_)
        | (refine VWp.block ?_)
        | (refine VWp.skip ?_; simp only [vthen, vinBlock])
        | (refine VWp.exit ?_; simp only [vthen, vinBlock, if_true])
        | (apply VWp.condT; focus (simp [h1, h2, h7, h8, c1, w1, w2, w4, vbits_and, hb2]; done))
        | (apply VWp.condF; focus (simp [h1, h2, h7, h8, c1, w1, w2, w4, vbits_and, hb2]; done))
      refine hK1 _ _ ?_; clear hK1 K1
      refine VWp.region ?_; simp [h1, h2, h7, h8, w4]
      exact ⟨32 - (k + 1), by omega, k + 1, by omega, by omega, by simp, by rw [flips, flipAt, hb1, if_neg (by simp)]⟩
    case true =>
      have hb2 : decide (band (bits.fdiv (2 ^ (min k IntKind.i64.bits))) 1 = 1) = true := hb1
      have hL : (flips b a bits k).length = b.length := flips_length b a bits k
      cases c5 : decide ((a : Int) < 8 * b.length - k)
      case false =>
        have c6 : ¬ a + k < 8 * (flips b a bits k).length := by simp at c5; omega
        repeat' first
          | (refine hK _ _ ?_; clear hK K)
          | (refine VWp.seqK fun K hK => ?_)
          | (refine VWp.region ?_; simp [h1, h2, h7, h8, c1, w1, w2, w4, vbits_and, hb2, c5])
          | (refine VWp.ret ?_)
          | (refine VWp.block ?_)
          | (refine VWp.skip ?_; simp only [vthen, vinBlock])
          | (refine VWp.exit ?_; simp only [vthen, vinBlock, if_true])
          | (apply VWp.condT; focus (simp [h1, h2, h7, h8, c1, w1, w2, w4, vbits_and, hb2, c5]; done))
          | (apply VWp.condF; focus (simp [h1, h2, h7, h8, c1, w1, w2, w4, vbits_and, hb2, c5]; done))
        refine hK1 _ _ ?_; clear hK1 K1
        refine VWp.region ?_; simp [h1, h2, h7, h8, w4]
        exact ⟨32 - (k + 1), by omega, k + 1, by omega, by omega, by simp, by rw [flips, flipAt, hb1, if_pos rfl, if_neg c6]⟩
      case true =>
        have c6 : a + k < 8 * (flips b a bits k).length := by simp at c5; omega
        have w3 : IntKind.i64.wrap ((a : Int) + k) = ((a + k : Nat) : Int) := by rw [IntKind.wrap_i64]; omega
        generalize hm : a + k = m at *
        have q : IntKind.i64.wrap ((m : Int) / 8) = (m : Int) / 8 := by rw [IntKind.wrap_i64]; omega
        have q3 : ((m : Int) / 8).toNat = m / 8 := by omega
        have q4 : (m : Int) / 8 < b.length := by omega
        have q5 : 0 ≤ (m : Int) / 8 := by omega
        have r : IntKind.u64.wrap ((m : Int) % 8) = (m : Int) % 8 := by rw [IntKind.wrap_u64]; omega
        have r0 : (m : Int).tmod 8 = (m : Int) % 8 := Int.tmod_eq_emod_of_nonneg (by omega)
        have q6 : m / 8 + 1 ≤ b.length := by omega
        have r3 : ((m : Int) % 8).toNat = m % 8 := by omega
        have r5 : 0 ≤ (m : Int) % 8 := by omega
        have hm8 : m / 8 < b.length := by omega
        have hget : (byteL (flips b a bits k))[m / 8]? = some (.int .u8 ((flips b a bits k).getD (m / 8) 0).toNat) := by
          simp [byteL, List.getElem?_map, List.getD_eq_getElem?_getD, hL, hm8]
        have hget2 : ∀ h, (byteL (flips b a bits k))[m / 8]'h = .int .u8 ((flips b a bits k).getD (m / 8) 0).toNat := fun h => Option.some.inj ((List.getElem?_eq_getElem h).symm.trans hget)
        have hlenL : (byteL (flips b a bits k)).length = b.length := by simp [byteL, hL]
        repeat' first
          | (refine hK _ _ ?_; clear hK K)
          | (refine VWp.seqK fun K hK => ?_)
          | (refine VWp.region ?_; simp [h1, h2, h7, h8, c1, w1, w2, w3, w4, q, q3, q4, q5, q6, r0, r, r3, r5, vbits_and, vbits_xor8, xorB_val, hb2, c5, hget, hget2, hlenL, hm8])
          | (refine VWp.ret ?_)
          | (refine VWp.block ?_)
          | (refine VWp.skip ?_; simp only [vthen, vinBlock])
          | (refine VWp.exit ?_; simp only [vthen, vinBlock, if_true])
          | (apply VWp.condT; focus (simp [h1, h2, h7, h8, c1, w1, w2, w3, w4, q, q3, q4, q5, q6, r0, r, r3, r5, vbits_and, vbits_xor8, xorB_val, hb2, c5, hget, hget2, hlenL, hm8]; done))
          | (apply VWp.condF; focus (simp [h1, h2, h7, h8, c1, w1, w2, w3, w4, q, q3, q4, q5, q6, r0, r, r3, r5, vbits_and, vbits_xor8, xorB_val, hb2, c5, hget, hget2, hlenL, hm8]; done))
        refine hK1 _ _ ?_; clear hK1 K1
        have hsp : splice (byteL (flips b a bits k)) (m / 8) [.int .u8 (xorB ((flips b a bits k)[m / 8]?.getD 0) (m % 8)).toNat] = byteL (flips b a bits (k + 1)) := by
          rw [splice_set (by omega), flips, flipAt, hb1, if_pos rfl, hm, if_pos c6]
          simp [byteL, List.map_set]
        refine VWp.region ?_; simp [h1, h2, h7, h8, w4, xorB_val, hsp]
        exact ⟨32 - (k + 1), by omega, k + 1, by omega, by omega, by simp, rfl⟩
  · have hk32 : k = 32 := by have := of_decide_eq_false hge; omega
    subst hk32
    have hL : (flips b a bits 32).length = b.length := flips_length b a bits 32
    have hf : flip b a bits = flips b a bits 32 := by unfold flip; rw [if_neg hp]; simp
    generalize flips b a bits 32 = L at *
    have htake : List.take b.length (L.map fun c => V.int .u8 c.toNat) = L.map fun c => V.int .u8 c.toNat := List.take_of_length_le (by simp [hL])
    have hch := chunk1 L
    rw [hL] at hch
    have hvb := vbytes1 L
    refine VWp.exit ?_; simp only [vthen, vinBlock, if_true]; refine hK _ _ ?_; clear hK K hK1 K1
    refine VWp.seqK fun K hK => VWp.region ?_; simp [h7, hL, byteL, htake, hch, hvb, -chunkV, -vbytes]; refine hK _ _ ?_; clear hK K
    refine VWp.ret ?_
    simp [hf]
    exact ⟨_, rfl⟩

end Go.Proofs.Ytkchiflcpecbeaa
