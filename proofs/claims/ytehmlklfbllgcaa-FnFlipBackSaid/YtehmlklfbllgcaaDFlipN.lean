/-
  Flip of the reference and of the program, what is drawn for it, and the law that flipping twice restores the bytes. Own work; no condition.
-/
import Derived.Test.YtehmlklfbllgcaaDBig
import Derived.Test.YtehmlklfbllgcaaVFac
import Derived.KernelRfl
namespace Go.Proofs.Ytehmlklfbllgcaa
open Go
set_option linter.unusedSimpArgs false
set_option linter.unusedVariables false
set_option maxHeartbeats 8000000

theorem vbits_and (a b : Int) : vbits .and .i64 a b = some (.int .i64 (band a b)) := rfl
def bitOn (bits : Int) (i : Nat) : Bool := decide (band (bits.fdiv (2 ^ (min i IntKind.i64.bits))) 1 = 1)
def xorB (b : UInt8) (j : Nat) : UInt8 := UInt8.ofNat (b.toNat ^^^ (IntKind.u8.wrap (2 ^ (min j IntKind.u8.bits)) % 256).toNat)
def flipAt (b : List UInt8) (at' : Nat) (bits : Int) (i : Nat) : List UInt8 :=
  if bitOn bits i then (if at' + i < 8 * b.length then b.set ((at' + i) / 8) (xorB (b.getD ((at' + i) / 8) 0) ((at' + i) % 8)) else b) else b
def flips (b : List UInt8) (at' : Nat) (bits : Int) : Nat → List UInt8
  | 0 => b
  | k + 1 => flipAt (flips b at' bits k) at' bits k
theorem flipAt_length (b : List UInt8) (at' : Nat) (bits : Int) (i : Nat) : (flipAt b at' bits i).length = b.length := by
  unfold flipAt; split <;> (try split) <;> simp
theorem flips_length (b : List UInt8) (at' : Nat) (bits : Int) : ∀ k, (flips b at' bits k).length = b.length
  | 0 => rfl
  | k + 1 => by rw [flips, flipAt_length, flips_length b at' bits k]
def flip (b : List UInt8) (at' : Int) (bits : Int) : List UInt8 := if at' < 0 then b else flips b at'.toNat bits 32

theorem vbits_xor8 (x y : Int) : vbits .xor .u8 x y = some (.int .u8 (IntKind.u8.wrap (BitVec.ofInt 8 x ^^^ BitVec.ofInt 8 y).toNat)) := rfl
theorem xorB_val (b : UInt8) (j : Nat) : IntKind.u8.wrap ((b.toNat ^^^ (IntKind.u8.wrap (2 ^ (min j IntKind.u8.bits)) % 256).toNat : Nat) : Int) = ((xorB b j).toNat : Int) := by
  unfold xorB
  have hx : b.toNat ^^^ (IntKind.u8.wrap (2 ^ (min j IntKind.u8.bits)) % 256).toNat < 2 ^ 8 := Nat.xor_lt_two_pow (by have := b.toNat_lt; omega) (by omega)
  generalize b.toNat ^^^ (IntKind.u8.wrap (2 ^ (min j IntKind.u8.bits)) % 256).toNat = n at *
  have hw : IntKind.u8.wrap (n : Int) = n := by simp [IntKind.wrap, IntKind.bits, IntKind.signed]; omega
  rw [hw]
  simp
  omega
theorem splice_set {cs : List V} {m : Nat} {v : V} (h : m < cs.length) : splice cs m [v] = cs.set m v := by
  unfold splice
  rw [List.set_eq_take_append_cons_drop, if_pos h]
  simp
theorem chunk1 : ∀ L : List UInt8, chunkV 1 false L.length (L.map fun c => V.int .u8 c.toNat) = L.map fun c => V.int .u8 c.toNat
  | [] => by simp
  | c :: L => by simp [chunk1 L]
theorem vbytes1 : ∀ L : List UInt8, vbytes (L.map fun c => V.int .u8 c.toNat) = some L
  | [] => rfl
  | c :: L => by simp [vbytes1 L]
def byteL (b : List UInt8) : List V := b.map fun c => .int .u8 c.toNat

theorem specFlip_v (b : List UInt8) (p bits : Int) (hb : b.length ≤ 1048576) (s : S) : VCalls Try.prog 14 [.str b, .int .i64 p, .int .i64 bits] s (fun v s' => v = .str (flip b p bits) ∧ s' = s) := by
  refine VCalls.pureE Try.func14 rfl (by simp [Try.ntmps14]) (by simp) ?_
  rw [Try.ntmps14, Try.results14]
  by_cases hp : p < 0
  · have : flip b p bits = b := by simp [flip, hp]
    repeat' first
      | (refine hK _ _ ?_; clear hK K)
      | (refine VWp.seqK fun K hK => ?_)
      | (refine VWp.region ?_; simp [hp])
      | (refine VWp.ret ?_)
      | (refine VWp.block ?_)
      | (refine VWp.skip ?_; simp only [vthen, vinBlock])
      | (refine VWp.exit ?_; simp only [vthen, vinBlock, if_true])
      | (apply VWp.condT; focus (simp [hp]; done))
      | (apply VWp.condF; focus (simp [hp]; done))
    simp [this]
    exact ⟨_, rfl⟩
  obtain ⟨a, rfl⟩ := Int.eq_ofNat_of_zero_le (Int.not_lt.1 hp)
  refine VWp.seqK fun K hK => VWp.region ?_; simp; refine hK _ _ ?_; clear hK K
  refine VWp.seqK fun K hK => ?_
  refine VWp.seqK fun K2 hK2 => VWp.region ?_; simp; refine hK2 _ _ ?_; clear hK2 K2
  apply VWp.condF; focus (simp; done)
  refine VWp.skip ?_; simp only [vthen]; refine hK _ _ ?_; clear hK K
  refine VWp.seqK fun K hK => VWp.region ?_; simp; refine hK _ _ ?_; clear hK K
  refine VWp.seqK fun K hK => ?_
  refine VWp.seqK fun K2 hK2 => VWp.region ?_; simp; refine hK2 _ _ ?_; clear hK2 K2
  refine VWp.block (VWp.loop (fun n σ t => ∃ k : Nat, n = 32 - k ∧ k ≤ 32 ∧ σ 1 = .int .i64 a ∧ σ 2 = .int .i64 bits ∧ σ 7 = .slm false s.next 0 b.length ∧ σ 8 = .int .i64 k ∧ t = s.ext [.var (byteL (flips b a bits k))]) 32 ⟨0, by simp, by simp, by simp, by simp, by simp, by simp, by simp [byteL, flips]⟩ ?_)
  rintro n σ t ⟨k, rfl, hk, h1, h2, h7, h8, rfl⟩
  refine VWp.seqK fun K1 hK1 => ?_
  refine VWp.seqK fun K2 hK2 => VWp.region ?_; simp [h1, h2, h7, h8]; refine hK2 _ _ ?_; clear hK2 K2
  refine VWp.cond (b := decide ((k : Int) < 32)) (by simp) (fun hlt => ?_) (fun hge => ?_)
  · have hlt : k < 32 := by have := of_decide_eq_true hlt; omega
    refine VWp.skip ?_; simp only [vthen]; refine hK1 _ _ ?_; clear hK1 K1
    have c1 : IntKind.u64.wrap (k : Int) = k := by rw [IntKind.wrap_u64]; omega
    have w1 : IntKind.i64.wrap (8 * (b.length : Int)) = 8 * b.length := by rw [IntKind.wrap_i64]; omega
    have w2 : IntKind.i64.wrap (8 * (b.length : Int) - k) = 8 * b.length - k := by rw [IntKind.wrap_i64]; omega
    have w4 : IntKind.i64.wrap ((k : Int) + 1) = (k : Int) + 1 := wrap_succ (by omega)
    refine VWp.seqK fun K1 hK1 => VWp.block ?_
    cases hb1 : bitOn bits k
    case false =>
      have hb2 : decide (band (bits.fdiv (2 ^ (min k IntKind.i64.bits))) 1 = 1) = false := hb1
      repeat' first
        | (refine hK _ _ ?_; clear hK K)
        | (refine VWp.seqK fun K hK => ?_)
        | (refine VWp.region ?_; simp [h1, h2, h7, h8, c1, w1, w2, w4, vbits_and, hb2])
        | (refine VWp.ret ?_)
        | (refine VWp.block ?_)
        | (refine VWp.skip ?_; simp only [vthen, vinBlock])
        | (refine VWp.exit ?_; simp only [vthen, vinBlock, if_true])
        | (apply VWp.condT; focus (simp [h1, h2, h7, h8, c1, w1, w2, w4, vbits_and, hb2]; done))
        | (apply VWp.condF; focus (simp [h1, h2, h7, h8, c1, w1, w2, w4, vbits_and, hb2]; done))
      refine hK1 _ _ ?_; clear hK1 K1
      refine VWp.region ?_; simp [h1, h2, h7, h8, w4]
      exact ⟨32 - (k + 1), by omega, k + 1, by omega, by omega, by simp, by rw [flips, flipAt, hb1, if_neg (by simp)]⟩
    case true =>
      have hb2 : decide (band (bits.fdiv (2 ^ (min k IntKind.i64.bits))) 1 = 1) = true := hb1
      have hL : (flips b a bits k).length = b.length := flips_length b a bits k
      cases c5 : decide ((a : Int) < 8 * b.length - k)
      case false =>
        have c6 : ¬ a + k < 8 * (flips b a bits k).length := by simp at c5; omega
        repeat' first
          | (refine hK _ _ ?_; clear hK K)
          | (refine VWp.seqK fun K hK => ?_)
          | (refine VWp.region ?_; simp [h1, h2, h7, h8, c1, w1, w2, w4, vbits_and, hb2, c5])
          | (refine VWp.ret ?_)
          | (refine VWp.block ?_)
          | (refine VWp.skip ?_; simp only [vthen, vinBlock])
          | (refine VWp.exit ?_; simp only [vthen, vinBlock, if_true])
          | (apply VWp.condT; focus (simp [h1, h2, h7, h8, c1, w1, w2, w4, vbits_and, hb2, c5]; done))
          | (apply VWp.condF; focus (simp [h1, h2, h7, h8, c1, w1, w2, w4, vbits_and, hb2, c5]; done))
        refine hK1 _ _ ?_; clear hK1 K1
        refine VWp.region ?_; simp [h1, h2, h7, h8, w4]
        exact ⟨32 - (k + 1), by omega, k + 1, by omega, by omega, by simp, by rw [flips, flipAt, hb1, if_pos rfl, if_neg c6]⟩
      case true =>
        have c6 : a + k < 8 * (flips b a bits k).length := by simp at c5; omega
        have w3 : IntKind.i64.wrap ((a : Int) + k) = ((a + k : Nat) : Int) := by rw [IntKind.wrap_i64]; omega
        generalize hm : a + k = m at *
        have q : IntKind.i64.wrap ((m : Int) / 8) = (m : Int) / 8 := by rw [IntKind.wrap_i64]; omega
        have q3 : ((m : Int) / 8).toNat = m / 8 := by omega
        have q4 : (m : Int) / 8 < b.length := by omega
        have q5 : 0 ≤ (m : Int) / 8 := by omega
        have r : IntKind.u64.wrap ((m : Int) % 8) = (m : Int) % 8 := by rw [IntKind.wrap_u64]; omega
        have r0 : (m : Int).tmod 8 = (m : Int) % 8 := Int.tmod_eq_emod_of_nonneg (by omega)
        have q6 : m / 8 + 1 ≤ b.length := by omega
        have r3 : ((m : Int) % 8).toNat = m % 8 := by omega
        have r5 : 0 ≤ (m : Int) % 8 := by omega
        have hm8 : m / 8 < b.length := by omega
        have hget : (byteL (flips b a bits k))[m / 8]? = some (.int .u8 ((flips b a bits k).getD (m / 8) 0).toNat) := by
          simp [byteL, List.getElem?_map, List.getD_eq_getElem?_getD, hL, hm8]
        have hget2 : ∀ h, (byteL (flips b a bits k))[m / 8]'h = .int .u8 ((flips b a bits k).getD (m / 8) 0).toNat := fun h => Option.some.inj ((List.getElem?_eq_getElem h).symm.trans hget)
        have hlenL : (byteL (flips b a bits k)).length = b.length := by simp [byteL, hL]
        repeat' first
          | (refine hK _ _ ?_; clear hK K)
          | (refine VWp.seqK fun K hK => ?_)
          | (refine VWp.region ?_; simp [h1, h2, h7, h8, c1, w1, w2, w3, w4, q, q3, q4, q5, q6, r0, r, r3, r5, vbits_and, vbits_xor8, xorB_val, hb2, c5, hget, hget2, hlenL, hm8])
          | (refine VWp.ret ?_)
          | (refine VWp.block ?_)
          | (refine VWp.skip ?_; simp only [vthen, vinBlock])
          | (refine VWp.exit ?_; simp only [vthen, vinBlock, if_true])
          | (apply VWp.condT; focus (simp [h1, h2, h7, h8, c1, w1, w2, w3, w4, q, q3, q4, q5, q6, r0, r, r3, r5, vbits_and, vbits_xor8, xorB_val, hb2, c5, hget, hget2, hlenL, hm8]; done))
          | (apply VWp.condF; focus (simp [h1, h2, h7, h8, c1, w1, w2, w3, w4, q, q3, q4, q5, q6, r0, r, r3, r5, vbits_and, vbits_xor8, xorB_val, hb2, c5, hget, hget2, hlenL, hm8]; done))
        refine hK1 _ _ ?_; clear hK1 K1
        have hsp : splice (byteL (flips b a bits k)) (m / 8) [.int .u8 (xorB ((flips b a bits k)[m / 8]?.getD 0) (m % 8)).toNat] = byteL (flips b a bits (k + 1)) := by
          rw [splice_set (by omega), flips, flipAt, hb1, if_pos rfl, hm, if_pos c6]
          simp [byteL, List.map_set]
        refine VWp.region ?_; simp [h1, h2, h7, h8, w4, xorB_val, hsp]
        exact ⟨32 - (k + 1), by omega, k + 1, by omega, by omega, by simp, rfl⟩
  · have hk32 : k = 32 := by have := of_decide_eq_false hge; omega
    subst hk32
    have hL : (flips b a bits 32).length = b.length := flips_length b a bits 32
    have hf : flip b a bits = flips b a bits 32 := by unfold flip; rw [if_neg hp]; simp
    generalize flips b a bits 32 = L at *
    have htake : List.take b.length (L.map fun c => V.int .u8 c.toNat) = L.map fun c => V.int .u8 c.toNat := List.take_of_length_le (by simp [hL])
    have hch := chunk1 L
    rw [hL] at hch
    have hvb := vbytes1 L
    refine VWp.exit ?_; simp only [vthen, vinBlock, if_true]; refine hK _ _ ?_; clear hK K hK1 K1
    refine VWp.seqK fun K hK => VWp.region ?_; simp [h7, hL, byteL, htake, hch, hvb, -chunkV, -vbytes]; refine hK _ _ ?_; clear hK K
    refine VWp.ret ?_
    simp [hf]
    exact ⟨_, rfl⟩

theorem flips_out {b : List UInt8} {a : Nat} {bits : Int} (h : 8 * b.length ≤ a) : ∀ k, flips b a bits k = b
  | 0 => rfl
  | k + 1 => by
    have h1 : ¬ a + k < 8 * b.length := by omega
    rw [flips, flips_out h k]
    simp [flipAt, h1]

theorem implFlip_v (b : List UInt8) (p bits : Int) (hb : b.length ≤ 1048576) (s : S) : VCalls Try.prog 13 [.str b, .int .i64 p, .int .i64 bits] s (fun v s' => v = .str (flip b p bits) ∧ s' = s) := by
  refine VCalls.pureE Try.func13 rfl (by simp [Try.ntmps13]) (by simp) ?_
  rw [Try.ntmps13, Try.results13]
  have w0 : IntKind.i64.wrap (8 * (b.length : Int)) = 8 * b.length := by rw [IntKind.wrap_i64]; omega
  by_cases hp : p < 0
  · have : flip b p bits = b := by simp [flip, hp]
    repeat' first
      | (refine hK _ _ ?_; clear hK K)
      | (refine VWp.seqK fun K hK => ?_)
      | (refine VWp.region ?_; simp [hp])
      | (refine VWp.ret ?_)
      | (refine VWp.block ?_)
      | (refine VWp.skip ?_; simp only [vthen, vinBlock])
      | (refine VWp.exit ?_; simp only [vthen, vinBlock, if_true])
      | (apply VWp.condT; focus (simp [hp]; done))
      | (apply VWp.condF; focus (simp [hp]; done))
    simp [this]
    exact ⟨_, rfl⟩
  obtain ⟨a, rfl⟩ := Int.eq_ofNat_of_zero_le (Int.not_lt.1 hp)
  cases hq : decide (8 * (b.length : Int) ≤ a)
  case true =>
    have : flip b a bits = b := by unfold flip; rw [if_neg hp]; exact flips_out (by simp at hq; omega) 32
    repeat' first
      | (refine hK _ _ ?_; clear hK K)
      | (refine VWp.seqK fun K hK => ?_)
      | (refine VWp.region ?_; simp [w0, hq])
      | (refine VWp.ret ?_)
      | (refine VWp.block ?_)
      | (refine VWp.skip ?_; simp only [vthen, vinBlock])
      | (refine VWp.exit ?_; simp only [vthen, vinBlock, if_true])
      | (apply VWp.condT; focus (simp [w0, hq]; done))
      | (apply VWp.condF; focus (simp [w0, hq]; done))
    simp [this]
    exact ⟨_, rfl⟩
  have hq2 : a < 8 * b.length := by simp at hq; omega
  refine VWp.seqK fun K hK => VWp.region ?_; simp; refine hK _ _ ?_; clear hK K
  refine VWp.seqK fun K hK => VWp.region ?_; simp; refine hK _ _ ?_; clear hK K
  refine VWp.seqK fun K hK => ?_
  refine VWp.seqK fun K2 hK2 => VWp.region ?_; simp [w0, hq]; refine hK2 _ _ ?_; clear hK2 K2
  apply VWp.condF; focus (simp; done)
  refine VWp.skip ?_; simp only [vthen]; refine hK _ _ ?_; clear hK K
  refine VWp.seqK fun K hK => ?_
  refine VWp.seqK fun K2 hK2 => VWp.region ?_; simp; refine hK2 _ _ ?_; clear hK2 K2
  refine VWp.block (VWp.loop (fun n σ t => ∃ k : Nat, n = 32 - k ∧ k ≤ 32 ∧ σ 1 = .int .i64 a ∧ σ 2 = .int .i64 bits ∧ σ 7 = .slm false s.next 0 b.length ∧ σ 22 = .int .i64 k ∧ t = s.ext [.var (byteL (flips b a bits k))]) 32 ⟨0, by simp, by simp, by simp, by simp, by simp, by simp, by simp [byteL, flips]⟩ ?_)
  rintro n σ t ⟨k, rfl, hk, h1, h2, h7, h8, rfl⟩
  refine VWp.seqK fun K1 hK1 => VWp.region ?_; simp [h1, h2, h7, h8]; refine hK1 _ _ ?_; clear hK1 K1
  refine VWp.seqK fun K1 hK1 => ?_
  refine VWp.cond (b := decide ((k : Int) < 32)) (by simp) (fun hlt => ?_) (fun hge => ?_)
  · have hlt : k < 32 := by have := of_decide_eq_true hlt; omega
    refine VWp.skip ?_; simp only [vthen]; refine hK1 _ _ ?_; clear hK1 K1
    have c1 : IntKind.u64.wrap (k : Int) = k := by rw [IntKind.wrap_u64]; omega
    have w1 : IntKind.i64.wrap (8 * (b.length : Int)) = 8 * b.length := by rw [IntKind.wrap_i64]; omega
    have w2 : IntKind.i64.wrap (8 * (b.length : Int) - k) = 8 * b.length - k := by rw [IntKind.wrap_i64]; omega
    have w4 : IntKind.i64.wrap ((k : Int) + 1) = (k : Int) + 1 := wrap_succ (by omega)
    refine VWp.seqK fun K1 hK1 => VWp.block ?_
    cases hb1 : bitOn bits k
    case false =>
      have hb2 : decide (band (bits.fdiv (2 ^ (min k IntKind.i64.bits))) 1 = 1) = false := hb1
      have w3 : IntKind.i64.wrap ((a : Int) + k) = (a : Int) + k := by rw [IntKind.wrap_i64]; omega
      repeat' first
        | (refine hK _ _ ?_; clear hK K)
        | (refine VWp.seqK fun K hK => ?_)
        | (refine VWp.region ?_; simp [h1, h2, h7, h8, c1, w1, w2, w3, w4, vbits_and, hb2])
        | (refine VWp.ret ?_)
        | (refine VWp.block ?_)
        | (refine VWp.skip ?_; simp only [vthen, vinBlock])
        | (refine VWp.exit ?_; simp only [vthen, vinBlock, if_true])
        | (apply VWp.condT; focus (simp [h1, h2, h7, h8, c1, w1, w2, w3, w4, vbits_and, hb2]; done))
        | (apply VWp.condF; focus (simp [h1, h2, h7, h8, c1, w1, w2, w3, w4, vbits_and, hb2]; done))
      refine hK1 _ _ ?_; clear hK1 K1
      refine VWp.region ?_; simp [h1, h2, h7, h8, w4]
      exact ⟨32 - (k + 1), by omega, k + 1, by omega, by omega, by simp, by rw [flips, flipAt, hb1, if_neg (by simp)]⟩
    case true =>
      have hb2 : decide (band (bits.fdiv (2 ^ (min k IntKind.i64.bits))) 1 = 1) = true := hb1
      have hL : (flips b a bits k).length = b.length := flips_length b a bits k
      have w3 : IntKind.i64.wrap ((a : Int) + k) = ((a + k : Nat) : Int) := by rw [IntKind.wrap_i64]; omega
      generalize hm : a + k = m at *
      cases c5 : decide ((m : Int) < 8 * b.length)
      case false =>
        have c6 : ¬ m < 8 * (flips b a bits k).length := by simp at c5; omega
        repeat' first
          | (refine hK _ _ ?_; clear hK K)
          | (refine VWp.seqK fun K hK => ?_)
          | (refine VWp.region ?_; simp [h1, h2, h7, h8, c1, w1, w2, w3, w4, vbits_and, hb2, c5])
          | (refine VWp.ret ?_)
          | (refine VWp.block ?_)
          | (refine VWp.skip ?_; simp only [vthen, vinBlock])
          | (refine VWp.exit ?_; simp only [vthen, vinBlock, if_true])
          | (apply VWp.condT; focus (simp [h1, h2, h7, h8, c1, w1, w2, w3, w4, vbits_and, hb2, c5]; done))
          | (apply VWp.condF; focus (simp [h1, h2, h7, h8, c1, w1, w2, w3, w4, vbits_and, hb2, c5]; done))
        refine hK1 _ _ ?_; clear hK1 K1
        refine VWp.region ?_; simp [h1, h2, h7, h8, w4]
        exact ⟨32 - (k + 1), by omega, k + 1, by omega, by omega, by simp, by rw [flips, flipAt, hb1, if_pos rfl, hm, if_neg c6]⟩
      case true =>
        have c6 : m < 8 * (flips b a bits k).length := by simp at c5; omega
        have q : IntKind.i64.wrap ((m : Int) / 8) = (m : Int) / 8 := by rw [IntKind.wrap_i64]; omega
        have q3 : ((m : Int) / 8).toNat = m / 8 := by omega
        have q4 : (m : Int) / 8 < b.length := by omega
        have q5 : 0 ≤ (m : Int) / 8 := by omega
        have r : IntKind.u64.wrap ((m : Int) % 8) = (m : Int) % 8 := by rw [IntKind.wrap_u64]; omega
        have r0 : (m : Int).tmod 8 = (m : Int) % 8 := Int.tmod_eq_emod_of_nonneg (by omega)
        have q6 : m / 8 + 1 ≤ b.length := by omega
        have r3 : ((m : Int) % 8).toNat = m % 8 := by omega
        have r5 : 0 ≤ (m : Int) % 8 := by omega
        have hm8 : m / 8 < b.length := by omega
        have hget : (byteL (flips b a bits k))[m / 8]? = some (.int .u8 ((flips b a bits k).getD (m / 8) 0).toNat) := by
          simp [byteL, List.getElem?_map, List.getD_eq_getElem?_getD, hL, hm8]
        have hget2 : ∀ h, (byteL (flips b a bits k))[m / 8]'h = .int .u8 ((flips b a bits k).getD (m / 8) 0).toNat := fun h => Option.some.inj ((List.getElem?_eq_getElem h).symm.trans hget)
        have hlenL : (byteL (flips b a bits k)).length = b.length := by simp [byteL, hL]
        have hsp : splice (byteL (flips b a bits k)) (m / 8) [.int .u8 (xorB ((flips b a bits k)[m / 8]?.getD 0) (m % 8)).toNat] = byteL (flips b a bits (k + 1)) := by
          rw [splice_set (by omega), flips, flipAt, hb1, if_pos rfl, hm, if_pos c6]
          simp [byteL, List.map_set]
        repeat' first
          | (refine hK _ _ ?_; clear hK K)
          | (refine VWp.seqK fun K hK => ?_)
          | (refine VWp.region ?_; simp [h1, h2, h7, h8, c1, w1, w2, w3, w4, q, q3, q4, q5, q6, r0, r, r3, r5, vbits_and, vbits_xor8, xorB_val, hb2, c5, hget, hget2, hlenL, hm8, hsp])
          | (refine VWp.ret ?_)
          | (refine VWp.block ?_)
          | (refine VWp.skip ?_; simp only [vthen, vinBlock])
          | (refine VWp.exit ?_; simp only [vthen, vinBlock, if_true])
          | (apply VWp.condT; focus (simp [h1, h2, h7, h8, c1, w1, w2, w3, w4, q, q3, q4, q5, q6, r0, r, r3, r5, vbits_and, vbits_xor8, xorB_val, hb2, c5, hget, hget2, hlenL, hm8, hsp]; done))
          | (apply VWp.condF; focus (simp [h1, h2, h7, h8, c1, w1, w2, w3, w4, q, q3, q4, q5, q6, r0, r, r3, r5, vbits_and, vbits_xor8, xorB_val, hb2, c5, hget, hget2, hlenL, hm8, hsp]; done))
          | (refine VWp.drawnBy (id := 9) [0, 1, 2, 3, 4, 5, 6, 7, 8, 9, 10] [10] [[], [], [1], [0, 1, 2], [0, 1, 2, 3], [], [5], [5, 6], [0, 1, 2, 3, 4, 5, 6, 7], [0, 1, 2, 3, 4, 5, 6, 7, 8], [0, 1, 2, 3, 4, 5, 6, 7, 8, 9]] ?_ ?_ ?_; (focus kernel_rfl); (focus kernel_rfl); simp [h1, h2, h7, h8, c1, w1, w2, w3, w4, q, q3, q4, q5, q6, r0, r, r3, r5, vbits_and, vbits_xor8, xorB_val, hb2, c5, hget, hget2, hlenL, hm8, hsp, VDr, VStables, VStable, floats, effOf, ancOf, atO])
        refine hK1 _ _ ?_; clear hK1 K1
        refine VWp.region ?_; simp [h1, h2, h7, h8, w4, xorB_val, hsp]
        exact ⟨32 - (k + 1), by omega, k + 1, by omega, by omega, by simp, rfl⟩
  · have hk32 : k = 32 := by have := of_decide_eq_false hge; omega
    subst hk32
    have hL : (flips b a bits 32).length = b.length := flips_length b a bits 32
    have hf : flip b a bits = flips b a bits 32 := by unfold flip; rw [if_neg hp]; simp
    generalize flips b a bits 32 = L at *
    have htake : List.take b.length (L.map fun c => V.int .u8 c.toNat) = L.map fun c => V.int .u8 c.toNat := List.take_of_length_le (by simp [hL])
    have hch := chunk1 L
    rw [hL] at hch
    have hvb := vbytes1 L
    refine VWp.exit ?_; simp only [vthen, vinBlock, if_true]; refine hK _ _ ?_; clear hK K hK1 K1
    refine VWp.seqK fun K hK => VWp.region ?_; simp [h7, hL, byteL, htake, hch, hvb, -chunkV, -vbytes]; refine hK _ _ ?_; clear hK K
    refine VWp.ret ?_
    simp [hf]
    exact ⟨_, rfl⟩


/-! ### Twice -/
def bitC (j : Nat) : Nat := (IntKind.u8.wrap (2 ^ (min j IntKind.u8.bits)) % 256).toNat
theorem xorB_toNat (b : UInt8) (j : Nat) : (xorB b j).toNat = b.toNat ^^^ bitC j := by
  unfold xorB bitC
  have hx : b.toNat ^^^ (IntKind.u8.wrap (2 ^ (min j IntKind.u8.bits)) % 256).toNat < 2 ^ 8 := Nat.xor_lt_two_pow (by have := b.toNat_lt; omega) (by omega)
  rw [UInt8.toNat_ofNat']
  omega
theorem xorB_twice (b : UInt8) (j : Nat) : xorB (xorB b j) j = b := by
  apply UInt8.toNat_inj.1
  rw [xorB_toNat, xorB_toNat, Nat.xor_assoc, Nat.xor_self, Nat.xor_zero]
theorem xorB_comm (b : UInt8) (i j : Nat) : xorB (xorB b i) j = xorB (xorB b j) i := by
  apply UInt8.toNat_inj.1
  rw [xorB_toNat, xorB_toNat, xorB_toNat, xorB_toNat, Nat.xor_assoc, Nat.xor_assoc, Nat.xor_comm (bitC i)]
def tog (b : List UInt8) (m : Nat) : List UInt8 := if m < 8 * b.length then b.set (m / 8) (xorB (b.getD (m / 8) 0) (m % 8)) else b
theorem tog_length (b : List UInt8) (m : Nat) : (tog b m).length = b.length := by unfold tog; split <;> simp
theorem getD_set (b : List UInt8) {i : Nat} (h : i < b.length) (x : UInt8) (j : Nat) : (b.set i x).getD j 0 = if i = j then x else b.getD j 0 := by
  simp only [List.getD_eq_getElem?_getD, List.getElem?_set]
  split
  · rename_i e; subst e; simp [h]
  · rfl
theorem tog_twice (b : List UInt8) (m : Nat) : tog (tog b m) m = b := by
  by_cases h : m < 8 * b.length
  · have h8 : m / 8 < b.length := by omega
    have e : tog b m = b.set (m / 8) (xorB (b.getD (m / 8) 0) (m % 8)) := if_pos h
    have hl := tog_length b m
    unfold tog
    rw [if_pos (by rw [← tog.eq_1, hl]; exact h)]
    rw [← tog.eq_1, e, getD_set b h8, if_pos rfl, xorB_twice, List.set_set]
    rw [List.getD_eq_getElem?_getD, List.getElem?_eq_getElem h8, Option.getD_some, List.set_getElem_self]
  · have e : tog b m = b := if_neg h
    rw [e, e]
theorem tog_comm (b : List UInt8) (m k : Nat) : tog (tog b m) k = tog (tog b k) m := by
  by_cases hm : m < 8 * b.length
  · by_cases hk : k < 8 * b.length
    · have h8 : m / 8 < b.length := by omega
      have k8 : k / 8 < b.length := by omega
      have e1 : tog b m = b.set (m / 8) (xorB (b.getD (m / 8) 0) (m % 8)) := if_pos hm
      have e2 : tog b k = b.set (k / 8) (xorB (b.getD (k / 8) 0) (k % 8)) := if_pos hk
      have e3 : tog (tog b m) k = (tog b m).set (k / 8) (xorB ((tog b m).getD (k / 8) 0) (k % 8)) := if_pos (by rw [tog_length]; exact hk)
      have e4 : tog (tog b k) m = (tog b k).set (m / 8) (xorB ((tog b k).getD (m / 8) 0) (m % 8)) := if_pos (by rw [tog_length]; exact hm)
      rw [e3, e4, e1, e2, getD_set b h8, getD_set b k8]
      by_cases e : m / 8 = k / 8
      · rw [if_pos e, if_pos e.symm, e, List.set_set, List.set_set, xorB_comm]
      · rw [if_neg e, if_neg (fun q => e q.symm), List.set_comm _ _ e]
    · have e2 : tog b k = b := if_neg hk
      have e3 : tog (tog b m) k = tog b m := if_neg (by rw [tog_length]; exact hk)
      rw [e2, e3]
  · have e1 : tog b m = b := if_neg hm
    have e4 : tog (tog b k) m = tog b k := if_neg (by rw [tog_length]; exact hm)
    rw [e1, e4]
theorem flipAt_tog (b : List UInt8) (a : Nat) (bits : Int) (i : Nat) : flipAt b a bits i = if bitOn bits i then tog b (a + i) else b := rfl
theorem flipAt_twice (b : List UInt8) (a : Nat) (bits : Int) (i : Nat) : flipAt (flipAt b a bits i) a bits i = b := by
  simp only [flipAt_tog]
  split
  · exact tog_twice _ _
  · rfl
theorem flipAt_comm (b : List UInt8) (a : Nat) (bits : Int) (i j : Nat) : flipAt (flipAt b a bits i) a bits j = flipAt (flipAt b a bits j) a bits i := by
  simp only [flipAt_tog]
  split <;> split <;> first | exact tog_comm _ _ _ | rfl
theorem flips_comm (b : List UInt8) (a : Nat) (bits : Int) (i : Nat) : ∀ k, flips (flipAt b a bits i) a bits k = flipAt (flips b a bits k) a bits i
  | 0 => rfl
  | k + 1 => by rw [flips, flips, flips_comm b a bits i k, flipAt_comm]
theorem flips_twice (b : List UInt8) (a : Nat) (bits : Int) : ∀ k, flips (flips b a bits k) a bits k = b
  | 0 => rfl
  | k + 1 => by
    rw [flips, flips, flips_comm, flipAt_twice, flips_twice b a bits k]
theorem flip_twice (b : List UInt8) (p bits : Int) : flip (flip b p bits) p bits = b := by
  unfold flip
  split
  · rfl
  · exact flips_twice _ _ _ _
theorem flip_len (b : List UInt8) (p bits : Int) : (flip b p bits).length = b.length := by
  unfold flip
  split
  · rfl
  · exact flips_length _ _ _ _

/-! ### What is drawn -/
theorem byteV_conv (x : Int) : ∃ y : UInt8, V.int .u8 (IntKind.u8.wrap x) = byteV y := by
  refine ⟨UInt8.ofNat (IntKind.u8.wrap x).toNat, ?_⟩
  have h : 0 ≤ IntKind.u8.wrap x ∧ IntKind.u8.wrap x < 256 := by constructor <;> simp [IntKind.wrap, IntKind.bits, IntKind.signed] <;> omega
  simp only [byteV, UInt8.toNat_ofNat']
  congr 1
  omega
theorem vbytes_byteV : ∀ L : List UInt8, vbytes (L.map byteV) = some L
  | [] => rfl
  | c :: L => by
    have e : vbytes ((c :: L).map byteV) = (vbytes (L.map byteV)).map (UInt8.ofNat ((c.toNat : Int)).toNat :: ·) := rfl
    rw [e, vbytes_byteV L]
    simp
theorem specl1Bytes_d {b : V} (hb : Bytes b) {n : Nat} (hn : n ≤ 1000000) : Drw Try.prog 54 b [.int .i64 (n : Int)] (fun bs : List UInt8 => .sl 0 (bs.map byteV)) (fun bs => bs.length = n) := by
  intro s H l i h hi hh
  refine VCalls.forgetR ?_
  refine LCalls.body0 Try.func54 rfl (by kernel_rfl) ?_
  repeat' first
    | (refine kBsl ?_ ; refine' LOps.bslH tT_ok rfl rfl rfl rfl rfl rfl rfl rfl hh ?_ ?_ ?_ ; rotate_left 2 ; (focus ((repeat' first | (exact ConsL.nil) | (exact ConsL.pls rfl rfl) | (exact Cons.pl rfl rfl) | (exact Cons.zsl) | (exact Cons.nilsl) | (refine' Cons.bp ?_; ((repeat' first | (exact Pick.here) | (refine' Pick.there ?_)); done)) | (refine' Cons.ap ?_; ((repeat' first | (exact Pick.here) | (refine' Pick.there ?_)); done)) | (exact Cons.blk 0 rfl rfl rfl) | (exact Cons.blk 1 rfl rfl rfl) | (exact Cons.blk 2 rfl rfl rfl) | (exact Cons.blk 3 rfl rfl rfl) | (exact Cons.pl (by assumption) (by assumption)) | (exact ConsL.pls (by assumption) (by assumption)) | (refine' ConsL.cons ?_ ?_) | (refine' Cons.agg ?_)); done)) ; (focus ((repeat' first | (exact ElsH.nil) | (exact ElsH.of rfl) | (exact ElsH.map fun _ => rfl) | (refine ElsH.c1 rfl ?_) | (refine ElsH.ct rfl rfl ?_)); done)) ; intro s n hh)
    | (refine kApp ?_ ; first | (refine' LOps.appF tT_ok 0 rfl rfl rfl rfl rfl rfl rfl rfl rfl rfl rfl hh ?_ (AppB.of ?_ rfl) ?_ ; (focus ((repeat' first | (exact Elems.nil) | (exact Elems.of rfl) | (exact Elems.map fun _ => rfl) | (exact PE.els _ (fun _ => rfl) _) | (refine Elems.c1 rfl ?_) | (refine Elems.ct rfl rfl ?_) | (refine' Elems.cg rfl ?_ ?_; (focus (repeat' first | (exact rfl) | (refine ones_cons (thw_one _ _ _) ?_) | (refine ones_cons rfl ?_))))); done)) ; (focus (first | omega | (simp <;> fail) | (simp ; omega))) ; intro s hh) | (refine' LOps.appF tT_ok 1 rfl rfl rfl rfl rfl rfl rfl rfl rfl rfl rfl hh ?_ (AppB.of ?_ rfl) ?_ ; (focus ((repeat' first | (exact Elems.nil) | (exact Elems.of rfl) | (exact Elems.map fun _ => rfl) | (exact PE.els _ (fun _ => rfl) _) | (refine Elems.c1 rfl ?_) | (refine Elems.ct rfl rfl ?_) | (refine' Elems.cg rfl ?_ ?_; (focus (repeat' first | (exact rfl) | (refine ones_cons (thw_one _ _ _) ?_) | (refine ones_cons rfl ?_))))); done)) ; (focus (first | omega | (simp <;> fail) | (simp ; omega))) ; intro s hh) | (refine' LOps.appF tT_ok 2 rfl rfl rfl rfl rfl rfl rfl rfl rfl rfl rfl hh ?_ (AppB.of ?_ rfl) ?_ ; (focus ((repeat' first | (exact Elems.nil) | (exact Elems.of rfl) | (exact Elems.map fun _ => rfl) | (exact PE.els _ (fun _ => rfl) _) | (refine Elems.c1 rfl ?_) | (refine Elems.ct rfl rfl ?_) | (refine' Elems.cg rfl ?_ ?_; (focus (repeat' first | (exact rfl) | (refine ones_cons (thw_one _ _ _) ?_) | (refine ones_cons rfl ?_))))); done)) ; (focus (first | omega | (simp <;> fail) | (simp ; omega))) ; intro s hh) | (refine' LOps.appF tT_ok 3 rfl rfl rfl rfl rfl rfl rfl rfl rfl rfl rfl hh ?_ (AppB.of ?_ rfl) ?_ ; (focus ((repeat' first | (exact Elems.nil) | (exact Elems.of rfl) | (exact Elems.map fun _ => rfl) | (exact PE.els _ (fun _ => rfl) _) | (refine Elems.c1 rfl ?_) | (refine Elems.ct rfl rfl ?_) | (refine' Elems.cg rfl ?_ ?_; (focus (repeat' first | (exact rfl) | (refine ones_cons (thw_one _ _ _) ?_) | (refine ones_cons rfl ?_))))); done)) ; (focus (first | omega | (simp <;> fail) | (simp ; omega))) ; intro s hh) | (refine' LOps.appF tT_ok 4 rfl rfl rfl rfl rfl rfl rfl rfl rfl rfl rfl hh ?_ (AppB.of ?_ rfl) ?_ ; (focus ((repeat' first | (exact Elems.nil) | (exact Elems.of rfl) | (exact Elems.map fun _ => rfl) | (exact PE.els _ (fun _ => rfl) _) | (refine Elems.c1 rfl ?_) | (refine Elems.ct rfl rfl ?_) | (refine' Elems.cg rfl ?_ ?_; (focus (repeat' first | (exact rfl) | (refine ones_cons (thw_one _ _ _) ?_) | (refine ones_cons rfl ?_))))); done)) ; (focus (first | omega | (simp <;> fail) | (simp ; omega))) ; intro s hh) | (refine' LOps.appF tT_ok 5 rfl rfl rfl rfl rfl rfl rfl rfl rfl rfl rfl hh ?_ (AppB.of ?_ rfl) ?_ ; (focus ((repeat' first | (exact Elems.nil) | (exact Elems.of rfl) | (exact Elems.map fun _ => rfl) | (exact PE.els _ (fun _ => rfl) _) | (refine Elems.c1 rfl ?_) | (refine Elems.ct rfl rfl ?_) | (refine' Elems.cg rfl ?_ ?_; (focus (repeat' first | (exact rfl) | (refine ones_cons (thw_one _ _ _) ?_) | (refine ones_cons rfl ?_))))); done)) ; (focus (first | omega | (simp <;> fail) | (simp ; omega))) ; intro s hh) | (refine' LOps.appF tT_ok 6 rfl rfl rfl rfl rfl rfl rfl rfl rfl rfl rfl hh ?_ (AppB.of ?_ rfl) ?_ ; (focus ((repeat' first | (exact Elems.nil) | (exact Elems.of rfl) | (exact Elems.map fun _ => rfl) | (exact PE.els _ (fun _ => rfl) _) | (refine Elems.c1 rfl ?_) | (refine Elems.ct rfl rfl ?_) | (refine' Elems.cg rfl ?_ ?_; (focus (repeat' first | (exact rfl) | (refine ones_cons (thw_one _ _ _) ?_) | (refine ones_cons rfl ?_))))); done)) ; (focus (first | omega | (simp <;> fail) | (simp ; omega))) ; intro s hh) | (refine' LOps.appF tT_ok 7 rfl rfl rfl rfl rfl rfl rfl rfl rfl rfl rfl hh ?_ (AppB.of ?_ rfl) ?_ ; (focus ((repeat' first | (exact Elems.nil) | (exact Elems.of rfl) | (exact Elems.map fun _ => rfl) | (exact PE.els _ (fun _ => rfl) _) | (refine Elems.c1 rfl ?_) | (refine Elems.ct rfl rfl ?_) | (refine' Elems.cg rfl ?_ ?_; (focus (repeat' first | (exact rfl) | (refine ones_cons (thw_one _ _ _) ?_) | (refine ones_cons rfl ?_))))); done)) ; (focus (first | omega | (simp <;> fail) | (simp ; omega))) ; intro s hh))
    | (refine kBsl ?_ ; refine LOps.bsl0 tT_ok rfl rfl rfl rfl rfl ?_)
    | (refine kOps ?_; first | (refine LOps.nil ?_) | (refine LOps.ev tT_ok rfl ?_) | (refine kBsl ?_; first | (refine LOps.bsl0 tT_ok rfl rfl rfl rfl rfl ?_) | (refine LOps.bsl tT_ok rfl rfl rfl rfl rfl rfl rfl rfl rfl rfl rfl ?_)) | (refine kApp ?_; first | (refine LOps.app tT_ok rfl rfl rfl rfl rfl rfl rfl rfl rfl rfl rfl ?_ ?_ (AppB.of ?_ rfl) ?_; (focus (first | rfl | (simp <;> fail) | (simp; omega))); (focus (first | exact Elems.of rfl | exact Elems.map fun _ => rfl | exact PE.els _ (fun _ => rfl) _)); (focus (first | omega | (simp <;> fail) | (simp; omega)))) | (refine LOps.app0 tT_ok rfl rfl rfl rfl rfl rfl rfl rfl rfl rfl rfl ?_ (AppB.of ?_ rfl) ?_; (focus (first | exact Elems.of rfl | exact Elems.map fun _ => rfl | exact PE.els _ (fun _ => rfl) _)); (focus (first | omega | (simp <;> fail) | (simp; omega))))) | (refine kBin ?_; first | (refine LOps.ans (AnsL.add rfl rfl ?_) ?_; (focus (constructor <;> omega))) | (refine LOps.ans (AnsL.arith rfl rfl rfl) ?_)))
    | (refine kWL ?_; first | (refine WL.seq ?_) | (refine WL.region (by kernel_rfl) ?_) | (refine WL.block ?_) | (refine WL.exit ?_) | (refine WL.skip ?_) | (refine WL.ret ?_) | (refine kCond ?_; first | (refine WL.condT rfl ?_) | (refine WL.condF rfl ?_) | (refine WL.condT' rfl ?_ ?_; (focus (first | (assumption) | (exact decide_eq_true (by assumption)) | (exact decide_eq_false (by assumption)) | (simp only [decide_eq_true_eq, decide_eq_false_iff_not, Bool.not_eq_true', Bool.not_eq_false', Int.ofNat_lt, Int.ofNat_le, Int.ofNat_inj, not_true_eq_false, not_false_eq_true]; omega) | (simp <;> fail)))) | (refine WL.condF' rfl ?_ ?_; (focus (first | (assumption) | (exact decide_eq_true (by assumption)) | (exact decide_eq_false (by assumption)) | (simp only [decide_eq_true_eq, decide_eq_false_iff_not, Bool.not_eq_true', Bool.not_eq_false', Int.ofNat_lt, Int.ofNat_le, Int.ofNat_inj, not_true_eq_false, not_false_eq_true]; omega) | (simp <;> fail)))) | (refine WL.cond rfl (fun h => ?_) (fun h => ?_))))
    | (refine lthen_n ?_)
    | (refine lthen_r ?_)
    | (refine lthen_e ?_)
    | (refine lblock_n ?_)
    | (refine lblock_r ?_)
    | (refine lblock_e ?_)
    | (refine lblock_o rfl ?_)
    | (refine lback_r ?_)
    | (refine lback_e ?_)
    | (refine lbackD_r ?_)
    | (refine lbackD_e ?_)
    | (refine lbackH_r ?_)
    | (refine lbackH_e ?_)
    | (refine LPost.r1 (r := .tmp 4) (.inl rfl) (Res1.tmp rfl) ?_)
    | (refine PureR.mk ?_)
  refine WL.zfamH (t := 5) 1 rfl rfl hh (fun s id hh => ?_)
  replace hh := hh.toFac (i := 0) rfl rfl
  refine WL.loopH (fun x : List UInt8 × Int × Int => n - x.1.length) (fun x => [(0, .ptr l 0), (1, .int .i64 (n : Int)), (5, .sl id (x.1.map byteV)), (6, .int .i64 (x.1.length : Int))]) (fun x => .fac id 1 (x.1.map byteV) :: .cell l (curC b x.2.1 x.2.2) :: H)
    (fun x => x.1.length ≤ n ∧ 0 ≤ x.2.1) ([], i, h) ⟨Nat.zero_le _, hi⟩ ⟨rfl, rfl, rfl, rfl, trivial⟩ hh (Sel.refl _) (fun x s hI hh => ?_)
  obtain ⟨bs, i, h⟩ := x
  obtain ⟨hI, hi⟩ := hI
  dsimp only at hI hi hh ⊢
  by_cases hlt : (bs.length : Int) < n
  · skip
    repeat' first
      | (refine kBsl ?_ ; refine' LOps.bslH tT_ok rfl rfl rfl rfl rfl rfl rfl rfl hh ?_ ?_ ?_ ; rotate_left 2 ; (focus ((repeat' first | (exact ConsL.nil) | (exact ConsL.pls rfl rfl) | (exact Cons.pl rfl rfl) | (exact Cons.zsl) | (exact Cons.nilsl) | (refine' Cons.bp ?_; ((repeat' first | (exact Pick.here) | (refine' Pick.there ?_)); done)) | (refine' Cons.ap ?_; ((repeat' first | (exact Pick.here) | (refine' Pick.there ?_)); done)) | (exact Cons.blk 0 rfl rfl rfl) | (exact Cons.blk 1 rfl rfl rfl) | (exact Cons.blk 2 rfl rfl rfl) | (exact Cons.blk 3 rfl rfl rfl) | (exact Cons.pl (by assumption) (by assumption)) | (exact ConsL.pls (by assumption) (by assumption)) | (refine' ConsL.cons ?_ ?_) | (refine' Cons.agg ?_)); done)) ; (focus ((repeat' first | (exact ElsH.nil) | (exact ElsH.of rfl) | (exact ElsH.map fun _ => rfl) | (refine ElsH.c1 rfl ?_) | (refine ElsH.ct rfl rfl ?_)); done)) ; intro s n hh)
      | (refine kApp ?_ ; first | (refine' LOps.appF tT_ok 0 rfl rfl rfl rfl rfl rfl rfl rfl rfl rfl rfl hh ?_ (AppB.of ?_ rfl) ?_ ; (focus ((repeat' first | (exact Elems.nil) | (exact Elems.of rfl) | (exact Elems.map fun _ => rfl) | (exact PE.els _ (fun _ => rfl) _) | (refine Elems.c1 rfl ?_) | (refine Elems.ct rfl rfl ?_) | (refine' Elems.cg rfl ?_ ?_; (focus (repeat' first | (exact rfl) | (refine ones_cons (thw_one _ _ _) ?_) | (refine ones_cons rfl ?_))))); done)) ; (focus (first | omega | (simp <;> fail) | (simp ; omega))) ; intro s hh) | (refine' LOps.appF tT_ok 1 rfl rfl rfl rfl rfl rfl rfl rfl rfl rfl rfl hh ?_ (AppB.of ?_ rfl) ?_ ; (focus ((repeat' first | (exact Elems.nil) | (exact Elems.of rfl) | (exact Elems.map fun _ => rfl) | (exact PE.els _ (fun _ => rfl) _) | (refine Elems.c1 rfl ?_) | (refine Elems.ct rfl rfl ?_) | (refine' Elems.cg rfl ?_ ?_; (focus (repeat' first | (exact rfl) | (refine ones_cons (thw_one _ _ _) ?_) | (refine ones_cons rfl ?_))))); done)) ; (focus (first | omega | (simp <;> fail) | (simp ; omega))) ; intro s hh) | (refine' LOps.appF tT_ok 2 rfl rfl rfl rfl rfl rfl rfl rfl rfl rfl rfl hh ?_ (AppB.of ?_ rfl) ?_ ; (focus ((repeat' first | (exact Elems.nil) | (exact Elems.of rfl) | (exact Elems.map fun _ => rfl) | (exact PE.els _ (fun _ => rfl) _) | (refine Elems.c1 rfl ?_) | (refine Elems.ct rfl rfl ?_) | (refine' Elems.cg rfl ?_ ?_; (focus (repeat' first | (exact rfl) | (refine ones_cons (thw_one _ _ _) ?_) | (refine ones_cons rfl ?_))))); done)) ; (focus (first | omega | (simp <;> fail) | (simp ; omega))) ; intro s hh) | (refine' LOps.appF tT_ok 3 rfl rfl rfl rfl rfl rfl rfl rfl rfl rfl rfl hh ?_ (AppB.of ?_ rfl) ?_ ; (focus ((repeat' first | (exact Elems.nil) | (exact Elems.of rfl) | (exact Elems.map fun _ => rfl) | (exact PE.els _ (fun _ => rfl) _) | (refine Elems.c1 rfl ?_) | (refine Elems.ct rfl rfl ?_) | (refine' Elems.cg rfl ?_ ?_; (focus (repeat' first | (exact rfl) | (refine ones_cons (thw_one _ _ _) ?_) | (refine ones_cons rfl ?_))))); done)) ; (focus (first | omega | (simp <;> fail) | (simp ; omega))) ; intro s hh) | (refine' LOps.appF tT_ok 4 rfl rfl rfl rfl rfl rfl rfl rfl rfl rfl rfl hh ?_ (AppB.of ?_ rfl) ?_ ; (focus ((repeat' first | (exact Elems.nil) | (exact Elems.of rfl) | (exact Elems.map fun _ => rfl) | (exact PE.els _ (fun _ => rfl) _) | (refine Elems.c1 rfl ?_) | (refine Elems.ct rfl rfl ?_) | (refine' Elems.cg rfl ?_ ?_; (focus (repeat' first | (exact rfl) | (refine ones_cons (thw_one _ _ _) ?_) | (refine ones_cons rfl ?_))))); done)) ; (focus (first | omega | (simp <;> fail) | (simp ; omega))) ; intro s hh) | (refine' LOps.appF tT_ok 5 rfl rfl rfl rfl rfl rfl rfl rfl rfl rfl rfl hh ?_ (AppB.of ?_ rfl) ?_ ; (focus ((repeat' first | (exact Elems.nil) | (exact Elems.of rfl) | (exact Elems.map fun _ => rfl) | (exact PE.els _ (fun _ => rfl) _) | (refine Elems.c1 rfl ?_) | (refine Elems.ct rfl rfl ?_) | (refine' Elems.cg rfl ?_ ?_; (focus (repeat' first | (exact rfl) | (refine ones_cons (thw_one _ _ _) ?_) | (refine ones_cons rfl ?_))))); done)) ; (focus (first | omega | (simp <;> fail) | (simp ; omega))) ; intro s hh) | (refine' LOps.appF tT_ok 6 rfl rfl rfl rfl rfl rfl rfl rfl rfl rfl rfl hh ?_ (AppB.of ?_ rfl) ?_ ; (focus ((repeat' first | (exact Elems.nil) | (exact Elems.of rfl) | (exact Elems.map fun _ => rfl) | (exact PE.els _ (fun _ => rfl) _) | (refine Elems.c1 rfl ?_) | (refine Elems.ct rfl rfl ?_) | (refine' Elems.cg rfl ?_ ?_; (focus (repeat' first | (exact rfl) | (refine ones_cons (thw_one _ _ _) ?_) | (refine ones_cons rfl ?_))))); done)) ; (focus (first | omega | (simp <;> fail) | (simp ; omega))) ; intro s hh) | (refine' LOps.appF tT_ok 7 rfl rfl rfl rfl rfl rfl rfl rfl rfl rfl rfl hh ?_ (AppB.of ?_ rfl) ?_ ; (focus ((repeat' first | (exact Elems.nil) | (exact Elems.of rfl) | (exact Elems.map fun _ => rfl) | (exact PE.els _ (fun _ => rfl) _) | (refine Elems.c1 rfl ?_) | (refine Elems.ct rfl rfl ?_) | (refine' Elems.cg rfl ?_ ?_; (focus (repeat' first | (exact rfl) | (refine ones_cons (thw_one _ _ _) ?_) | (refine ones_cons rfl ?_))))); done)) ; (focus (first | omega | (simp <;> fail) | (simp ; omega))) ; intro s hh))
      | (refine kCallN 131 ?_ ; first | (refine LOps.drawH 0 rfl rfl ok131 hh rfl rfl ?_ (specl1Byte_d hb) ?_ ; (focus (first | assumption | omega)) ; intro s x i h hq hi hh ; try dsimp only) | (refine LOps.drawH 1 rfl rfl ok131 hh rfl rfl ?_ (specl1Byte_d hb) ?_ ; (focus (first | assumption | omega)) ; intro s x i h hq hi hh ; try dsimp only) | (refine LOps.drawH 2 rfl rfl ok131 hh rfl rfl ?_ (specl1Byte_d hb) ?_ ; (focus (first | assumption | omega)) ; intro s x i h hq hi hh ; try dsimp only) | (refine LOps.drawH 3 rfl rfl ok131 hh rfl rfl ?_ (specl1Byte_d hb) ?_ ; (focus (first | assumption | omega)) ; intro s x i h hq hi hh ; try dsimp only) | (refine LOps.drawH 4 rfl rfl ok131 hh rfl rfl ?_ (specl1Byte_d hb) ?_ ; (focus (first | assumption | omega)) ; intro s x i h hq hi hh ; try dsimp only) | (refine LOps.drawH 5 rfl rfl ok131 hh rfl rfl ?_ (specl1Byte_d hb) ?_ ; (focus (first | assumption | omega)) ; intro s x i h hq hi hh ; try dsimp only) | (refine LOps.drawH 6 rfl rfl ok131 hh rfl rfl ?_ (specl1Byte_d hb) ?_ ; (focus (first | assumption | omega)) ; intro s x i h hq hi hh ; try dsimp only) | (refine LOps.drawH 7 rfl rfl ok131 hh rfl rfl ?_ (specl1Byte_d hb) ?_ ; (focus (first | assumption | omega)) ; intro s x i h hq hi hh ; try dsimp only))
      | (refine kOps ?_; first | (refine LOps.nil ?_) | (refine LOps.ev tT_ok rfl ?_) | (refine kBsl ?_; first | (refine LOps.bsl0 tT_ok rfl rfl rfl rfl rfl ?_) | (refine LOps.bsl tT_ok rfl rfl rfl rfl rfl rfl rfl rfl rfl rfl rfl ?_)) | (refine kApp ?_; first | (refine LOps.app tT_ok rfl rfl rfl rfl rfl rfl rfl rfl rfl rfl rfl ?_ ?_ (AppB.of ?_ rfl) ?_; (focus (first | rfl | (simp <;> fail) | (simp; omega))); (focus (first | exact Elems.of rfl | exact Elems.map fun _ => rfl | exact PE.els _ (fun _ => rfl) _)); (focus (first | omega | (simp <;> fail) | (simp; omega)))) | (refine LOps.app0 tT_ok rfl rfl rfl rfl rfl rfl rfl rfl rfl rfl rfl ?_ (AppB.of ?_ rfl) ?_; (focus (first | exact Elems.of rfl | exact Elems.map fun _ => rfl | exact PE.els _ (fun _ => rfl) _)); (focus (first | omega | (simp <;> fail) | (simp; omega))))) | (refine kBin ?_; first | (refine LOps.ans (AnsL.add rfl rfl ?_) ?_; (focus (constructor <;> omega))) | (refine LOps.ans (AnsL.arith rfl rfl rfl) ?_)))
      | (refine kWL ?_; first | (refine WL.seq ?_) | (refine WL.region (by kernel_rfl) ?_) | (refine WL.block ?_) | (refine WL.exit ?_) | (refine WL.skip ?_) | (refine WL.ret ?_) | (refine kCond ?_; first | (refine WL.condT rfl ?_) | (refine WL.condF rfl ?_) | (refine WL.condT' rfl ?_ ?_; (focus (first | (assumption) | (exact decide_eq_true (by assumption)) | (exact decide_eq_false (by assumption)) | (simp only [decide_eq_true_eq, decide_eq_false_iff_not, Bool.not_eq_true', Bool.not_eq_false', Int.ofNat_lt, Int.ofNat_le, Int.ofNat_inj, not_true_eq_false, not_false_eq_true]; omega) | (simp <;> fail)))) | (refine WL.condF' rfl ?_ ?_; (focus (first | (assumption) | (exact decide_eq_true (by assumption)) | (exact decide_eq_false (by assumption)) | (simp only [decide_eq_true_eq, decide_eq_false_iff_not, Bool.not_eq_true', Bool.not_eq_false', Int.ofNat_lt, Int.ofNat_le, Int.ofNat_inj, not_true_eq_false, not_false_eq_true]; omega) | (simp <;> fail)))) | (refine WL.cond rfl (fun h => ?_) (fun h => ?_))))
      | (refine lthen_n ?_)
      | (refine lthen_r ?_)
      | (refine lthen_e ?_)
      | (refine lblock_n ?_)
      | (refine lblock_r ?_)
      | (refine lblock_e ?_)
      | (refine lblock_o rfl ?_)
      | (refine lback_r ?_)
      | (refine lback_e ?_)
      | (refine lbackD_r ?_)
      | (refine lbackD_e ?_)
      | (refine lbackH_r ?_)
      | (refine lbackH_e ?_)
      | (refine LPost.r1 (r := .tmp 4) (.inl rfl) (Res1.tmp rfl) ?_)
      | (refine PureR.mk ?_)
    obtain ⟨y, hy⟩ := byteV_conv x
    rw [hy] at hh ⊢
    refine lbackH.of (bs ++ [y], i, h) ?_ hh ?_ ⟨by simp; omega, hi⟩ (by simp; omega)
    · dsimp only
      rw [List.map_append]
      repeat' first | exact SubL.nil | (refine SubL.mk rfl ?_ ?_) | rfl | (simp <;> fail) | (simp; omega)
    · dsimp only
      rw [List.map_append]
      (repeat' first | (exact Sel.refl _) | (refine Sel.cons 0 rfl rfl ?_) | (refine Sel.cons 1 rfl rfl ?_) | (refine Sel.cons 2 rfl rfl ?_) | (refine Sel.cons 3 rfl rfl ?_) | (refine Sel.drop ?_))
  · skip
    repeat' first
      | (refine kBsl ?_ ; refine' LOps.bslH tT_ok rfl rfl rfl rfl rfl rfl rfl rfl hh ?_ ?_ ?_ ; rotate_left 2 ; (focus ((repeat' first | (exact ConsL.nil) | (exact ConsL.pls rfl rfl) | (exact Cons.pl rfl rfl) | (exact Cons.zsl) | (exact Cons.nilsl) | (refine' Cons.bp ?_; ((repeat' first | (exact Pick.here) | (refine' Pick.there ?_)); done)) | (refine' Cons.ap ?_; ((repeat' first | (exact Pick.here) | (refine' Pick.there ?_)); done)) | (exact Cons.blk 0 rfl rfl rfl) | (exact Cons.blk 1 rfl rfl rfl) | (exact Cons.blk 2 rfl rfl rfl) | (exact Cons.blk 3 rfl rfl rfl) | (exact Cons.pl (by assumption) (by assumption)) | (exact ConsL.pls (by assumption) (by assumption)) | (refine' ConsL.cons ?_ ?_) | (refine' Cons.agg ?_)); done)) ; (focus ((repeat' first | (exact ElsH.nil) | (exact ElsH.of rfl) | (exact ElsH.map fun _ => rfl) | (refine ElsH.c1 rfl ?_) | (refine ElsH.ct rfl rfl ?_)); done)) ; intro s n hh)
      | (refine kApp ?_ ; first | (refine' LOps.appF tT_ok 0 rfl rfl rfl rfl rfl rfl rfl rfl rfl rfl rfl hh ?_ (AppB.of ?_ rfl) ?_ ; (focus ((repeat' first | (exact Elems.nil) | (exact Elems.of rfl) | (exact Elems.map fun _ => rfl) | (exact PE.els _ (fun _ => rfl) _) | (refine Elems.c1 rfl ?_) | (refine Elems.ct rfl rfl ?_) | (refine' Elems.cg rfl ?_ ?_; (focus (repeat' first | (exact rfl) | (refine ones_cons (thw_one _ _ _) ?_) | (refine ones_cons rfl ?_))))); done)) ; (focus (first | omega | (simp <;> fail) | (simp ; omega))) ; intro s hh) | (refine' LOps.appF tT_ok 1 rfl rfl rfl rfl rfl rfl rfl rfl rfl rfl rfl hh ?_ (AppB.of ?_ rfl) ?_ ; (focus ((repeat' first | (exact Elems.nil) | (exact Elems.of rfl) | (exact Elems.map fun _ => rfl) | (exact PE.els _ (fun _ => rfl) _) | (refine Elems.c1 rfl ?_) | (refine Elems.ct rfl rfl ?_) | (refine' Elems.cg rfl ?_ ?_; (focus (repeat' first | (exact rfl) | (refine ones_cons (thw_one _ _ _) ?_) | (refine ones_cons rfl ?_))))); done)) ; (focus (first | omega | (simp <;> fail) | (simp ; omega))) ; intro s hh) | (refine' LOps.appF tT_ok 2 rfl rfl rfl rfl rfl rfl rfl rfl rfl rfl rfl hh ?_ (AppB.of ?_ rfl) ?_ ; (focus ((repeat' first | (exact Elems.nil) | (exact Elems.of rfl) | (exact Elems.map fun _ => rfl) | (exact PE.els _ (fun _ => rfl) _) | (refine Elems.c1 rfl ?_) | (refine Elems.ct rfl rfl ?_) | (refine' Elems.cg rfl ?_ ?_; (focus (repeat' first | (exact rfl) | (refine ones_cons (thw_one _ _ _) ?_) | (refine ones_cons rfl ?_))))); done)) ; (focus (first | omega | (simp <;> fail) | (simp ; omega))) ; intro s hh) | (refine' LOps.appF tT_ok 3 rfl rfl rfl rfl rfl rfl rfl rfl rfl rfl rfl hh ?_ (AppB.of ?_ rfl) ?_ ; (focus ((repeat' first | (exact Elems.nil) | (exact Elems.of rfl) | (exact Elems.map fun _ => rfl) | (exact PE.els _ (fun _ => rfl) _) | (refine Elems.c1 rfl ?_) | (refine Elems.ct rfl rfl ?_) | (refine' Elems.cg rfl ?_ ?_; (focus (repeat' first | (exact rfl) | (refine ones_cons (thw_one _ _ _) ?_) | (refine ones_cons rfl ?_))))); done)) ; (focus (first | omega | (simp <;> fail) | (simp ; omega))) ; intro s hh) | (refine' LOps.appF tT_ok 4 rfl rfl rfl rfl rfl rfl rfl rfl rfl rfl rfl hh ?_ (AppB.of ?_ rfl) ?_ ; (focus ((repeat' first | (exact Elems.nil) | (exact Elems.of rfl) | (exact Elems.map fun _ => rfl) | (exact PE.els _ (fun _ => rfl) _) | (refine Elems.c1 rfl ?_) | (refine Elems.ct rfl rfl ?_) | (refine' Elems.cg rfl ?_ ?_; (focus (repeat' first | (exact rfl) | (refine ones_cons (thw_one _ _ _) ?_) | (refine ones_cons rfl ?_))))); done)) ; (focus (first | omega | (simp <;> fail) | (simp ; omega))) ; intro s hh) | (refine' LOps.appF tT_ok 5 rfl rfl rfl rfl rfl rfl rfl rfl rfl rfl rfl hh ?_ (AppB.of ?_ rfl) ?_ ; (focus ((repeat' first | (exact Elems.nil) | (exact Elems.of rfl) | (exact Elems.map fun _ => rfl) | (exact PE.els _ (fun _ => rfl) _) | (refine Elems.c1 rfl ?_) | (refine Elems.ct rfl rfl ?_) | (refine' Elems.cg rfl ?_ ?_; (focus (repeat' first | (exact rfl) | (refine ones_cons (thw_one _ _ _) ?_) | (refine ones_cons rfl ?_))))); done)) ; (focus (first | omega | (simp <;> fail) | (simp ; omega))) ; intro s hh) | (refine' LOps.appF tT_ok 6 rfl rfl rfl rfl rfl rfl rfl rfl rfl rfl rfl hh ?_ (AppB.of ?_ rfl) ?_ ; (focus ((repeat' first | (exact Elems.nil) | (exact Elems.of rfl) | (exact Elems.map fun _ => rfl) | (exact PE.els _ (fun _ => rfl) _) | (refine Elems.c1 rfl ?_) | (refine Elems.ct rfl rfl ?_) | (refine' Elems.cg rfl ?_ ?_; (focus (repeat' first | (exact rfl) | (refine ones_cons (thw_one _ _ _) ?_) | (refine ones_cons rfl ?_))))); done)) ; (focus (first | omega | (simp <;> fail) | (simp ; omega))) ; intro s hh) | (refine' LOps.appF tT_ok 7 rfl rfl rfl rfl rfl rfl rfl rfl rfl rfl rfl hh ?_ (AppB.of ?_ rfl) ?_ ; (focus ((repeat' first | (exact Elems.nil) | (exact Elems.of rfl) | (exact Elems.map fun _ => rfl) | (exact PE.els _ (fun _ => rfl) _) | (refine Elems.c1 rfl ?_) | (refine Elems.ct rfl rfl ?_) | (refine' Elems.cg rfl ?_ ?_; (focus (repeat' first | (exact rfl) | (refine ones_cons (thw_one _ _ _) ?_) | (refine ones_cons rfl ?_))))); done)) ; (focus (first | omega | (simp <;> fail) | (simp ; omega))) ; intro s hh))
      | (refine kOps ?_; first | (refine LOps.nil ?_) | (refine LOps.ev tT_ok rfl ?_) | (refine kBsl ?_; first | (refine LOps.bsl0 tT_ok rfl rfl rfl rfl rfl ?_) | (refine LOps.bsl tT_ok rfl rfl rfl rfl rfl rfl rfl rfl rfl rfl rfl ?_)) | (refine kApp ?_; first | (refine LOps.app tT_ok rfl rfl rfl rfl rfl rfl rfl rfl rfl rfl rfl ?_ ?_ (AppB.of ?_ rfl) ?_; (focus (first | rfl | (simp <;> fail) | (simp; omega))); (focus (first | exact Elems.of rfl | exact Elems.map fun _ => rfl | exact PE.els _ (fun _ => rfl) _)); (focus (first | omega | (simp <;> fail) | (simp; omega)))) | (refine LOps.app0 tT_ok rfl rfl rfl rfl rfl rfl rfl rfl rfl rfl rfl ?_ (AppB.of ?_ rfl) ?_; (focus (first | exact Elems.of rfl | exact Elems.map fun _ => rfl | exact PE.els _ (fun _ => rfl) _)); (focus (first | omega | (simp <;> fail) | (simp; omega))))) | (refine kBin ?_; first | (refine LOps.ans (AnsL.add rfl rfl ?_) ?_; (focus (constructor <;> omega))) | (refine LOps.ans (AnsL.arith rfl rfl rfl) ?_)))
      | (refine kWL ?_; first | (refine WL.seq ?_) | (refine WL.region (by kernel_rfl) ?_) | (refine WL.block ?_) | (refine WL.exit ?_) | (refine WL.skip ?_) | (refine WL.ret ?_) | (refine kCond ?_; first | (refine WL.condT rfl ?_) | (refine WL.condF rfl ?_) | (refine WL.condT' rfl ?_ ?_; (focus (first | (assumption) | (exact decide_eq_true (by assumption)) | (exact decide_eq_false (by assumption)) | (simp only [decide_eq_true_eq, decide_eq_false_iff_not, Bool.not_eq_true', Bool.not_eq_false', Int.ofNat_lt, Int.ofNat_le, Int.ofNat_inj, not_true_eq_false, not_false_eq_true]; omega) | (simp <;> fail)))) | (refine WL.condF' rfl ?_ ?_; (focus (first | (assumption) | (exact decide_eq_true (by assumption)) | (exact decide_eq_false (by assumption)) | (simp only [decide_eq_true_eq, decide_eq_false_iff_not, Bool.not_eq_true', Bool.not_eq_false', Int.ofNat_lt, Int.ofNat_le, Int.ofNat_inj, not_true_eq_false, not_false_eq_true]; omega) | (simp <;> fail)))) | (refine WL.cond rfl (fun h => ?_) (fun h => ?_))))
      | (refine lthen_n ?_)
      | (refine lthen_r ?_)
      | (refine lthen_e ?_)
      | (refine lblock_n ?_)
      | (refine lblock_r ?_)
      | (refine lblock_e ?_)
      | (refine lblock_o rfl ?_)
      | (refine lback_r ?_)
      | (refine lback_e ?_)
      | (refine lbackD_r ?_)
      | (refine lbackD_e ?_)
      | (refine lbackH_r ?_)
      | (refine lbackH_e ?_)
      | (refine LPost.r1 (r := .tmp 4) (.inl rfl) (Res1.tmp rfl) ?_)
      | (refine PureR.mk ?_)
    apply Drw.fin (x := bs) (hh := hh)
    case hv => simp [V.forget, V.forgetL_eq, byteV]
    case hp => omega
    case hi => exact hi
    case hs => exact Sel.drop (Sel.refl _)
theorem specDrawFlip_d {b : V} (hb : Bytes b) : DrwAll Try.prog 12 b (fun x : List UInt8 × Int × Int => V.tup [.str x.1, .int .i64 x.2.1, .int .i64 x.2.2]) (fun x => x.1.length ≤ 11) := by
  intro s H hh
  refine LCalls.body0 Try.func12 rfl (by kernel_rfl) ?_
  repeat' first
    | (refine kBsl ?_ ; refine' LOps.bslH tT_ok rfl rfl rfl rfl rfl rfl rfl rfl hh ?_ ?_ ?_ ; rotate_left 2 ; (focus ((repeat' first | (exact ConsL.nil) | (exact ConsL.pls rfl rfl) | (exact Cons.pl rfl rfl) | (exact Cons.zsl) | (exact Cons.nilsl) | (refine' Cons.bp ?_; ((repeat' first | (exact Pick.here) | (refine' Pick.there ?_)); done)) | (refine' Cons.ap ?_; ((repeat' first | (exact Pick.here) | (refine' Pick.there ?_)); done)) | (exact Cons.blk 0 rfl rfl rfl) | (exact Cons.blk 1 rfl rfl rfl) | (exact Cons.blk 2 rfl rfl rfl) | (exact Cons.blk 3 rfl rfl rfl) | (exact Cons.pl (by assumption) (by assumption)) | (exact ConsL.pls (by assumption) (by assumption)) | (refine' ConsL.cons ?_ ?_) | (refine' Cons.agg ?_)); done)) ; (focus ((repeat' first | (exact ElsH.nil) | (exact ElsH.of rfl) | (exact ElsH.map fun _ => rfl) | (refine ElsH.c1 rfl ?_) | (refine ElsH.ct rfl rfl ?_)); done)) ; intro s n hh)
    | (refine kCallN 53 ?_ ; refine LOps.drawNew rfl rfl ok53 hh (specl1New_d hb) ?_ ; intro s m h hh)
    | (refine kCallN 55 ?_ ; first | (refine LOps.drawH 0 rfl rfl ok55 hh rfl rfl ?_ (specl1Below_d hb (by omega)) ?_ ; (focus (first | assumption | omega)) ; intro s x i h hq hi hh ; try dsimp only) | (refine LOps.drawH 1 rfl rfl ok55 hh rfl rfl ?_ (specl1Below_d hb (by omega)) ?_ ; (focus (first | assumption | omega)) ; intro s x i h hq hi hh ; try dsimp only) | (refine LOps.drawH 2 rfl rfl ok55 hh rfl rfl ?_ (specl1Below_d hb (by omega)) ?_ ; (focus (first | assumption | omega)) ; intro s x i h hq hi hh ; try dsimp only) | (refine LOps.drawH 3 rfl rfl ok55 hh rfl rfl ?_ (specl1Below_d hb (by omega)) ?_ ; (focus (first | assumption | omega)) ; intro s x i h hq hi hh ; try dsimp only) | (refine LOps.drawH 4 rfl rfl ok55 hh rfl rfl ?_ (specl1Below_d hb (by omega)) ?_ ; (focus (first | assumption | omega)) ; intro s x i h hq hi hh ; try dsimp only) | (refine LOps.drawH 5 rfl rfl ok55 hh rfl rfl ?_ (specl1Below_d hb (by omega)) ?_ ; (focus (first | assumption | omega)) ; intro s x i h hq hi hh ; try dsimp only) | (refine LOps.drawH 6 rfl rfl ok55 hh rfl rfl ?_ (specl1Below_d hb (by omega)) ?_ ; (focus (first | assumption | omega)) ; intro s x i h hq hi hh ; try dsimp only) | (refine LOps.drawH 7 rfl rfl ok55 hh rfl rfl ?_ (specl1Below_d hb (by omega)) ?_ ; (focus (first | assumption | omega)) ; intro s x i h hq hi hh ; try dsimp only))
    | (refine kOps ?_; first | (refine LOps.nil ?_) | (refine LOps.ev tT_ok rfl ?_) | (refine kBsl ?_; first | (refine LOps.bsl0 tT_ok rfl rfl rfl rfl rfl ?_) | (refine LOps.bsl tT_ok rfl rfl rfl rfl rfl rfl rfl rfl rfl rfl rfl ?_)) | (refine kLen ?_; first | (refine LOps.ans (AnsL.lenM tT_ok rfl rfl rfl) ?_) | (refine LOps.ans (AnsL.lenS tT_ok rfl rfl rfl rfl) ?_) | (refine LOps.ans (AnsL.lenG tT_ok rfl rfl rfl) ?_)) | (refine kBin ?_; first | (refine LOps.ans (AnsL.mul rfl rfl ?_) ?_; (focus (constructor <;> omega))) | (refine LOps.ans (AnsL.arith rfl rfl rfl) ?_)))
    | (refine kWL ?_; first | (refine WL.seq ?_) | (refine WL.region (by kernel_rfl) ?_) | (refine WL.skip ?_) | (refine WL.ret ?_) | (refine kCond ?_; first | (refine WL.condT rfl ?_) | (refine WL.condF rfl ?_) | (refine WL.condT' rfl ?_ ?_; (focus (first | (assumption) | (exact decide_eq_true (by assumption)) | (exact decide_eq_false (by assumption)) | (simp only [decide_eq_true_eq, decide_eq_false_iff_not, Bool.not_eq_true', Bool.not_eq_false', Int.ofNat_lt, Int.ofNat_le, Int.ofNat_inj, not_true_eq_false, not_false_eq_true]; omega) | (simp <;> fail)))) | (refine WL.condF' rfl ?_ ?_; (focus (first | (assumption) | (exact decide_eq_true (by assumption)) | (exact decide_eq_false (by assumption)) | (simp only [decide_eq_true_eq, decide_eq_false_iff_not, Bool.not_eq_true', Bool.not_eq_false', Int.ofNat_lt, Int.ofNat_le, Int.ofNat_inj, not_true_eq_false, not_false_eq_true]; omega) | (simp <;> fail)))) | (refine WL.cond rfl (fun h => ?_) (fun h => ?_))))
    | (refine lthen_n ?_)
    | (refine lthen_r ?_)
    | (refine lback_r ?_)
    | (refine lback_e ?_)
    | (refine lbackD_r ?_)
    | (refine lbackD_e ?_)
    | (refine lbackH_r ?_)
    | (refine lbackH_e ?_)
    | (refine LPost.r3 (r := .tmp 2) (r' := .tmp 3) (r'' := .tmp 4) (.inl rfl) (Res1.tmp rfl) (Res1.tmp rfl) (Res1.tmp rfl) ?_)
    | (refine PureR.mk ?_)
  obtain ⟨n, rfl⟩ := Int.eq_ofNat_of_zero_le hq.1
  repeat' first
    | (refine kBsl ?_ ; refine' LOps.bslH tT_ok rfl rfl rfl rfl rfl rfl rfl rfl hh ?_ ?_ ?_ ; rotate_left 2 ; (focus ((repeat' first | (exact ConsL.nil) | (exact ConsL.pls rfl rfl) | (exact Cons.pl rfl rfl) | (exact Cons.zsl) | (exact Cons.nilsl) | (refine' Cons.bp ?_; ((repeat' first | (exact Pick.here) | (refine' Pick.there ?_)); done)) | (refine' Cons.ap ?_; ((repeat' first | (exact Pick.here) | (refine' Pick.there ?_)); done)) | (exact Cons.blk 0 rfl rfl rfl) | (exact Cons.blk 1 rfl rfl rfl) | (exact Cons.blk 2 rfl rfl rfl) | (exact Cons.blk 3 rfl rfl rfl) | (exact Cons.pl (by assumption) (by assumption)) | (exact ConsL.pls (by assumption) (by assumption)) | (refine' ConsL.cons ?_ ?_) | (refine' Cons.agg ?_)); done)) ; (focus ((repeat' first | (exact ElsH.nil) | (exact ElsH.of rfl) | (exact ElsH.map fun _ => rfl) | (refine ElsH.c1 rfl ?_) | (refine ElsH.ct rfl rfl ?_)); done)) ; intro s n hh)
    | (refine kCallN 54 ?_ ; first | (refine LOps.drawH 0 rfl rfl ok54 hh rfl rfl ?_ (specl1Bytes_d hb (n := n) (by omega)) ?_ ; (focus (first | assumption | omega)) ; intro s x i h hq hi hh ; try dsimp only) | (refine LOps.drawH 1 rfl rfl ok54 hh rfl rfl ?_ (specl1Bytes_d hb (n := n) (by omega)) ?_ ; (focus (first | assumption | omega)) ; intro s x i h hq hi hh ; try dsimp only) | (refine LOps.drawH 2 rfl rfl ok54 hh rfl rfl ?_ (specl1Bytes_d hb (n := n) (by omega)) ?_ ; (focus (first | assumption | omega)) ; intro s x i h hq hi hh ; try dsimp only) | (refine LOps.drawH 3 rfl rfl ok54 hh rfl rfl ?_ (specl1Bytes_d hb (n := n) (by omega)) ?_ ; (focus (first | assumption | omega)) ; intro s x i h hq hi hh ; try dsimp only) | (refine LOps.drawH 4 rfl rfl ok54 hh rfl rfl ?_ (specl1Bytes_d hb (n := n) (by omega)) ?_ ; (focus (first | assumption | omega)) ; intro s x i h hq hi hh ; try dsimp only) | (refine LOps.drawH 5 rfl rfl ok54 hh rfl rfl ?_ (specl1Bytes_d hb (n := n) (by omega)) ?_ ; (focus (first | assumption | omega)) ; intro s x i h hq hi hh ; try dsimp only) | (refine LOps.drawH 6 rfl rfl ok54 hh rfl rfl ?_ (specl1Bytes_d hb (n := n) (by omega)) ?_ ; (focus (first | assumption | omega)) ; intro s x i h hq hi hh ; try dsimp only) | (refine LOps.drawH 7 rfl rfl ok54 hh rfl rfl ?_ (specl1Bytes_d hb (n := n) (by omega)) ?_ ; (focus (first | assumption | omega)) ; intro s x i h hq hi hh ; try dsimp only))
    | (refine kCallN 56 ?_ ; first | (refine LOps.drawH 0 rfl rfl ok56 hh rfl rfl ?_ (specl1PickInt_d hb rfl (by simp)) ?_ ; (focus (first | assumption | omega)) ; intro s x i h hq hi hh ; try dsimp only) | (refine LOps.drawH 1 rfl rfl ok56 hh rfl rfl ?_ (specl1PickInt_d hb rfl (by simp)) ?_ ; (focus (first | assumption | omega)) ; intro s x i h hq hi hh ; try dsimp only) | (refine LOps.drawH 2 rfl rfl ok56 hh rfl rfl ?_ (specl1PickInt_d hb rfl (by simp)) ?_ ; (focus (first | assumption | omega)) ; intro s x i h hq hi hh ; try dsimp only) | (refine LOps.drawH 3 rfl rfl ok56 hh rfl rfl ?_ (specl1PickInt_d hb rfl (by simp)) ?_ ; (focus (first | assumption | omega)) ; intro s x i h hq hi hh ; try dsimp only) | (refine LOps.drawH 4 rfl rfl ok56 hh rfl rfl ?_ (specl1PickInt_d hb rfl (by simp)) ?_ ; (focus (first | assumption | omega)) ; intro s x i h hq hi hh ; try dsimp only) | (refine LOps.drawH 5 rfl rfl ok56 hh rfl rfl ?_ (specl1PickInt_d hb rfl (by simp)) ?_ ; (focus (first | assumption | omega)) ; intro s x i h hq hi hh ; try dsimp only) | (refine LOps.drawH 6 rfl rfl ok56 hh rfl rfl ?_ (specl1PickInt_d hb rfl (by simp)) ?_ ; (focus (first | assumption | omega)) ; intro s x i h hq hi hh ; try dsimp only) | (refine LOps.drawH 7 rfl rfl ok56 hh rfl rfl ?_ (specl1PickInt_d hb rfl (by simp)) ?_ ; (focus (first | assumption | omega)) ; intro s x i h hq hi hh ; try dsimp only))
    | (refine kCallN 57 ?_ ; first | (refine LOps.drawH 0 rfl rfl ok57 hh rfl rfl ?_ (specl1Whole_d hb) ?_ ; (focus (first | assumption | omega)) ; intro s x i h hq hi hh ; try dsimp only) | (refine LOps.drawH 1 rfl rfl ok57 hh rfl rfl ?_ (specl1Whole_d hb) ?_ ; (focus (first | assumption | omega)) ; intro s x i h hq hi hh ; try dsimp only) | (refine LOps.drawH 2 rfl rfl ok57 hh rfl rfl ?_ (specl1Whole_d hb) ?_ ; (focus (first | assumption | omega)) ; intro s x i h hq hi hh ; try dsimp only) | (refine LOps.drawH 3 rfl rfl ok57 hh rfl rfl ?_ (specl1Whole_d hb) ?_ ; (focus (first | assumption | omega)) ; intro s x i h hq hi hh ; try dsimp only) | (refine LOps.drawH 4 rfl rfl ok57 hh rfl rfl ?_ (specl1Whole_d hb) ?_ ; (focus (first | assumption | omega)) ; intro s x i h hq hi hh ; try dsimp only) | (refine LOps.drawH 5 rfl rfl ok57 hh rfl rfl ?_ (specl1Whole_d hb) ?_ ; (focus (first | assumption | omega)) ; intro s x i h hq hi hh ; try dsimp only) | (refine LOps.drawH 6 rfl rfl ok57 hh rfl rfl ?_ (specl1Whole_d hb) ?_ ; (focus (first | assumption | omega)) ; intro s x i h hq hi hh ; try dsimp only) | (refine LOps.drawH 7 rfl rfl ok57 hh rfl rfl ?_ (specl1Whole_d hb) ?_ ; (focus (first | assumption | omega)) ; intro s x i h hq hi hh ; try dsimp only))
    | (refine LOps.ans (AnsL.toStr tT_ok rfl rfl rfl rfl rfl rfl rfl rfl (vbytes_byteV _)) ?_)
    | (refine kOps ?_; first | (refine LOps.nil ?_) | (refine LOps.ev tT_ok rfl ?_) | (refine kBsl ?_; first | (refine LOps.bsl0 tT_ok rfl rfl rfl rfl rfl ?_) | (refine LOps.bsl tT_ok rfl rfl rfl rfl rfl rfl rfl rfl rfl rfl rfl ?_)) | (refine kLen ?_; first | (refine LOps.ans (AnsL.lenM tT_ok rfl rfl rfl) ?_) | (refine LOps.ans (AnsL.lenS tT_ok rfl rfl rfl rfl) ?_) | (refine LOps.ans (AnsL.lenG tT_ok rfl rfl rfl) ?_)) | (refine kBin ?_; first | (refine LOps.ans (AnsL.mul rfl rfl ?_) ?_; (focus (constructor <;> omega))) | (refine LOps.ans (AnsL.arith rfl rfl rfl) ?_)))
    | (refine kWL ?_; first | (refine WL.seq ?_) | (refine WL.region (by kernel_rfl) ?_) | (refine WL.skip ?_) | (refine WL.ret ?_) | (refine kCond ?_; first | (refine WL.condT rfl ?_) | (refine WL.condF rfl ?_) | (refine WL.condT' rfl ?_ ?_; (focus (first | (assumption) | (exact decide_eq_true (by assumption)) | (exact decide_eq_false (by assumption)) | (simp only [decide_eq_true_eq, decide_eq_false_iff_not, Bool.not_eq_true', Bool.not_eq_false', Int.ofNat_lt, Int.ofNat_le, Int.ofNat_inj, not_true_eq_false, not_false_eq_true]; omega) | (simp <;> fail)))) | (refine WL.condF' rfl ?_ ?_; (focus (first | (assumption) | (exact decide_eq_true (by assumption)) | (exact decide_eq_false (by assumption)) | (simp only [decide_eq_true_eq, decide_eq_false_iff_not, Bool.not_eq_true', Bool.not_eq_false', Int.ofNat_lt, Int.ofNat_le, Int.ofNat_inj, not_true_eq_false, not_false_eq_true]; omega) | (simp <;> fail)))) | (refine WL.cond rfl (fun h => ?_) (fun h => ?_))))
    | (refine lthen_n ?_)
    | (refine lthen_r ?_)
    | (refine lback_r ?_)
    | (refine lback_e ?_)
    | (refine lbackD_r ?_)
    | (refine lbackD_e ?_)
    | (refine lbackH_r ?_)
    | (refine lbackH_e ?_)
    | (refine LPost.r3 (r := .tmp 2) (r' := .tmp 3) (r'' := .tmp 4) (.inl rfl) (Res1.tmp rfl) (Res1.tmp rfl) (Res1.tmp rfl) ?_)
    | (refine PureR.mk ?_)
  rename_i s2 bs i1 h1 q1 p1 g1 s1 g2 s3 x3 i3 h3 q3 p3 g3
  exact DrwAll.fin (x := (bs, x3, x)) (by dsimp only; omega) rfl hh (by repeat' first | (exact Sel.refl _) | (refine Sel.drop ?_))
theorem lawFlipBackL_v {b : V} (hb : Bytes b) (s : S) : VCalls Try.prog 3 [b] s (fun v _ => v = .bool true) := by
  obtain ⟨c, hbig⟩ := big_v hb
  have hh : Hold s s.next [] := .start _ _
  refine LCalls.body Try.func3 rfl (by kernel_rfl) ?_
  cases c
  · skip
    repeat' first
      | (refine kCallN 12 ?_ ; refine LOps.drawAll rfl rfl ok12 hh (specDrawFlip_d hb) ?_ ; intro s x hq hh)
      | (refine kOps ?_; first | (refine LOps.nil ?_) | (refine kG ?_; first | (refine LOps.gT rfl rfl rfl ?_) | (refine LOps.gF rfl rfl rfl ?_) | (refine LOps.gU rfl rfl ?_) | (refine LOps.gFN rfl rfl rfl ?_) | (refine LOps.gD true rfl rfl rfl ?_ ?_; (focus (first | (assumption) | (exact decide_eq_true (by assumption)) | (exact decide_eq_false (by assumption)) | (simp only [decide_eq_true_eq, decide_eq_false_iff_not, Bool.not_eq_true', Bool.not_eq_false', Int.ofNat_lt, Int.ofNat_le, Int.ofNat_inj, not_true_eq_false, not_false_eq_true]; omega) | (simp <;> fail)))) | (refine LOps.gD false rfl rfl rfl ?_ ?_; (focus (first | (assumption) | (exact decide_eq_true (by assumption)) | (exact decide_eq_false (by assumption)) | (simp only [decide_eq_true_eq, decide_eq_false_iff_not, Bool.not_eq_true', Bool.not_eq_false', Int.ofNat_lt, Int.ofNat_le, Int.ofNat_inj, not_true_eq_false, not_false_eq_true]; omega) | (simp <;> fail)))) | (refine LOps.gC rfl rfl rfl (fun h => ?_) (fun h => ?_))) | (refine LOps.ev tT_ok rfl ?_) | (refine kCallN 11 ?_; first | (refine LOps.ans (AnsL.callP rfl rfl rfl (ok11) (hbig _)) ?_)))
      | (refine kWL ?_; first | (refine WL.seq ?_) | (refine WL.region (by kernel_rfl) ?_) | (refine WL.skip ?_) | (refine WL.ret ?_) | (refine kCond ?_; first | (refine WL.condT rfl ?_) | (refine WL.condF rfl ?_) | (refine WL.condT' rfl ?_ ?_; (focus (first | (assumption) | (exact decide_eq_true (by assumption)) | (exact decide_eq_false (by assumption)) | (simp only [decide_eq_true_eq, decide_eq_false_iff_not, Bool.not_eq_true', Bool.not_eq_false', Int.ofNat_lt, Int.ofNat_le, Int.ofNat_inj, not_true_eq_false, not_false_eq_true]; omega) | (simp <;> fail)))) | (refine WL.condF' rfl ?_ ?_; (focus (first | (assumption) | (exact decide_eq_true (by assumption)) | (exact decide_eq_false (by assumption)) | (simp only [decide_eq_true_eq, decide_eq_false_iff_not, Bool.not_eq_true', Bool.not_eq_false', Int.ofNat_lt, Int.ofNat_le, Int.ofNat_inj, not_true_eq_false, not_false_eq_true]; omega) | (simp <;> fail)))) | (refine WL.cond rfl (fun h => ?_) (fun h => ?_))))
      | (refine lthen_n ?_)
      | (refine lthen_r ?_)
      | (refine lback_r ?_)
      | (refine lback_e ?_)
      | (refine lbackD_r ?_)
      | (refine lbackD_e ?_)
      | (refine lbackH_r ?_)
      | (refine lbackH_e ?_)
      | (refine LPost.r1 (r := .tmp 2) (.inl rfl) (Res1.tmp rfl) ?_)
      | (refine PureR.mk ?_)
    obtain ⟨bs, p, bits⟩ := x
    have h1 := fun t => implFlip_v bs p bits (by dsimp only at hq; omega) t
    have h2 := fun t => specFlip_v bs p bits (by dsimp only at hq; omega) t
    have h3 := fun t => implFlip_v (flip bs p bits) p bits (by rw [flip_len]; dsimp only at hq; omega) t
    rw [flip_twice] at h3
    generalize flip bs p bits = f at h1 h2 h3
    repeat' first
      | (refine kOps ?_; first | (refine LOps.nil ?_) | (refine kG ?_; first | (refine LOps.gT rfl rfl rfl ?_) | (refine LOps.gF rfl rfl rfl ?_) | (refine LOps.gU rfl rfl ?_) | (refine LOps.gFN rfl rfl rfl ?_) | (refine LOps.gD true rfl rfl rfl ?_ ?_; (focus (first | (assumption) | (exact decide_eq_true (by assumption)) | (exact decide_eq_false (by assumption)) | (simp only [decide_eq_true_eq, decide_eq_false_iff_not, Bool.not_eq_true', Bool.not_eq_false', Int.ofNat_lt, Int.ofNat_le, Int.ofNat_inj, not_true_eq_false, not_false_eq_true]; omega) | (simp <;> fail)))) | (refine LOps.gD false rfl rfl rfl ?_ ?_; (focus (first | (assumption) | (exact decide_eq_true (by assumption)) | (exact decide_eq_false (by assumption)) | (simp only [decide_eq_true_eq, decide_eq_false_iff_not, Bool.not_eq_true', Bool.not_eq_false', Int.ofNat_lt, Int.ofNat_le, Int.ofNat_inj, not_true_eq_false, not_false_eq_true]; omega) | (simp <;> fail)))) | (refine LOps.gC rfl rfl rfl (fun h => ?_) (fun h => ?_))) | (refine LOps.ev tT_ok rfl ?_) | (refine kCallN 13 ?_; first | (refine LOps.ans (AnsL.callP rfl rfl rfl (ok13) (h1 _)) ?_) | (refine LOps.ans (AnsL.callP rfl rfl rfl (ok13) (h3 _)) ?_)) | (refine kCallN 14 ?_; first | (refine LOps.ans (AnsL.callP rfl rfl rfl (ok14) (h2 _)) ?_)))
      | (refine kWL ?_; first | (refine WL.seq ?_) | (refine WL.region (by kernel_rfl) ?_) | (refine WL.skip ?_) | (refine WL.ret ?_) | (refine kCond ?_; first | (refine WL.condT rfl ?_) | (refine WL.condF rfl ?_) | (refine WL.condT' rfl ?_ ?_; (focus (first | (assumption) | (exact decide_eq_true (by assumption)) | (exact decide_eq_false (by assumption)) | (simp only [decide_eq_true_eq, decide_eq_false_iff_not, Bool.not_eq_true', Bool.not_eq_false', Int.ofNat_lt, Int.ofNat_le, Int.ofNat_inj, not_true_eq_false, not_false_eq_true]; omega) | (simp <;> fail)))) | (refine WL.condF' rfl ?_ ?_; (focus (first | (assumption) | (exact decide_eq_true (by assumption)) | (exact decide_eq_false (by assumption)) | (simp only [decide_eq_true_eq, decide_eq_false_iff_not, Bool.not_eq_true', Bool.not_eq_false', Int.ofNat_lt, Int.ofNat_le, Int.ofNat_inj, not_true_eq_false, not_false_eq_true]; omega) | (simp <;> fail)))) | (refine WL.cond rfl (fun h => ?_) (fun h => ?_))))
      | (refine lthen_n ?_)
      | (refine lthen_r ?_)
      | (refine lback_r ?_)
      | (refine lback_e ?_)
      | (refine lbackD_r ?_)
      | (refine lbackD_e ?_)
      | (refine lbackH_r ?_)
      | (refine lbackH_e ?_)
      | (refine LPost.r1 (r := .tmp 2) (.inl rfl) (Res1.tmp rfl) ?_)
      | (refine PureR.mk ?_)
    simp
  · skip
    repeat' first
      | (refine kOps ?_; first | (refine LOps.nil ?_) | (refine kG ?_; first | (refine LOps.gT rfl rfl rfl ?_) | (refine LOps.gF rfl rfl rfl ?_) | (refine LOps.gU rfl rfl ?_) | (refine LOps.gFN rfl rfl rfl ?_) | (refine LOps.gD true rfl rfl rfl ?_ ?_; (focus (first | (assumption) | (exact decide_eq_true (by assumption)) | (exact decide_eq_false (by assumption)) | (simp only [decide_eq_true_eq, decide_eq_false_iff_not, Bool.not_eq_true', Bool.not_eq_false', Int.ofNat_lt, Int.ofNat_le, Int.ofNat_inj, not_true_eq_false, not_false_eq_true]; omega) | (simp <;> fail)))) | (refine LOps.gD false rfl rfl rfl ?_ ?_; (focus (first | (assumption) | (exact decide_eq_true (by assumption)) | (exact decide_eq_false (by assumption)) | (simp only [decide_eq_true_eq, decide_eq_false_iff_not, Bool.not_eq_true', Bool.not_eq_false', Int.ofNat_lt, Int.ofNat_le, Int.ofNat_inj, not_true_eq_false, not_false_eq_true]; omega) | (simp <;> fail)))) | (refine LOps.gC rfl rfl rfl (fun h => ?_) (fun h => ?_))) | (refine LOps.ev tT_ok rfl ?_) | (refine kCallN 11 ?_; first | (refine LOps.ans (AnsL.callP rfl rfl rfl (ok11) (hbig _)) ?_)))
      | (refine kWL ?_; first | (refine WL.seq ?_) | (refine WL.region (by kernel_rfl) ?_) | (refine WL.skip ?_) | (refine WL.ret ?_) | (refine kCond ?_; first | (refine WL.condT rfl ?_) | (refine WL.condF rfl ?_) | (refine WL.condT' rfl ?_ ?_; (focus (first | (assumption) | (exact decide_eq_true (by assumption)) | (exact decide_eq_false (by assumption)) | (simp only [decide_eq_true_eq, decide_eq_false_iff_not, Bool.not_eq_true', Bool.not_eq_false', Int.ofNat_lt, Int.ofNat_le, Int.ofNat_inj, not_true_eq_false, not_false_eq_true]; omega) | (simp <;> fail)))) | (refine WL.condF' rfl ?_ ?_; (focus (first | (assumption) | (exact decide_eq_true (by assumption)) | (exact decide_eq_false (by assumption)) | (simp only [decide_eq_true_eq, decide_eq_false_iff_not, Bool.not_eq_true', Bool.not_eq_false', Int.ofNat_lt, Int.ofNat_le, Int.ofNat_inj, not_true_eq_false, not_false_eq_true]; omega) | (simp <;> fail)))) | (refine WL.cond rfl (fun h => ?_) (fun h => ?_))))
      | (refine lthen_n ?_)
      | (refine lthen_r ?_)
      | (refine lback_r ?_)
      | (refine lback_e ?_)
      | (refine lbackD_r ?_)
      | (refine lbackD_e ?_)
      | (refine lbackH_r ?_)
      | (refine lbackH_e ?_)
      | (refine LPost.r1 (r := .tmp 2) (.inl rfl) (Res1.tmp rfl) ?_)
      | (refine PureR.mk ?_)
    rfl

end Go.Proofs.Ytehmlklfbllgcaa
