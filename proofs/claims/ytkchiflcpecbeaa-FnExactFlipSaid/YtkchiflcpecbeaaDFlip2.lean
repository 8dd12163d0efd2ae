/-
  Flip of the program, at the value level, and the law. Own work; no condition.
-/
import Derived.Test.YtkchiflcpecbeaaDFlip
namespace Go.Proofs.Ytkchiflcpecbeaa
open Go
set_option linter.unusedSimpArgs false
set_option maxHeartbeats 8000000

theorem flips_out {b : List UInt8} {a : Nat} {bits : Int} (h : 8 * b.length ≤ a) : ∀ k, flips b a bits k = b
  | 0 => rfl
  | k + 1 => by
    have h1 : ¬ a + k < 8 * b.length := by omega
    rw [flips, flips_out h k]
    simp [flipAt, h1]

theorem implFlip_v (b : List UInt8) (p bits : Int) (hb : b.length ≤ 1048576) (s : S) : VCalls Try.prog 14 [.str b, .int .i64 p, .int .i64 bits] s (fun v s' => v = .str (flip b p bits) ∧ s' = s) := by
  refine VCalls.pureE Try.func14 rfl (by simp [Try.ntmps14]) (by simp) ?_
  rw [Try.ntmps14, Try.results14]
  have w0 : IntKind.i64.wrap (8 * (b.length : Int)) = 8 * b.length := by rw [IntKind.wrap_i64]; omega
  by_cases hp : p < 0
  · have : flip b p bits = b := by simp [flip, hp]
    repeat' first
      | (refine hK _ _ ?_; clear hK K)
      | (refine VWp.seqK fun K hK => ?_)
      | (refine VWp.region ?_; simp [hp])
      | (refine VWp.ret ?_)
      | (refine VWp.block ?_)
      | (refine VWp.skip ?_; simp only [vthen, vinBlock])
      | (refine VWp.exit ?_; simp only [vthen, vinBlock, if_true])
      | (apply VWp.condT; focus (simp [hp]; done))
      | (apply VWp.condF; focus (simp [hp]; done))
    simp [this]
    exact ⟨_, rfl⟩
  obtain ⟨a, rfl⟩ := Int.eq_ofNat_of_zero_le (Int.not_lt.1 hp)
  cases hq : decide (8 * (b.length : Int) ≤ a)
  case true =>
    have : flip b a bits = b := by unfold flip; rw [if_neg hp]; exact flips_out (by simp at hq; omega) 32
    repeat' first
      | (refine hK _ _ ?_; clear hK K)
      | (refine VWp.seqK fun K hK => ?_)
      | (refine VWp.region ?_; simp [w0, hq])
      | (refine VWp.ret ?_)
      | (refine VWp.block ?_)
      | (refine VWp.skip ?_; simp only [vthen, vinBlock])
      | (refine VWp.exit ?_; simp only [vthen, vinBlock, if_true])
      | (apply VWp.condT; focus (simp [w0, hq]; done))
      | (apply VWp.condF; focus (simp [w0, hq]; done))
    simp [this]
    exact ⟨_, rfl⟩
  have hq2 : a < 8 * b.length := by simp at hq; omega
  refine VWp.seqK fun K hK => VWp.region ?_; simp; refine hK _ _ ?_; clear hK K
  refine VWp.seqK fun K hK => VWp.region ?_; simp; refine hK _ _ ?_; clear hK K
  refine VWp.seqK fun K hK => ?_
  refine VWp.seqK fun K2 hK2 => VWp.region ?_; simp [w0, hq]; refine hK2 _ _ ?_; clear hK2 K2
  apply VWp.condF; focus (simp; done)
  refine VWp.skip ?_; simp only [vthen]; refine hK _ _ ?_; clear hK K
  refine VWp.seqK fun K hK => ?_
  refine VWp.seqK fun K2 hK2 => VWp.region ?_; simp; refine hK2 _ _ ?_; clear hK2 K2
  refine VWp.block (VWp.loop (fun n σ t => ∃ k : Nat, n = 32 - k ∧ k ≤ 32 ∧ σ 1 = .int .i64 a ∧ σ 2 = .int .i64 bits ∧ σ 7 = .slm false s.next 0 b.length ∧ σ 22 = .int .i64 k ∧ t = s.ext [.var (byteL (flips b a bits k))]) 32 ⟨0, by simp, by simp, by simp, by simp, by simp, by simp, by simp [byteL, flips]⟩ ?_)
  rintro n σ t ⟨k, rfl, hk, h1, h2, h7, h8, rfl⟩
  refine VWp.seqK fun K1 hK1 => VWp.region ?_; simp [h1, h2, h7, h8]; refine hK1 _ _ ?_; clear hK1 K1
  refine VWp.seqK fun K1 hK1 => ?_
  refine VWp.cond (b := decide ((k : Int) < 32)) (by simp) (fun hlt => ?_) (fun hge => ?_)
  · have hlt : k < 32 := by have := of_decide_eq_true hlt; omega
    refine VWp.skip ?_; simp only [vthen]; refine hK1 _ _ ?_; clear hK1 K1
    have c1 : IntKind.u64.wrap (k : Int) = k := by rw [IntKind.wrap_u64]; omega
    have w1 : IntKind.i64.wrap (8 * (b.length : Int)) = 8 * b.length := by rw [IntKind.wrap_i64]; omega
    have w2 : IntKind.i64.wrap (8 * (b.length : Int) - k) = 8 * b.length - k := by rw [IntKind.wrap_i64]; omega
    have w4 : IntKind.i64.wrap ((k : Int) + 1) = (k : Int) + 1 := wrap_succ (by omega)
    refine VWp.seqK fun K1 hK1 => VWp.block ?_
    cases hb1 : bitOn bits k
    case false =>
      have hb2 : decide (band (bits.fdiv (2 ^ (min k IntKind.i64.bits))) 1 = 1) = false := hb1
      have w3 : IntKind.i64.wrap ((a : Int) + k) = (a : Int) + k := by rw [IntKind.wrap_i64]; omega
      repeat' first
        | (refine hK _ _ ?_; clear hK K)
        | (refine VWp.seqK fun K hK => ?_)
        | (refine VWp.region ?_; simp [h1, h2, h7, h8, c1, w1, w2, w3, w4, vbits_and, hb2])
        | (refine VWp.ret ?_)
        | (refine VWp.block ?_)
        | (refine VWp.skip ?_; simp only [vthen, vinBlock])
        | (refine VWp.exit ?_; simp only [vthen, vinBlock, if_true])
        | (apply VWp.condT; focus (simp [h1, h2, h7, h8, c1, w1, w2, w3, w4, vbits_and, hb2]; done))
        | (apply VWp.condF; focus (simp [h1, h2, h7, h8, c1, w1, w2, w3, w4, vbits_and, hb2]; done))
      refine hK1 _ _ ?_; clear hK1 K1
      refine VWp.region ?_; simp [h1, h2, h7, h8, w4]
      exact ⟨32 - (k + 1), by omega, k + 1, by omega, by omega, by simp, by rw [flips, flipAt, hb1, if_neg (by simp)]⟩
    case true =>
      have hb2 : decide (band (bits.fdiv (2 ^ (min k IntKind.i64.bits))) 1 = 1) = true := hb1
      have hL : (flips b a bits k).length = b.length := flips_length b a bits k
      have w3 : IntKind.i64.wrap ((a : Int) + k) = ((a + k : Nat) : Int) := by rw [IntKind.wrap_i64]; omega
      generalize hm : a + k = m at *
      cases c5 : decide ((m : Int) < 8 * b.length)
      case false =>
        have c6 : ¬ m < 8 * (flips b a bits k).length := by simp at c5; omega
        repeat' first
          | (refine hK _ _ ?_; clear hK K)
          | (refine VWp.seqK fun K hK => ?_)
          | (refine VWp.region ?_; simp [h1, h2, h7, h8, c1, w1, w2, w3, w4, vbits_and, hb2, c5])
          | (refine VWp.ret ?_)
          | (refine VWp.block ?_)
          | (refine VWp.skip ?_; simp only [vthen, vinBlock])
          | (refine VWp.exit ?_; simp only [vthen, vinBlock, if_true])
          | (apply VWp.condT; focus (simp [h1, h2, h7, h8, c1, w1, w2, w3, w4, vbits_and, hb2, c5]; done))
          | (apply VWp.condF; focus (simp [h1, h2, h7, h8, c1, w1, w2, w3, w4, vbits_and, hb2, c5]; done))
        refine hK1 _ _ ?_; clear hK1 K1
        refine VWp.region ?_; simp [h1, h2, h7, h8, w4]
        exact ⟨32 - (k + 1), by omega, k + 1, by omega, by omega, by simp, by rw [flips, flipAt, hb1, if_pos rfl, hm, if_neg c6]⟩
      case true =>
        have c6 : m < 8 * (flips b a bits k).length := by simp at c5; omega
        have q : IntKind.i64.wrap ((m : Int) / 8) = (m : Int) / 8 := by rw [IntKind.wrap_i64]; omega
        have q3 : ((m : Int) / 8).toNat = m / 8 := by omega
        have q4 : (m : Int) / 8 < b.length := by omega
        have q5 : 0 ≤ (m : Int) / 8 := by omega
        have r : IntKind.u64.wrap ((m : Int) % 8) = (m : Int) % 8 := by rw [IntKind.wrap_u64]; omega
        have r0 : (m : Int).tmod 8 = (m : Int) % 8 := Int.tmod_eq_emod_of_nonneg (by omega)
        have q6 : m / 8 + 1 ≤ b.length := by omega
        have r3 : ((m : Int) % 8).toNat = m % 8 := by omega
        have r5 : 0 ≤ (m : Int) % 8 := by omega
        have hm8 : m / 8 < b.length := by omega
        have hget : (byteL (flips b a bits k))[m / 8]? = some (.int .u8 ((flips b a bits k).getD (m / 8) 0).toNat) := by
          simp [byteL, List.getElem?_map, List.getD_eq_getElem?_getD, hL, hm8]
        have hget2 : ∀ h, (byteL (flips b a bits k))[m / 8]'h = .int .u8 ((flips b a bits k).getD (m / 8) 0).toNat := fun h => Option.some.inj ((List.getElem?_eq_getElem h).symm.trans hget)
        have hlenL : (byteL (flips b a bits k)).length = b.length := by simp [byteL, hL]
        have hsp : splice (byteL (flips b a bits k)) (m / 8) [.int .u8 (xorB ((flips b a bits k)[m / 8]?.getD 0) (m % 8)).toNat] = byteL (flips b a bits (k + 1)) := by
          rw [splice_set (by omega), flips, flipAt, hb1, if_pos rfl, hm, if_pos c6]
          simp [byteL, List.map_set]
        repeat' first
          | (refine hK _ _ ?_; clear hK K)
          | (refine VWp.seqK fun K hK => ?_)
          | (refine VWp.region ?_; simp [h1, h2, h7, h8, c1, w1, w2, w3, w4, q, q3, q4, q5, q6, r0, r, r3, r5, vbits_and, vbits_xor8, xorB_val, hb2, c5, hget, hget2, hlenL, hm8, hsp])
          | (refine VWp.ret ?_)
          | (refine VWp.block ?_)
          | (refine VWp.skip ?_; simp only [vthen, vinBlock])
          | (refine VWp.exit ?_; simp only [vthen, vinBlock, if_true])
          | (apply VWp.condT; focus (simp [h1, h2, h7, h8, c1, w1, w2, w3, w4, q, q3, q4, q5, q6, r0, r, r3, r5, vbits_and, vbits_xor8, xorB_val, hb2, c5, hget, hget2, hlenL, hm8, hsp]; done))
          | (apply VWp.condF; focus (simp [h1, h2, h7, h8, c1, w1, w2, w3, w4, q, q3, q4, q5, q6, r0, r, r3, r5, vbits_and, vbits_xor8, xorB_val, hb2, c5, hget, hget2, hlenL, hm8, hsp]; done))
          | (refine VWp.drawnBy (id := 9) [0, 1, 2, 3, 4, 5, 6, 7, 8, 9, 10] [10] [[], [], [1], [0, 1, 2], [0, 1, 2, 3], [], [5], [5, 6], [0, 1, 2, 3, 4, 5, 6, 7], [0, 1, 2, 3, 4, 5, 6, 7, 8], [0, 1, 2, 3, 4, 5, 6, 7, 8, 9]] ?_ ?_ ?_; (focus kernel_rfl); (focus kernel_rfl); simp [h1, h2, h7, h8, c1, w1, w2, w3, w4, q, q3, q4, q5, q6, r0, r, r3, r5, vbits_and, vbits_xor8, xorB_val, hb2, c5, hget, hget2, hlenL, hm8, hsp, VDr, VStables, VStable, floats, effOf, ancOf, atO])
        refine hK1 _ _ ?_; clear hK1 K1
        refine VWp.region ?_; simp [h1, h2, h7, h8, w4, xorB_val, hsp]
        exact ⟨32 - (k + 1), by omega, k + 1, by omega, by omega, by simp, rfl⟩
  · have hk32 : k = 32 := by have := of_decide_eq_false hge; omega
    subst hk32
    have hL : (flips b a bits 32).length = b.length := flips_length b a bits 32
    have hf : flip b a bits = flips b a bits 32 := by unfold flip; rw [if_neg hp]; simp
    generalize flips b a bits 32 = L at *
    have htake : List.take b.length (L.map fun c => V.int .u8 c.toNat) = L.map fun c => V.int .u8 c.toNat := List.take_of_length_le (by simp [hL])
    have hch := chunk1 L
    rw [hL] at hch
    have hvb := vbytes1 L
    refine VWp.exit ?_; simp only [vthen, vinBlock, if_true]; refine hK _ _ ?_; clear hK K hK1 K1
    refine VWp.seqK fun K hK => VWp.region ?_; simp [h7, hL, byteL, htake, hch, hvb, -chunkV, -vbytes]; refine hK _ _ ?_; clear hK K
    refine VWp.ret ?_
    simp [hf]
    exact ⟨_, rfl⟩

theorem lawFlip_v (b : List UInt8) (p bits : Int) (s : S) : VCalls Try.prog 4 [.str b, .int .i64 p, .int .i64 bits] s (fun v _ => v = .bool true) := by
  refine VCalls.bodyE Try.func4 rfl (by simp [Try.ntmps4]) ?_
  rw [Try.ntmps4, Try.results4]
  by_cases hq : (1048576 : Int) < b.length
  · skip
    repeat' first
      | (refine hK _ _ ?_; clear hK K)
      | (refine VWp.seqK fun K hK => ?_)
      | (refine VWp.region ?_; simp [hq])
      | (refine VWp.ret ?_)
      | (refine VWp.block ?_)
      | (refine VWp.skip ?_; simp only [vthen, vinBlock])
      | (refine VWp.exit ?_; simp only [vthen, vinBlock, if_true])
      | (apply VWp.condT; focus (simp [hq]; done))
      | (apply VWp.condF; focus (simp [hq]; done))
    simp
  repeat' first
    | (refine hK _ _ ?_; clear hK K)
    | (refine VWp.seqK fun K hK => ?_)
    | (refine VWp.region ?_; simp [hq])
    | (refine VWp.ret ?_)
    | (refine VWp.block ?_)
    | (refine VWp.skip ?_; simp only [vthen, vinBlock])
    | (refine VWp.exit ?_; simp only [vthen, vinBlock, if_true])
    | (apply VWp.condT; focus (simp [hq]; done))
    | (apply VWp.condF; focus (simp [hq]; done))
    | (refine (specFlip_v _ _ _ (by omega) _).mono ?_; rintro _ _ ⟨rfl, rfl⟩; try simp [hq])
    | (refine (implFlip_v _ _ _ (by omega) _).mono ?_; rintro _ _ ⟨rfl, rfl⟩; try simp [hq])
  simp

end Go.Proofs.Ytkchiflcpecbeaa
