/-
  Draws from a string of bytes, at the value level: what is drawn is some number within bounds, the cursor has moved. Own work; no condition.
-/
import Derived.Test.YtkchiflcpecbeaaVTys
import Derived.Test.YtkchiflcpecbeaaVGlue
import Derived.Test.YtkchiflcpecbeaaVDrop
import Derived.KernelRfl
namespace Go.Proofs.Ytkchiflcpecbeaa
open Go
set_option linter.unusedSimpArgs false
set_option maxHeartbeats 8000000

def band (a b : Int) : Int := IntKind.i64.wrap (BitVec.ofInt 64 a &&& BitVec.ofInt 64 b).toNat
theorem vbits_and (a b : Int) : vbits .and .i64 a b = some (.int .i64 (band a b)) := rfl
theorem band_mask (a : Int) (m : Nat) (hm : m < 9223372036854775808) : 0 ≤ band a m ∧ band a m ≤ m := by
  unfold band
  have h : (BitVec.ofInt 64 a &&& BitVec.ofInt 64 (m : Int)).toNat ≤ m := by
    rw [BitVec.toNat_and, BitVec.ofInt_natCast, BitVec.toNat_ofNat, Nat.mod_eq_of_lt (by omega : m < 2 ^ 64)]
    exact Nat.and_le_right
  rw [IntKind.wrap_i64]
  omega
theorem band_255 (a : Int) : 0 ≤ band a 255 ∧ band a 255 ≤ 255 := band_mask a 255 (by omega)
theorem vbits_xor (a b : Int) : vbits .xor .i64 a b = some (.int .i64 (IntKind.i64.wrap (BitVec.ofInt 64 a ^^^ BitVec.ofInt 64 b).toNat)) := rfl

def byteV (b : UInt8) : V := .int .u8 b.toNat
theorem byteV_eq (b : UInt8) : byteV b = .int .u8 b.toNat := rfl
def curC (b : V) (i h : Int) : List V := [b, .int .i64 i, .int .i64 h]
/-- A slice of bytes. -/
def Bytes (b : V) : Prop := b = .nilsl ∨ ∃ bs : List UInt8, b = .sl 0 (bs.map byteV) ∧ bs.length ≤ maxLen

/-- Something was drawn; the cursor has moved. -/
def Drew (s : S) (l : Nat) (b : V) (p : V → Prop) (v : V) (s' : S) : Prop := ∃ i h, p v ∧ 0 ≤ i ∧ s' = s.setVar l (curC b i h)
def IntIn (lo hi : Int) (v : V) : Prop := ∃ x, v = .int .i64 x ∧ lo ≤ x ∧ x ≤ hi
theorem Drew.mk {s : S} {l : Nat} {b : V} {lo hi x i h : Int} (h1 : lo ≤ x) (h2 : x ≤ hi) (h3 : 0 ≤ i) : Drew s l b (IntIn lo hi) (.int .i64 x) (s.setVar l [b, .int .i64 i, .int .i64 h]) := ⟨i, h, ⟨x, rfl, h1, h2⟩, h3, rfl⟩
theorem Drew.mk' {s : S} {l : Nat} {b : V} {lo hi x i h : Int} (h1 : lo ≤ x) (h2 : x ≤ hi) (h3 : 0 ≤ i) : Drew s l b (IntIn lo hi) (.int .i64 x) (s.setVar l (curC b i h)) := ⟨i, h, ⟨x, rfl, h1, h2⟩, h3, rfl⟩
theorem setVar_self {s : S} {l : Nat} {cs : List V} (h : s.vars l = some cs) : s.setVar l cs = s := by
  obtain ⟨v, f, n⟩ := s
  simp only [S.setVar, S.mk.injEq, and_true]
  funext x
  by_cases e : x = l
  · subst e; simpa using h.symm
  · simp [e]
theorem Drew.stay {s : S} {l : Nat} {b : V} {lo hi x i h : Int} (hs : s.vars l = some (curC b i h)) (h1 : lo ≤ x) (h2 : x ≤ hi) (h3 : 0 ≤ i) : Drew s l b (IntIn lo hi) (.int .i64 x) s := ⟨i, h, ⟨x, rfl, h1, h2⟩, h3, (setVar_self hs).symm⟩

/-- The variable is a cursor over these bytes. -/
def Cur (s : S) (l : Nat) (b : V) : Prop := ∃ i h, s.vars l = some (curC b i h) ∧ 0 ≤ i
theorem Cur.set {s : S} {l : Nat} {b : V} {i h : Int} (hi : 0 ≤ i) : Cur (s.setVar l (curC b i h)) l b := ⟨i, h, by simp, hi⟩
theorem Cur.ext {s : S} {l : Nat} {b : V} {xs : List Own} (hl : l < s.next) (h : Cur s l b) : Cur (s.ext xs) l b := by
  obtain ⟨i, h, k, hi⟩ := h
  exact ⟨i, h, by rw [ext_vars_lt _ _ hl, k], hi⟩
theorem Cur.setE {s : S} {l : Nat} {b : V} {i h : Int} {xs : List Own} (hl : l < s.next) (hi : 0 ≤ i) : Cur ((s.setVar l (curC b i h)).ext xs) l b := Cur.ext (by simpa using hl) (.set hi)
theorem Cur.own {s : S} {b : V} {i h : Int} {xs : List Own} (hi : 0 ≤ i) : Cur (s.ext (.var (curC b i h) :: xs)) s.next b := ⟨i, h, by simp, hi⟩

theorem specl1Byte_v {l : Nat} {b : V} {s : S} (hb : Bytes b) (hc : Cur s l b) :
    VCalls Try.prog 45 [.ptr l 0] s (Drew s l b (IntIn 0 255)) := by
  obtain ⟨i, h, hs, hi⟩ := hc
  obtain ⟨k, rfl⟩ := Int.eq_ofNat_of_zero_le hi
  rcases hb with rfl | ⟨bs, rfl, hlen⟩
  · have h0 : ¬ ((k : Int) < 0) := by omega
    refine VCalls.body Try.func45 rfl (by simp [Try.ntmps45]) ?_
    rw [Try.ntmps45, Try.results45]
    repeat' first
      | (refine hK _ _ ?_; clear hK K)
      | (refine VWp.seqK fun K hK => ?_)
      | (refine VWp.region ?_; simp [hs, h0, curC, vbits_and, vbits_xor])
      | (refine VWp.ret ?_)
      | (refine VWp.block ?_)
      | (refine VWp.skip ?_; simp only [vthen, vinBlock])
      | (refine VWp.exit ?_; simp only [vthen, vinBlock, if_true])
      | (apply VWp.condT; focus (simp [hs, h0, curC, vbits_and, vbits_xor]; done))
      | (apply VWp.condF; focus (simp [hs, h0, curC, vbits_and, vbits_xor]; done))
      | (refine VWp.drawnBy (id := 2) [0, 1, 2, 3, 4, 5, 6, 7, 8, 9, 10, 11, 12] [] [[], [0], [0, 1], [0, 1, 2], [0, 1, 2, 3], [], [5], [5, 6], [5, 6, 7], [5, 6, 7, 8], [0, 1, 2, 3, 4, 5, 6, 7, 8, 9], [0, 1, 2, 3, 4, 5, 6, 7, 8, 9, 10], [0, 1, 2, 3, 4, 5, 6, 7, 8, 9, 10, 11]] ?_ ?_ ?_; (focus kernel_rfl); (focus kernel_rfl); simp [hs, h0, curC, vbits_and, vbits_xor, VDr, VStables, VStable, floats, effOf, ancOf, atO])
      | (refine VWp.drawnBy (id := 3) [0, 1, 2, 3, 4, 5, 6, 7, 8, 9] [] [[], [0], [0, 1], [0, 1, 2], [], [4], [4, 5], [4, 5, 6], [4, 5, 6, 7], [0, 1, 2, 3, 4, 5, 6, 7, 8]] ?_ ?_ ?_; (focus kernel_rfl); (focus kernel_rfl); simp [hs, h0, curC, vbits_and, vbits_xor, VDr, VStables, VStable, floats, effOf, ancOf, atO])
      | (refine VWp.drawnBy (id := 4) [0, 1, 2, 3, 4, 5, 6, 7, 8, 9, 10, 11, 12, 13, 14] [14] [[], [], [1], [1, 2], [1, 2, 3], [], [5], [5, 6], [5, 6, 7], [1, 2, 3, 4, 5, 6, 7, 8], [1, 2, 3, 4, 5, 6, 7, 8, 9], [1, 2, 3, 4, 5, 6, 7, 8, 9, 10], [0, 1, 2, 3, 4, 5, 6, 7, 8, 9, 10, 11], [0, 1, 2, 3, 4, 5, 6, 7, 8, 9, 10, 11, 12], [0, 1, 2, 3, 4, 5, 6, 7, 8, 9, 10, 11, 12, 13]] ?_ ?_ ?_; (focus kernel_rfl); (focus kernel_rfl); simp [hs, h0, curC, vbits_and, vbits_xor, VDr, VStables, VStable, floats, effOf, ancOf, atO])
    simp
    exact Drew.mk (band_255 _).1 (band_255 _).2 (by omega)
  · cases hk : decide (k < bs.length)
    case false =>
      refine VCalls.body Try.func45 rfl (by simp [Try.ntmps45]) ?_
      rw [Try.ntmps45, Try.results45]
      repeat' first
        | (refine hK _ _ ?_; clear hK K)
        | (refine VWp.seqK fun K hK => ?_)
        | (refine VWp.region ?_; simp [hs, hk, curC, vbits_and, vbits_xor])
        | (refine VWp.ret ?_)
        | (refine VWp.block ?_)
        | (refine VWp.skip ?_; simp only [vthen, vinBlock])
        | (refine VWp.exit ?_; simp only [vthen, vinBlock, if_true])
        | (apply VWp.condT; focus (simp [hs, hk, curC, vbits_and, vbits_xor]; done))
        | (apply VWp.condF; focus (simp [hs, hk, curC, vbits_and, vbits_xor]; done))
        | (refine VWp.drawnBy (id := 2) [0, 1, 2, 3, 4, 5, 6, 7, 8, 9, 10, 11, 12] [] [[], [0], [0, 1], [0, 1, 2], [0, 1, 2, 3], [], [5], [5, 6], [5, 6, 7], [5, 6, 7, 8], [0, 1, 2, 3, 4, 5, 6, 7, 8, 9], [0, 1, 2, 3, 4, 5, 6, 7, 8, 9, 10], [0, 1, 2, 3, 4, 5, 6, 7, 8, 9, 10, 11]] ?_ ?_ ?_; (focus kernel_rfl); (focus kernel_rfl); simp [hs, hk, curC, vbits_and, vbits_xor, VDr, VStables, VStable, floats, effOf, ancOf, atO])
        | (refine VWp.drawnBy (id := 3) [0, 1, 2, 3, 4, 5, 6, 7, 8, 9] [] [[], [0], [0, 1], [0, 1, 2], [], [4], [4, 5], [4, 5, 6], [4, 5, 6, 7], [0, 1, 2, 3, 4, 5, 6, 7, 8]] ?_ ?_ ?_; (focus kernel_rfl); (focus kernel_rfl); simp [hs, hk, curC, vbits_and, vbits_xor, VDr, VStables, VStable, floats, effOf, ancOf, atO])
        | (refine VWp.drawnBy (id := 4) [0, 1, 2, 3, 4, 5, 6, 7, 8, 9, 10, 11, 12, 13, 14] [14] [[], [], [1], [1, 2], [1, 2, 3], [], [5], [5, 6], [5, 6, 7], [1, 2, 3, 4, 5, 6, 7, 8], [1, 2, 3, 4, 5, 6, 7, 8, 9], [1, 2, 3, 4, 5, 6, 7, 8, 9, 10], [0, 1, 2, 3, 4, 5, 6, 7, 8, 9, 10, 11], [0, 1, 2, 3, 4, 5, 6, 7, 8, 9, 10, 11, 12], [0, 1, 2, 3, 4, 5, 6, 7, 8, 9, 10, 11, 12, 13]] ?_ ?_ ?_; (focus kernel_rfl); (focus kernel_rfl); simp [hs, hk, curC, vbits_and, vbits_xor, VDr, VStables, VStable, floats, effOf, ancOf, atO])
      simp
      exact Drew.mk (band_255 _).1 (band_255 _).2 (by omega)
    case true =>
      have hk' : k < bs.length := by simpa using hk
      have hw : IntKind.i64.wrap ((k : Int) + 1) = (k : Int) + 1 := by rw [IntKind.wrap_i64]; unfold maxLen at hlen; omega
      refine VCalls.body Try.func45 rfl (by simp [Try.ntmps45]) ?_
      rw [Try.ntmps45, Try.results45]
      repeat' first
        | (refine hK _ _ ?_; clear hK K)
        | (refine VWp.seqK fun K hK => ?_)
        | (refine VWp.region ?_; simp [hs, hk, hk', hw, byteV_eq, curC, vbits_and, vbits_xor])
        | (refine VWp.ret ?_)
        | (refine VWp.block ?_)
        | (refine VWp.skip ?_; simp only [vthen, vinBlock])
        | (refine VWp.exit ?_; simp only [vthen, vinBlock, if_true])
        | (apply VWp.condT; focus (simp [hs, hk, hk', hw, byteV_eq, curC, vbits_and, vbits_xor]; done))
        | (apply VWp.condF; focus (simp [hs, hk, hk', hw, byteV_eq, curC, vbits_and, vbits_xor]; done))
        | (refine VWp.drawnBy (id := 2) [0, 1, 2, 3, 4, 5, 6, 7, 8, 9, 10, 11, 12] [] [[], [0], [0, 1], [0, 1, 2], [0, 1, 2, 3], [], [5], [5, 6], [5, 6, 7], [5, 6, 7, 8], [0, 1, 2, 3, 4, 5, 6, 7, 8, 9], [0, 1, 2, 3, 4, 5, 6, 7, 8, 9, 10], [0, 1, 2, 3, 4, 5, 6, 7, 8, 9, 10, 11]] ?_ ?_ ?_; (focus kernel_rfl); (focus kernel_rfl); simp [hs, hk, hk', hw, byteV_eq, curC, vbits_and, vbits_xor, VDr, VStables, VStable, floats, effOf, ancOf, atO])
        | (refine VWp.drawnBy (id := 3) [0, 1, 2, 3, 4, 5, 6, 7, 8, 9] [] [[], [0], [0, 1], [0, 1, 2], [], [4], [4, 5], [4, 5, 6], [4, 5, 6, 7], [0, 1, 2, 3, 4, 5, 6, 7, 8]] ?_ ?_ ?_; (focus kernel_rfl); (focus kernel_rfl); simp [hs, hk, hk', hw, byteV_eq, curC, vbits_and, vbits_xor, VDr, VStables, VStable, floats, effOf, ancOf, atO])
        | (refine VWp.drawnBy (id := 4) [0, 1, 2, 3, 4, 5, 6, 7, 8, 9, 10, 11, 12, 13, 14] [14] [[], [], [1], [1, 2], [1, 2, 3], [], [5], [5, 6], [5, 6, 7], [1, 2, 3, 4, 5, 6, 7, 8], [1, 2, 3, 4, 5, 6, 7, 8, 9], [1, 2, 3, 4, 5, 6, 7, 8, 9, 10], [0, 1, 2, 3, 4, 5, 6, 7, 8, 9, 10, 11], [0, 1, 2, 3, 4, 5, 6, 7, 8, 9, 10, 11, 12], [0, 1, 2, 3, 4, 5, 6, 7, 8, 9, 10, 11, 12, 13]] ?_ ?_ ?_; (focus kernel_rfl); (focus kernel_rfl); simp [hs, hk, hk', hw, byteV_eq, curC, vbits_and, vbits_xor, VDr, VStables, VStable, floats, effOf, ancOf, atO])
      simp [hw]
      exact Drew.mk (band_255 _).1 (band_255 _).2 (by omega)

theorem tmod_lo {a n : Int} (h : 0 ≤ a) : 0 ≤ a.tmod n := Int.tmod_nonneg _ h
theorem tmod_hi {a n : Int} (_h : 0 ≤ a) (hn : 0 < n) : a.tmod n ≤ n - 1 := by
  have := Int.tmod_lt_of_pos a hn
  omega

theorem specl1Below_v {n : Int} (hn : 0 < n) {l : Nat} {b : V} {s : S} (hb : Bytes b) (hc : Cur s l b) :
    VCalls Try.prog 42 [.ptr l 0, .int .i64 n] s (Drew s l b (IntIn 0 (n - 1))) := by
  have h0 : ¬ n ≤ 0 := by omega
  have h1 : ¬ n = 0 := by omega
  cases h2 : decide (n ≤ 256)
  all_goals
    refine VCalls.body Try.func42 rfl (by simp [Try.ntmps42]) ?_
    rw [Try.ntmps42, Try.results42]
    repeat' first
      | (refine hK _ _ ?_; clear hK K)
      | (refine VWp.seqK fun K hK => ?_)
      | (refine VWp.region ?_; simp [h0, h1, h2])
      | (refine VWp.ret ?_)
      | (refine VWp.block ?_)
      | (refine VWp.skip ?_; simp only [vthen, vinBlock])
      | (refine VWp.exit ?_; simp only [vthen, vinBlock, if_true])
      | (apply VWp.condT; focus (simp [h0, h1, h2]; done))
      | (apply VWp.condF; focus (simp [h0, h1, h2]; done))
      | (refine (specl1Byte_v hb ?_).mono ?_; (focus (first | assumption | exact Cur.set (by assumption) | exact Cur.setE (by assumption) (by assumption) | exact Cur.ext (by assumption) (by assumption) | exact Cur.own (by assumption))); rintro _ _ ⟨_, _, ⟨_, rfl, _, _⟩, _, rfl⟩; try simp [h0, h1, h2])
    simp
    refine Drew.mk' (tmod_lo ?_) (tmod_hi ?_ hn) (by assumption)
    all_goals
      try simp only [IntKind.wrap_i64]
      omega

end Go.Proofs.Ytkchiflcpecbeaa
