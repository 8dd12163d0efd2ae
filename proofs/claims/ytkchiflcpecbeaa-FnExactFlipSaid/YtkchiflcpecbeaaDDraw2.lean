/-
  Draws from a string of bytes, continued: lists, the cursor's beginning. Own work; no condition.
-/
import Derived.Test.YtkchiflcpecbeaaDDraw
namespace Go.Proofs.Ytkchiflcpecbeaa
open Go
set_option linter.unusedSimpArgs false
set_option maxHeartbeats 8000000

theorem specl1PickInt_v {id : Nat} {xs : List Int} (hx : 0 < xs.length) {l : Nat} {b : V} {s : S} (hb : Bytes b) (hc : Cur s l b) :
    VCalls Try.prog 43 [.ptr l 0, .sl id (xs.map (.int .i64 ·))] s (Drew s l b (fun v => ∃ x, v = .int .i64 x)) := by
  have h0 : (0 : Int) < xs.length := by omega
  refine VCalls.body Try.func43 rfl (by simp [Try.ntmps43]) ?_
  rw [Try.ntmps43, Try.results43]
  repeat' first
    | (refine hK _ _ ?_; clear hK K)
    | (refine VWp.seqK fun K hK => ?_)
    | (refine VWp.region ?_; simp [h0])
    | (refine VWp.ret ?_)
    | (refine VWp.block ?_)
    | (refine VWp.skip ?_; simp only [vthen, vinBlock])
    | (refine VWp.exit ?_; simp only [vthen, vinBlock, if_true])
    | (apply VWp.condT; focus (simp [h0]; done))
    | (apply VWp.condF; focus (simp [h0]; done))
    | (refine (specl1Below_v (n := (xs.length : Int)) h0 hb ?_).mono ?_; (focus (first | assumption | exact Cur.set (by assumption) | exact Cur.setE (by assumption) (by assumption) | exact Cur.ext (by assumption) (by assumption) | exact Cur.own (by assumption))); rintro _ _ ⟨_, _, ⟨x, rfl, a1, a2⟩, _, rfl⟩; try simp [h0])
  obtain ⟨k, rfl⟩ := Int.eq_ofNat_of_zero_le a1
  have hk : k < xs.length := by omega
  simp [hk]
  repeat' first
    | (refine hK _ _ ?_; clear hK K)
    | (refine VWp.seqK fun K hK => ?_)
    | (refine VWp.region ?_; simp [h0, hk])
    | (refine VWp.ret ?_)
    | (refine VWp.block ?_)
    | (refine VWp.skip ?_; simp only [vthen, vinBlock])
    | (refine VWp.exit ?_; simp only [vthen, vinBlock, if_true])
    | (apply VWp.condT; focus (simp [h0, hk]; done))
    | (apply VWp.condF; focus (simp [h0, hk]; done))
  simp
  exact ⟨_, _, ⟨_, rfl⟩, by assumption, rfl⟩

theorem dat_bytes {b : V} (hb : Bytes b) : b.dat = true := by
  rcases hb with rfl | ⟨bs, rfl, _⟩
  · rfl
  · simp [V.datL_eq, byteV]
theorem dat_cur {b : V} (hb : Bytes b) (i h : Int) : (curC b i h).all V.dat = true := by simp [curC, dat_bytes hb]
theorem Drew.mk2 {s : S} {l : Nat} {b : V} {p : V → Prop} {v : V} {i h : Int} (hp : p v) (h3 : 0 ≤ i) : Drew s l b p v (s.setVar l (curC b i h)) := ⟨i, h, hp, h3, rfl⟩

theorem specl17Draw_v {l : Nat} {b : V} {s : S} (hl : l < s.next) (hb : Bytes b) (hc : Cur s l b) :
    VCalls Try.prog 40 [.ptr l 0] s (Drew s l b (fun v => ∃ x, v = .int .i64 x)) := by
  refine VCalls.dropVar hl ?_
  refine VCalls.bodyE Try.func40 rfl (by simp [Try.ntmps40]) ?_
  rw [Try.ntmps40, Try.results40]
  repeat' first
    | (refine hK _ _ ?_; clear hK K)
    | (refine VWp.seqK fun K hK => ?_)
    | (refine VWp.region ?_; simp [hl, ext_setVar_lt, ext_vars_lt])
    | (refine VWp.ret ?_)
    | (refine VWp.block ?_)
    | (refine VWp.skip ?_; simp only [vthen, vinBlock])
    | (refine VWp.exit ?_; simp only [vthen, vinBlock, if_true])
    | (apply VWp.condT; focus (simp [hl, ext_setVar_lt, ext_vars_lt]; done))
    | (apply VWp.condF; focus (simp [hl, ext_setVar_lt, ext_vars_lt]; done))
    | (refine (specl1PickInt_v (xs := [0, 1, 2, 3, 1, 2, 3, 0, 4, -1]) (by simp) hb ?_).mono ?_; (focus (first | assumption | exact Cur.set (by assumption) | exact Cur.setE (by assumption) (by assumption) | exact Cur.ext (by assumption) (by assumption) | exact Cur.own (by assumption))); rintro _ _ ⟨_, _, ⟨x, rfl⟩, _, rfl⟩; try simp [hl, ext_setVar_lt, ext_vars_lt])
  simp
  exact DropR.mk rfl (dat_cur hb _ _) (.mk2 ⟨_, rfl⟩ (by assumption))

theorem specl1New_v {b : V} (hb : Bytes b) (s : S) : VCalls Try.prog 39 [b] s (fun v s' => ∃ h, v = .ptr s.next 0 ∧ s' = s.ext [.var (curC b 0 h)]) := by
  obtain ⟨bs, hbs⟩ : ∃ bs : List UInt8, (b = .nilsl ∧ bs = []) ∨ (b = .sl 0 (bs.map byteV) ∧ bs.length ≤ maxLen) := by
    rcases hb with rfl | ⟨bs, rfl, h⟩
    · exact ⟨[], .inl ⟨rfl, rfl⟩⟩
    · exact ⟨bs, .inr ⟨rfl, h⟩⟩
  have hlen : vlen Try.prog 36 b = some (.int .i64 bs.length) := by
    rcases hbs with ⟨rfl, rfl⟩ | ⟨rfl, h⟩ <;> simp
  have hcells : b.cells = [b] := by rcases hbs with ⟨rfl, rfl⟩ | ⟨rfl, h⟩ <;> rfl
  have hone : b.one = true := by rcases hbs with ⟨rfl, rfl⟩ | ⟨rfl, h⟩ <;> rfl
  have hidx : ∀ k : Nat, k < bs.length → ∃ x, vindexAddr Try.prog 36 b (.int .i64 k) = some (.eptr [.int .u8 x] 0) := by
    intro k hk
    rcases hbs with ⟨rfl, rfl⟩ | ⟨rfl, h⟩
    · simp at hk
    · refine ⟨bs[k].toNat, ?_⟩
      simp [hk, byteV_eq]
  refine VCalls.bodyE Try.func39 rfl (by simp [Try.ntmps39]) ?_
  rw [Try.ntmps39, Try.results39]
  refine VWp.seqK fun K hK => VWp.region ?_; simp; refine hK _ _ ?_; clear hK K
  refine VWp.seqK fun K hK => VWp.region ?_; simp [hlen, -vlen]; refine hK _ _ ?_; clear hK K
  refine VWp.seqK fun K hK => ?_
  refine VWp.seqK fun K2 hK2 => VWp.region ?_; simp; refine hK2 _ _ ?_; clear hK2 K2
  refine VWp.block (VWp.loop (fun n σ t => ∃ (k : Nat) (h : Int), n = 4000 - k ∧ k ≤ 4000 ∧ σ 0 = b ∧ σ 3 = .int .i64 h ∧ σ 4 = .int .i64 k ∧ t = s.ext []) 4000 ⟨0, IntKind.i64.wrap (28322 + bs.length), by simp, by simp, by simp, by simp, by simp, by simp⟩ ?_)
  rintro n σ t ⟨k, h, rfl, hk, h0, h3, h4, rfl⟩
  refine VWp.seqK fun K1 hK1 => ?_
  cases c1 : decide (k < bs.length)
  case false =>
    refine VWp.seqK fun K2 hK2 => VWp.region ?_; simp [h0, h3, h4, hlen, c1, -vlen]; refine hK2 _ _ ?_; clear hK2 K2
    apply VWp.condF; focus (simp; done)
    refine VWp.exit ?_; simp only [vthen, vinBlock, if_true]; refine hK _ _ ?_; clear hK K hK1 K1
    repeat' first
      | (refine hK _ _ ?_; clear hK K)
      | (refine VWp.seqK fun K hK => ?_)
      | (refine VWp.region ?_; simp [h0, h3, h4, hcells, hone])
      | (refine VWp.ret ?_)
      | (refine VWp.block ?_)
      | (refine VWp.skip ?_; simp only [vthen, vinBlock])
      | (refine VWp.exit ?_; simp only [vthen, vinBlock, if_true])
      | (apply VWp.condT; focus (simp [h0, h3, h4, hcells, hone]; done))
      | (apply VWp.condF; focus (simp [h0, h3, h4, hcells, hone]; done))
    simp [h0, h3, hcells, curC]
    exact ⟨_, rfl⟩
  cases c2 : decide ((k : Int) < 4000)
  case false =>
    refine VWp.seqK fun K2 hK2 => VWp.region ?_; simp [h0, h3, h4, hlen, c1, c2, -vlen]; refine hK2 _ _ ?_; clear hK2 K2
    apply VWp.condF; focus (simp; done)
    refine VWp.exit ?_; simp only [vthen, vinBlock, if_true]; refine hK _ _ ?_; clear hK K hK1 K1
    repeat' first
      | (refine hK _ _ ?_; clear hK K)
      | (refine VWp.seqK fun K hK => ?_)
      | (refine VWp.region ?_; simp [h0, h3, h4, hcells, hone])
      | (refine VWp.ret ?_)
      | (refine VWp.block ?_)
      | (refine VWp.skip ?_; simp only [vthen, vinBlock])
      | (refine VWp.exit ?_; simp only [vthen, vinBlock, if_true])
      | (apply VWp.condT; focus (simp [h0, h3, h4, hcells, hone]; done))
      | (apply VWp.condF; focus (simp [h0, h3, h4, hcells, hone]; done))
    simp [h0, h3, hcells, curC]
    exact ⟨_, rfl⟩
  obtain ⟨x, hx⟩ := hidx k (by simpa using c1)
  have hw : IntKind.i64.wrap ((k : Int) + 1) = (k : Int) + 1 := wrap_succ (by simp at c2; omega)
  refine VWp.seqK fun K2 hK2 => VWp.region ?_; simp [h0, h3, h4, hlen, c1, c2, -vlen]; refine hK2 _ _ ?_; clear hK2 K2
  apply VWp.condT; focus (simp; done)
  refine VWp.skip ?_; simp only [vthen]; refine hK1 _ _ ?_; clear hK1 K1
  refine VWp.seqK fun K1 hK1 => VWp.block (VWp.region ?_); simp [h0, h3, h4, hx, hw, vbits_and, -vindexAddr]; refine hK1 _ _ ?_; clear hK1 K1
  refine VWp.region ?_; simp [h0, h3, h4, hw]
  simp at c2
  exact ⟨4000 - (k + 1), by omega, k + 1, by omega, by omega, by simp⟩

theorem specDrawMeet_v {b : V} (hb : Bytes b) (s : S) : VCalls Try.prog 24 [b] s (fun v s' => ∃ x y xs, v = .tup [.int .i64 x, .int .i64 y] ∧ s' = s.ext xs) := by
  refine VCalls.bodyE Try.func24 rfl (by simp [Try.ntmps24]) ?_
  rw [Try.ntmps24, Try.results24]
  repeat' first
    | (refine hK _ _ ?_; clear hK K)
    | (refine VWp.seqK fun K hK => ?_)
    | (refine VWp.region ?_; simp)
    | (refine VWp.ret ?_)
    | (refine (specl1New_v hb _).mono ?_; rintro _ _ ⟨_, rfl, rfl⟩; try simp)
    | (refine (specl17Draw_v (by simp) hb (Cur.own (by omega))).mono ?_; rintro _ _ ⟨_, _, ⟨_, rfl⟩, _, rfl⟩; try simp)
  simp
  exact ⟨_, rfl⟩

theorem big_v {b : V} {n : Nat} (hb : vlen Try.prog 36 b = some (.int .i64 n)) (s : S) : VCalls Try.prog 23 [b] s (fun v s' => v = .bool (decide ((1048576 : Int) < n)) ∧ s' = s) := by
  refine VCalls.pureE Try.func23 rfl (by simp [Try.ntmps23]) (by simp) ?_
  rw [Try.ntmps23, Try.results23]
  repeat' first
    | (refine hK _ _ ?_; clear hK K)
    | (refine VWp.seqK fun K hK => ?_)
    | (refine VWp.region ?_; simp [hb, -vlen])
    | (refine VWp.ret ?_)
    | (refine VWp.block ?_)
    | (refine VWp.skip ?_; simp only [vthen, vinBlock])
    | (refine VWp.exit ?_; simp only [vthen, vinBlock, if_true])
    | (apply VWp.condT; focus (simp [hb, -vlen]; done))
    | (apply VWp.condF; focus (simp [hb, -vlen]; done))
  simp
  exact ⟨_, rfl⟩

theorem tail_v {b : V} (hb : Bytes b) (s : S) : VCalls Try.prog 25 [b] s (fun v s' => Bytes v ∧ s' = s) := by
  rcases hb with rfl | ⟨bs, rfl, hl⟩
  · refine VCalls.mono (R := fun v s' => v = .sl 0 [] ∧ s' = s) ?_ (fun v s' h => ⟨.inr ⟨[], h.1, by simp⟩, h.2⟩)
    refine VCalls.pureE Try.func25 rfl (by simp [Try.ntmps25]) (by simp) ?_
    rw [Try.ntmps25, Try.results25]
    repeat' first
      | (refine hK _ _ ?_; clear hK K)
      | (refine VWp.seqK fun K hK => ?_)
      | (refine VWp.region ?_; simp)
      | (refine VWp.ret ?_)
      | (refine VWp.block ?_)
      | (refine VWp.skip ?_; simp only [vthen, vinBlock])
      | (refine VWp.exit ?_; simp only [vthen, vinBlock, if_true])
      | (apply VWp.condT; focus (simp; done))
      | (apply VWp.condF; focus (simp; done))
    simp
    exact ⟨_, rfl⟩
  · refine VCalls.mono (R := fun v s' => v = .sl 0 ((bs.drop 1).map byteV) ∧ s' = s) ?_ (fun v s' h => ⟨.inr ⟨_, h.1, by simp; omega⟩, h.2⟩)
    refine VCalls.pureE Try.func25 rfl (by simp [Try.ntmps25]) (dat_bytes (.inr ⟨_, rfl, by simp; omega⟩)) ?_
    rw [Try.ntmps25, Try.results25]
    cases bs with
    | nil =>
      repeat' first
        | (refine hK _ _ ?_; clear hK K)
        | (refine VWp.seqK fun K hK => ?_)
        | (refine VWp.region ?_; simp)
        | (refine VWp.ret ?_)
        | (refine VWp.block ?_)
        | (refine VWp.skip ?_; simp only [vthen, vinBlock])
        | (refine VWp.exit ?_; simp only [vthen, vinBlock, if_true])
        | (apply VWp.condT; focus (simp; done))
        | (apply VWp.condF; focus (simp; done))
      simp
      exact ⟨_, rfl⟩
    | cons x xs =>
      have h1 : ¬ ((xs.length : Int) + 1 = 0) := by omega
      have ht : List.take xs.length (xs.map byteV) = xs.map byteV := List.take_of_length_le (by simp)
      repeat' first
        | (refine hK _ _ ?_; clear hK K)
        | (refine VWp.seqK fun K hK => ?_)
        | (refine VWp.region ?_; simp [h1, byteV_eq, ht])
        | (refine VWp.ret ?_)
        | (refine VWp.block ?_)
        | (refine VWp.skip ?_; simp only [vthen, vinBlock])
        | (refine VWp.exit ?_; simp only [vthen, vinBlock, if_true])
        | (apply VWp.condT; focus (simp [h1, byteV_eq, ht]; done))
        | (apply VWp.condF; focus (simp [h1, byteV_eq, ht]; done))
      simp [ht, V.forgetL_eq]
      exact ⟨fun _ _ => rfl, _, rfl⟩

end Go.Proofs.Ytkchiflcpecbeaa
