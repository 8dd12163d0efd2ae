/-
  Slices that are appended to, whose elements stay as they are; results of draws taken for plain values. Own work; no condition.
-/
import Derived.Test.YtkkifdgnebbghaaVDraw
namespace Go.Proofs.Ytkkifdgnebbghaa
open Go

/-- A result's slices may be taken for ones that are not to be appended to. -/
theorem VCalls.forgetR {P : Program} {f : FuncId} {args : List V} {s : S} {R : V → S → Prop} (h : VCalls P f args s (fun v s' => R v.forget s')) : VCalls P f args s R :=
  fun E vals h1 h2 => (h E vals h1 h2).mono fun _ _ ⟨E', v, val, s', a, b, c, k, r, st⟩ => ⟨E', v.forget, val, s', a, b, c, k, r.forget, st⟩

theorem Hold.toFac {s : S} {b i id sz : Nat} {us ds : List V} {H H' : List BE} (h : Hold s b H) (hi : nthO H i = some (.acc id sz us ds)) (hs : setO H i (.fac id sz us) = some H') : Hold s b H' := by
  obtain ⟨ls, h1, h2, h3⟩ := h.ex
  obtain ⟨H1, he⟩ := eraO_of hi
  obtain ⟨a, l', ⟨l1, rfl, k2, k3, k4⟩, k5, k6⟩ := h1.take hi he
  obtain ⟨q, m1, m2⟩ := k5.put he hs (show BOk s (.fac id sz us) [(false, id)] from ⟨rfl, k3⟩)
  have hl : LeL q ls := m2.trans (((LeL.right l1 [(false, id)]).app (LeL.refl l')).trans k6)
  exact ⟨q, m1, hl.1 h2, fun p hp => h3 p (hl.2 p hp)⟩
theorem Hold.facOk {s : S} {H : List BE} {b id sz : Nat} {us : List V} (h : Hold s b H) (hm : BE.fac id sz us ∈ H) : id < b ∧ s.fams id = some (us.length, sz) := by
  obtain ⟨a, ⟨h1, h2⟩, h5⟩ := h.at hm
  exact ⟨h5 (false, id) (by rw [h1]; simp), h2⟩

section
variable {P : Program} {N : Nat} {ops : Array Oper} {l : List Oper} {K : Kn → S → Prop} {L : Kn} {s : S} {tt : BT} {d : Nat} {ty : TypeId} {p : String} {a : Array Edge} {H : List BE}
theorem LOps.appF (ht : tt.ok P) {T U e : TypeId} {t te : Ty} {x y : Operand} {id sz : Nat} {us vs : List V} {w : V} {H2 : List BE} (i : Nat) (hx : opd L x = some (.sl id us)) (hi : nthO H i = some (.fac id sz us)) (hs : setO H i (.fac id sz (us ++ vs)) = some H2) (hy : opd L y = some w) (hw : spreadO w = some vs)
    (hT : tt.get T = some t) (hkd : t.kd = .slice e) (hte : tt.get e = some te) (hz : (Nat.beq te.zero.length te.size && Nat.blt 0 te.size) = true) (hsz : Nat.beq sz te.size = true) (hU : Nat.beq U T = true) (hh : Hold s s.next H)
    (hall : Elems te vs) (hb : AppB (us.length + vs.length) te.bytes)
    (hk : ∀ s' : S, Hold s' s'.next H2 → LOps P N ops l K ((d, .sl id (us ++ vs)) :: L) (s'.ext [])) : LOps P N ops (⟨some d, appCall x y #[T, U], ty, p, a, none⟩ :: l) K L (s.ext []) := by
  simp only [Bool.and_eq_true] at hz
  have hU' := Nat.eq_of_beq_eq_true hU
  subst hU'
  have hsz' := Nat.eq_of_beq_eq_true hsz
  subst hsz'
  obtain ⟨hid, hfm⟩ := hh.facOk (List.mem_of_getElem? (nthO_eq hi))
  have hnew : Hold (s.setFam id (us.length + vs.length) te.size) (s.setFam id (us.length + vs.length) te.size).next H2 := by
    refine hh.turn (s' := s.setFam id (us.length + vs.length) te.size) hi hs (Nat.le_refl s.next) fun a ha => ⟨⟨ha.1, by simp [S.setFam]⟩, fun p hp => ⟨fun _ => rfl, fun e => ?_⟩⟩
    have : p.2 ≠ id := fun e2 => by
      refine hp ?_
      rw [ha.1]
      obtain ⟨p1, p2⟩ := p
      simp only at e e2
      simp [e, e2]
    simp [S.setFam, this]
  refine .st (v := .sl id (us ++ vs)) (s' := (s.setFam id (us.length + vs.length) te.size).ext []) (fun σ hσ => ?_) (hk _ hnew)
  simp only [appCall, vop, vevL, opd_eq hσ hx, opd_eq hσ hy, vbuiltin, vappend, ht.get hT, hkd, ht.get hte, spreadO_eq hw, Option.bind_some, Option.map_some, if_true]
  rw [if_pos ⟨Nat.eq_of_beq_eq_true hz.1, by simpa using hz.2, hall⟩, ext_fams_lt s [] hid, hfm]
  simp only [Option.bind_some]
  rw [if_pos ⟨trivial, trivial, hb.1, hb.2⟩, ext0_setFam hid]
end

/-- A slice literal that nobody appends to: it changes nothing that anybody sees. -/
theorem AnsL.bslF {P : Program} {L : Kn} {s : S} {tt : BT} (ht : tt.ok P) {T e : TypeId} {t te : Ty} {m : Nat} {parts : Array (Nat × Operand)} {ps : List (Nat × V)} {vs : List V} (hp : opdP L parts.toList = some ps) (hT : tt.get T = some t) (hkd : t.kd = .slice e) (hte : tt.get e = some te)
    (hz : (Nat.beq te.zero.length te.size && Nat.blt 0 te.size && Nat.ble (m * te.size) 16777216) = true) (hsq : seqO 0 ps = some vs) (hlen : Nat.beq vs.length m = true) (hm : Nat.beq m 0 = false) (hel : elemsO te vs = true) : AnsL P (.buildSlice T m parts) L s (.sl 0 vs) := by
  simp only [Bool.and_eq_true] at hz
  have hm' : vs.length = m := Nat.eq_of_beq_eq_true hlen
  have h0 : ¬ m = 0 := fun e => by rw [e] at hm; cases hm
  have hz1 : te.zero.length = te.size := Nat.eq_of_beq_eq_true hz.1.1
  have hz2 : 0 < te.size := by simpa using hz.1.2
  have hz3 : m * te.size ≤ 16777216 := Nat.le_of_ble_eq_true hz.2
  have hel := ElsH.of hel
  have hcl : ∀ v ∈ vs, v.cells.length = te.size := fun v hv => (hel v hv).1
  have hf : ∀ v ∈ vs, v.fits te.agg = true := fun v hv => (hel v hv).2
  have hfill := vfill_seq (n := m) hz1 (us := []) (by simpa using hsq) (by simpa using hcl) (by simp; omega)
  rw [List.nil_append, filled_full hm', filled_nil] at hfill
  have hsz1 : te.agg = false → te.size = 1 := fun hag => by
    cases vs with
    | nil => exact absurd hm'.symm h0
    | cons v r =>
      obtain ⟨h1, h2⟩ := hel v (by simp)
      rw [← h1]
      rw [hag] at h2
      cases v <;> simp_all [V.fits, V.cells, V.one]
  have hck := chunk_flat hz2 hcl hf
  rw [hm'] at hck
  have hb : vbuildSlice P T m ps s = some (.sl s.next vs, s.newFam m te.size) := by
    simp only [vbuildSlice, ht.get hT, hkd, ht.get hte, Option.bind_some]
    rw [if_pos ⟨hz1, hz2, hz3⟩, hfill]
    simp only [Option.bind_some]
    rw [if_neg h0, if_pos (chunkOk_flat hf hsz1), hck]
  refine ⟨fun σ hσ dst ty p a g K hk => ?_⟩
  refine .inl ?_
  unfold VOp0
  exact .inr ⟨ps, .sl 0 vs, opdP_eq hσ hp, by simp only [vbsF, hb], hk⟩

/-- The front of a slice. -/
theorem AnsL.slcT {P : Program} {L : Kn} {s : S} {tt : BT} (ht : tt.ok P) {us : List V} {T e : TypeId} {t te : Ty} {x i : Operand} {id n : Nat} {k : IntKind} (hx : opd L x = some (.sl id us)) (hT : tt.get T = some t) (hkd : t.kd = .slice e) (hte : tt.get e = some te) (hi : opd L i = some (.int k (n : Int)))
    (hn : n ≤ us.length) : AnsL P (.slice T x none (some i) none) L s (.sl 0 (us.take n)) := by
  refine AnsL.slc (lo' := none) (hi' := some (.int k (n : Int))) (mx' := none) hx rfl (by simp only [opdO, hi]) rfl ?_
  simp only [vslice, ht.get hT, hkd, ht.get hte, Option.bind_some, bound, Int.toNat_natCast, Int.natCast_nonneg, if_true]
  rw [if_pos ⟨Nat.zero_le _, hn, by simp⟩, List.drop_zero, Nat.sub_zero]
/-- A slice made that nobody writes: it changes nothing that anybody sees. -/
theorem AnsL.mkF {P : Program} {L : Kn} {s : S} {tt : BT} (ht : tt.ok P) {T e : TypeId} {t te : Ty} {x y : Operand} {k k' : IntKind} {m : Nat} (hx : opd L x = some (.int k (m : Int))) (hy : opd L y = some (.int k' (m : Int))) (hT : tt.get T = some t) (hkd : t.kd = .slice e) (hte : tt.get e = some te)
    (hz : (Nat.beq te.zero.length te.size && Nat.blt 0 te.size) = true) (hb : AppB m te.bytes) : AnsL P (.makeSlice T x y) L s (.sl 0 (List.replicate m (.agg te.zero))) := by
  simp only [Bool.and_eq_true] at hz
  have h1 := hb.1
  have h2 := hb.2
  have h3 : (te.bytes : Int) * (m : Int) ≤ 140737488355328 := by rw [Int.mul_comm, ← Int.natCast_mul]; omega
  refine ⟨fun σ hσ dst ty p a g K hk => ?_⟩
  refine .inl ?_
  unfold VOp0
  refine .inr ⟨_, _, _, opd_eq hσ hx, opd_eq hσ hy, ?_, hk⟩
  simp only [vmkF, ht.get hT, hkd, ht.get hte, Option.bind_some]
  rw [if_pos ⟨Nat.eq_of_beq_eq_true hz.1, by simpa using hz.2, by omega, trivial, by omega, h3⟩, Int.toNat_natCast]

/-- A function of whose answer some property is known. -/
def DrwV (P : Program) (g : FuncId) (args : List V) {α : Type} (F : α → V) (p : α → Prop) : Prop := ∀ (s : S) (H : List BE), Hold s s.next H → VCalls P g args (s.ext []) (fun v t => ∃ (x : α) (s' : S), p x ∧ v = F x ∧ t = s'.ext [] ∧ Hold s' s'.next H)
theorem DrwV.of {P : Program} {g : FuncId} {args : List V} {α : Type} {F : α → V} {p : α → Prop} (x : α) (hp : p x) (h : ∀ s, VCalls P g args s (fun v s' => v = F x ∧ s' = s)) : DrwV P g args F p := fun s H hh =>
  (h (s.ext [])).mono fun v s' hv => by
    obtain ⟨rfl, rfl⟩ := hv
    exact ⟨x, s, hp, rfl, rfl, hh⟩
theorem LOps.drawV {P : Program} {N : Nat} {ops : Array Oper} {l : List Oper} {K : Kn → S → Prop} {L : Kn} {s : S} {d : Nat} {ty : TypeId} {p : String} {a : Array Edge} {H : List BE} {f : Operand} {g : FuncId} {args : Array Operand} {B : Array TypeId} {vs : List V} {α : Type} {F : α → V} {q : α → Prop}
    (hf : opd L f = some (.fn g [])) (ha : opdL L args.toList = some vs) (hok : CallOk P g) (hh : Hold s s.next H) (hc : DrwV P g vs F q) (hk : ∀ (s' : S) (x : α), q x → Hold s' s'.next H → LOps P N ops l K ((d, F x) :: L) (s'.ext [])) :
    LOps P N ops (⟨some d, .call ⟨.value f, args, B⟩, ty, p, a, none⟩ :: l) K L (s.ext []) := by
  refine .call hf ha (appO_nil _) hok (hc s H hh) fun v s' hv => ?_
  obtain ⟨x, t, h1, rfl, rfl, h3⟩ := hv
  exact hk t x h1 h3

end Go.Proofs.Ytkkifdgnebbghaa
