/-
  Slices that are appended to, whose elements stay as they are; results of draws taken for plain values. Own work; no condition.
-/
import Derived.Test.YtehmlklfbllgcaaGreatVDraw
namespace Go.Proofs.YtehmlklfbllgcaaGreat
open Go
section
variable {P : Program} {N : Nat} {ops : Array Oper} {l : List Oper} {K : Kn → S → Prop} {L : Kn} {s : S} {tt : BT} {d : Nat} {ty : TypeId} {p : String} {a : Array Edge} {H : List BE}
end
/-- The front of a slice. -/
theorem AnsL.slcT {P : Program} {L : Kn} {s : S} {tt : BT} (ht : tt.ok P) {us : List V} {T e : TypeId} {t te : Ty} {x i : Operand} {id n : Nat} {k : IntKind} (hx : opd L x = some (.sl id us)) (hT : tt.get T = some t) (hkd : t.kd = .slice e) (hte : tt.get e = some te) (hi : opd L i = some (.int k (n : Int)))
    (hn : n ≤ us.length) : AnsL P (.slice T x none (some i) none) L s (.sl 0 (us.take n)) := by
  refine AnsL.slc (lo' := none) (hi' := some (.int k (n : Int))) (mx' := none) hx rfl (by simp only [opdO, hi]) rfl ?_
  simp only [vslice, ht.get hT, hkd, ht.get hte, Option.bind_some, bound, Int.toNat_natCast, Int.natCast_nonneg, if_true]
  rw [if_pos ⟨Nat.zero_le _, hn, by simp⟩, List.drop_zero, Nat.sub_zero]
/-- A slice made that nobody writes: it changes nothing that anybody sees. -/
theorem AnsL.mkF {P : Program} {L : Kn} {s : S} {tt : BT} (ht : tt.ok P) {T e : TypeId} {t te : Ty} {x y : Operand} {k k' : IntKind} {m : Nat} (hx : opd L x = some (.int k (m : Int))) (hy : opd L y = some (.int k' (m : Int))) (hT : tt.get T = some t) (hkd : t.kd = .slice e) (hte : tt.get e = some te)
    (hz : (Nat.beq te.zero.length te.size && Nat.blt 0 te.size) = true) (hb : AppB m te.bytes) : AnsL P (.makeSlice T x y) L s (.sl 0 (List.replicate m (.agg te.zero))) := by
  simp only [Bool.and_eq_true] at hz
  have h1 := hb.1
  have h2 := hb.2
  have h3 : (te.bytes : Int) * (m : Int) ≤ 140737488355328 := by rw [Int.mul_comm, ← Int.natCast_mul]; omega
  refine ⟨fun σ hσ dst ty p a g K hk => ?_⟩
  unfold VOp
  refine .inr ⟨_, _, _, opd_eq hσ hx, opd_eq hσ hy, ?_, hk⟩
  simp only [vmkF, ht.get hT, hkd, ht.get hte, Option.bind_some]
  rw [if_pos ⟨Nat.eq_of_beq_eq_true hz.1, by simpa using hz.2, by omega, trivial, by omega, h3⟩, Int.toNat_natCast]
/-- A function of whose answer some property is known. -/
def DrwV (P : Program) (g : FuncId) (args : List V) {α : Type} (F : α → V) (p : α → Prop) : Prop := ∀ (s : S) (H : List BE), Hold s s.next H → VCalls P g args (s.ext []) (fun v t => ∃ (x : α) (s' : S), p x ∧ v = F x ∧ t = s'.ext [] ∧ Hold s' s'.next H)
theorem DrwV.of {P : Program} {g : FuncId} {args : List V} {α : Type} {F : α → V} {p : α → Prop} (x : α) (hp : p x) (h : ∀ s, VCalls P g args s (fun v s' => v = F x ∧ s' = s)) : DrwV P g args F p := fun s H hh =>
  (h (s.ext [])).mono fun v s' hv => by
    obtain ⟨rfl, rfl⟩ := hv
    exact ⟨x, s, hp, rfl, rfl, hh⟩
end Go.Proofs.YtehmlklfbllgcaaGreat
