/-
  From the value level to a law's row: the world in which a law is called. Own work; no condition.
-/
import Derived.Test.YtnldmchbcppamaaVExt
namespace Go.Proofs.Ytnldmchbcppamaa
open Go Go.RowKit

/-- All that is there is held for good. -/
def env0 (w : World) : Env := { w, imm := fun g o => ∃ v, w.cell? ⟨g, o, none⟩ = some v, loc := fun _ => none, fam := fun _ => none }

def s0 : S := { vars := fun _ => none, fams := fun _ => none, next := 1 }

theorem rel0 (w : World) : RelS (env0 w) s0 :=
  ⟨fun _ _ h => (by cases h), fun _ _ _ h => (by cases h), fun _ _ _ h => (by cases h), fun _ _ _ _ _ h => (by cases h), fun _ _ _ _ h => (by cases h), fun _ _ => ⟨rfl, rfl⟩, Nat.one_pos, fun _ _ h => h⟩

/-- A law: it returns true, and what was there is as it was. -/
theorem law_calls {P : Program} {f : FuncId} {args : List V} {vals : List Value} {w : World} (h : ∀ s, VCalls P f args s (fun v _ => v = .bool true)) (hr : RepL (env0 w) args vals) :
    Calls P f vals.toArray w fun e w' => e = .returned (.bool true) ∧ Below w.heap.size w w' := by
  refine (h s0 (env0 w) vals (rel0 w) hr).mono ?_
  rintro e w' ⟨E', v, val, s', rfl, rfl, rfl, _, hv, st⟩
  cases hv
  refine ⟨rfl, ⟨st.os, st.tape, st.output, st.size, fun k hk => st.block k hk ?_⟩⟩
  rintro (⟨l, hl, _⟩ | ⟨id, F, hl, _⟩) <;> cases hl

end Go.Proofs.Ytnldmchbcppamaa
