/-
  From the value level to a law's row: the world in which a law is called. Own work; no condition.
-/
import Derived.Test.YtejdgmdebfkkeaaVExt
namespace Go.Proofs.Ytejdgmdebfkkeaa
open Go Go.RowKit

/-- All that is there is held for good. -/
def env0 (w : World) : Env := { w, imm := fun g o => ∃ v, w.cell? ⟨g, o, none⟩ = some v, loc := fun _ => none, fam := fun _ => none }

def s0 : S := { vars := fun _ => none, fams := fun _ => none, next := 1 }

theorem rel0 (w : World) : RelS (env0 w) s0 :=
  ⟨fun _ _ h => (by cases h), fun _ _ _ h => (by cases h), fun _ _ _ h => (by cases h), fun _ _ _ _ _ h => (by cases h), fun _ _ _ _ h => (by cases h), fun _ _ => ⟨rfl, rfl⟩, Nat.one_pos, fun _ _ h => h⟩

/-- A law: it returns true, and what was there is as it was. -/
theorem law_calls {P : Program} {f : FuncId} {args : List V} {vals : List Value} {w : World} (h : ∀ s, VCalls P f args s (fun v _ => v = .bool true)) (hr : RepL (env0 w) args vals) :
    Calls P f vals.toArray w fun e w' => e = .returned (.bool true) ∧ Below w.heap.size w w' := by
  refine (h s0 (env0 w) vals (rel0 w) hr).mono ?_
  rintro e w' ⟨E', v, val, s', rfl, rfl, rfl, _, hv, st⟩
  cases hv
  refine ⟨rfl, ⟨st.os, st.tape, st.output, st.size, fun k hk => st.block k hk ?_⟩⟩
  rintro (⟨l, hl, _⟩ | ⟨id, F, hl, _⟩) <;> cases hl

/-! ### Short strings are not too long -/
theorem le_maxLen {n : Nat} (h : n ≤ 1000000000000000000) : n ≤ maxLen := by unfold maxLen; omega
@[simp] theorem maxLen_1 : 1 ≤ maxLen := le_maxLen (by omega)
@[simp] theorem maxLen_2 : 2 ≤ maxLen := le_maxLen (by omega)
@[simp] theorem maxLen_3 : 3 ≤ maxLen := le_maxLen (by omega)
@[simp] theorem maxLen_4 : 4 ≤ maxLen := le_maxLen (by omega)
@[simp] theorem maxLen_5 : 5 ≤ maxLen := le_maxLen (by omega)
@[simp] theorem maxLen_6 : 6 ≤ maxLen := le_maxLen (by omega)
@[simp] theorem maxLen_7 : 7 ≤ maxLen := le_maxLen (by omega)
@[simp] theorem maxLen_8 : 8 ≤ maxLen := le_maxLen (by omega)
@[simp] theorem maxLen_9 : 9 ≤ maxLen := le_maxLen (by omega)
@[simp] theorem maxLen_10 : 10 ≤ maxLen := le_maxLen (by omega)
@[simp] theorem maxLen_11 : 11 ≤ maxLen := le_maxLen (by omega)
@[simp] theorem maxLen_12 : 12 ≤ maxLen := le_maxLen (by omega)
@[simp] theorem maxLen_13 : 13 ≤ maxLen := le_maxLen (by omega)
@[simp] theorem maxLen_14 : 14 ≤ maxLen := le_maxLen (by omega)
@[simp] theorem maxLen_15 : 15 ≤ maxLen := le_maxLen (by omega)
@[simp] theorem maxLen_16 : 16 ≤ maxLen := le_maxLen (by omega)
@[simp] theorem maxLen_17 : 17 ≤ maxLen := le_maxLen (by omega)
@[simp] theorem maxLen_18 : 18 ≤ maxLen := le_maxLen (by omega)
@[simp] theorem maxLen_19 : 19 ≤ maxLen := le_maxLen (by omega)
@[simp] theorem maxLen_20 : 20 ≤ maxLen := le_maxLen (by omega)
@[simp] theorem maxLen_21 : 21 ≤ maxLen := le_maxLen (by omega)
@[simp] theorem maxLen_22 : 22 ≤ maxLen := le_maxLen (by omega)
@[simp] theorem maxLen_23 : 23 ≤ maxLen := le_maxLen (by omega)
@[simp] theorem maxLen_24 : 24 ≤ maxLen := le_maxLen (by omega)
@[simp] theorem maxLen_25 : 25 ≤ maxLen := le_maxLen (by omega)
@[simp] theorem maxLen_26 : 26 ≤ maxLen := le_maxLen (by omega)
@[simp] theorem maxLen_27 : 27 ≤ maxLen := le_maxLen (by omega)
@[simp] theorem maxLen_28 : 28 ≤ maxLen := le_maxLen (by omega)
@[simp] theorem maxLen_29 : 29 ≤ maxLen := le_maxLen (by omega)
@[simp] theorem maxLen_30 : 30 ≤ maxLen := le_maxLen (by omega)
@[simp] theorem maxLen_31 : 31 ≤ maxLen := le_maxLen (by omega)
@[simp] theorem maxLen_32 : 32 ≤ maxLen := le_maxLen (by omega)
@[simp] theorem maxLen_33 : 33 ≤ maxLen := le_maxLen (by omega)
@[simp] theorem maxLen_34 : 34 ≤ maxLen := le_maxLen (by omega)
@[simp] theorem maxLen_35 : 35 ≤ maxLen := le_maxLen (by omega)
@[simp] theorem maxLen_36 : 36 ≤ maxLen := le_maxLen (by omega)
@[simp] theorem maxLen_37 : 37 ≤ maxLen := le_maxLen (by omega)
@[simp] theorem maxLen_38 : 38 ≤ maxLen := le_maxLen (by omega)
@[simp] theorem maxLen_39 : 39 ≤ maxLen := le_maxLen (by omega)
@[simp] theorem maxLen_40 : 40 ≤ maxLen := le_maxLen (by omega)
@[simp] theorem maxLen_41 : 41 ≤ maxLen := le_maxLen (by omega)
@[simp] theorem maxLen_42 : 42 ≤ maxLen := le_maxLen (by omega)
@[simp] theorem maxLen_43 : 43 ≤ maxLen := le_maxLen (by omega)
@[simp] theorem maxLen_44 : 44 ≤ maxLen := le_maxLen (by omega)
@[simp] theorem maxLen_45 : 45 ≤ maxLen := le_maxLen (by omega)
@[simp] theorem maxLen_46 : 46 ≤ maxLen := le_maxLen (by omega)
@[simp] theorem maxLen_47 : 47 ≤ maxLen := le_maxLen (by omega)
@[simp] theorem maxLen_48 : 48 ≤ maxLen := le_maxLen (by omega)
@[simp] theorem maxLen_49 : 49 ≤ maxLen := le_maxLen (by omega)
@[simp] theorem maxLen_50 : 50 ≤ maxLen := le_maxLen (by omega)
@[simp] theorem maxLen_51 : 51 ≤ maxLen := le_maxLen (by omega)
@[simp] theorem maxLen_52 : 52 ≤ maxLen := le_maxLen (by omega)
@[simp] theorem maxLen_53 : 53 ≤ maxLen := le_maxLen (by omega)
@[simp] theorem maxLen_54 : 54 ≤ maxLen := le_maxLen (by omega)
@[simp] theorem maxLen_55 : 55 ≤ maxLen := le_maxLen (by omega)
@[simp] theorem maxLen_56 : 56 ≤ maxLen := le_maxLen (by omega)
@[simp] theorem maxLen_57 : 57 ≤ maxLen := le_maxLen (by omega)
@[simp] theorem maxLen_58 : 58 ≤ maxLen := le_maxLen (by omega)
@[simp] theorem maxLen_59 : 59 ≤ maxLen := le_maxLen (by omega)
@[simp] theorem maxLen_60 : 60 ≤ maxLen := le_maxLen (by omega)
@[simp] theorem maxLen_61 : 61 ≤ maxLen := le_maxLen (by omega)
@[simp] theorem maxLen_62 : 62 ≤ maxLen := le_maxLen (by omega)
@[simp] theorem maxLen_63 : 63 ≤ maxLen := le_maxLen (by omega)
@[simp] theorem maxLen_64 : 64 ≤ maxLen := le_maxLen (by omega)

end Go.Proofs.Ytejdgmdebfkkeaa
