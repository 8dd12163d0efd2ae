/-
  Matches, StarOf and Find, of the program and of the reference. Own work; no condition.
-/
import Derived.Test.YtehmlklfbllgcaaGreatDScope
namespace Go.Proofs.YtehmlklfbllgcaaGreat
open Go
set_option linter.unusedSimpArgs false
set_option linter.unusedVariables false





/-- What is found: which scope, which column of it; and how it went. -/
def findFrom (qual name : List UInt8) : List Scope → Nat → Bind × Int
  | [], _ => (⟨0, 0, 0⟩, 3)
  | s :: env, up => match s.matches qual name with
    | [] => findFrom qual name env (up + 1)
    | [a] => (⟨up, a, (s.names[a.toNat]?.map Named.type).getD 0⟩, 0)
    | _ => (⟨0, 0, 0⟩, 4)
theorem hits_lt {α : Type} {p : α → Bool} {xs : List α} : ∀ {i : Nat} {a : Int}, a ∈ hits p xs i → 0 ≤ a ∧ a < i ∧ a < xs.length
  | 0, a, h => by cases h
  | i + 1, a, h => by
    unfold hits at h
    rcases List.mem_append.1 h with h | h
    · have := hits_lt h; omega
    · split at h
      · rename_i x hx
        have hl := (List.getElem?_eq_some_iff.1 hx).1
        split at h
        · simp at h; omega
        · cases h
      · cases h
def findV (r : Bind × Int) : V := .tup [r.1.toV, .int .i64 r.2]
@[simp] theorem findV_dat (r : Bind × Int) : (findV r).dat = true := by simp [findV]
theorem find_drop {qual name : List UInt8} {env : List Scope} {i : Nat} (h : i < env.length) : findFrom qual name (env.drop i) i = match env[i].matches qual name with
    | [] => findFrom qual name (env.drop (i + 1)) (i + 1)
    | [a] => (⟨i, a, (env[i].names[a.toNat]?.map Named.type).getD 0⟩, 0)
    | _ => (⟨0, 0, 0⟩, 4) := by
  rw [List.drop_eq_getElem_cons h, findFrom]




end Go.Proofs.YtehmlklfbllgcaaGreat
