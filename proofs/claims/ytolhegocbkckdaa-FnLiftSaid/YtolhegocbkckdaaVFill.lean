/-
  Made slices filled from head to end with what calls have answered in new memory. Own work; no condition.
-/
import Derived.Test.YtolhegocbkckdaaVBook
namespace Go.Proofs.Ytolhegocbkckdaa
open Go
variable {P : Program} {N : Nat} {ops : Array Oper} {l : List Oper} {K : Kn → S → Prop} {L : Kn} {s : S} {xs : List Own} {tt : BT} {d : Nat} {ty : TypeId} {p : String} {a : Array Edge}
theorem thwL_len' : ∀ (vs : List V) (n : Nat), (thwL n vs).1.length = vs.length := thwL_len
theorem AppB.ofW {n b : Nat} (h : n ≤ 68719476736) (hb : Nat.ble b 2048 = true) : AppB n b := by
  have hb' : b ≤ 2048 := Nat.le_of_ble_eq_true hb
  refine ⟨?_, by omega⟩
  have := Nat.mul_le_mul h hb'
  omega
theorem flat_rep (z : List V) : ∀ n, (List.replicate n z).flatten.length = n * z.length
  | 0 => by simp
  | n + 1 => by rw [List.replicate_succ, List.flatten_cons, List.length_append, flat_rep z n, Nat.add_mul]; omega
theorem Own2.filled {ds : List V} {ex : Cp} {n sz : Nat} (hn : n = ds.length) (hp : V.plainL ds = true) (hsz : ∀ x ∈ ds, x.cells.length = sz) :
    Own2 (.sl 0 ds) (.slm ex (s.next + 0) 0 n) (s.ext (.var (V.flat (thwL (s.next + 1) ds).1) :: thawedL (s.next + 1) ds)) := by
  subst hn
  cases h : ds.isEmpty with
  | true =>
    have : ds = [] := by simpa using h
    subst this
    exact ⟨[], .emp', List.nodup_nil⟩
  | false =>
    refine ⟨_, .slm h rfl hsz (by rw [ext_vars]; rfl) (TrL_flat ds (s.next + 1) hp ?_), ?_⟩
    · have := HasV.ext (s := s) (A := [.var (V.flat (thwL (s.next + 1) ds).1)]) (B := []) (os := (thwL (s.next + 1) ds).2) (n := s.next + 1) (by simp)
      rw [List.append_nil] at this
      exact this
    · rw [List.nodup_append]
      refine ⟨vl_nodup _ _, by simp, ?_⟩
      intro p hp q hq e
      subst e
      rw [mem_vl] at hp
      simp only [List.mem_singleton] at hq
      subst hq
      simp only at hp
      omega
end Go.Proofs.Ytolhegocbkckdaa
