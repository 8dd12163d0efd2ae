/-
  A reading of a string of bytes that a law is given. Own work; no condition.
-/
import Derived.Test.YtkchiflcpecbeaaDDraw2
import Derived.Test.YtkchiflcpecbeaaVRow
namespace Go.Proofs.Ytkchiflcpecbeaa
open Go

theorem bytes_list : ∀ {xs : List V}, (∀ x ∈ xs, ∃ m : Int, x = .int .u8 m) → V.wfL xs = true → ∃ bs : List UInt8, xs = bs.map byteV
  | [], _, _ => ⟨[], rfl⟩
  | x :: xs, h, hw => by
    simp only [V.wfL, Bool.and_eq_true] at hw
    obtain ⟨m, rfl⟩ := h x (by simp)
    obtain ⟨bs, rfl⟩ := bytes_list (xs := xs) (fun y hy => h y (by simp [hy])) hw.2
    have hm := hw.1
    simp only [V.wf, min_u8, max_u8, Bool.and_eq_true, decide_eq_true_eq] at hm
    refine ⟨UInt8.ofNat m.toNat :: bs, ?_⟩
    simp only [List.map_cons, byteV, UInt8.toNat_ofNat']
    congr 2
    omega

theorem bytes_has {P : Program} {n : Nat} {t e : TypeId} {v : V} (ht : P.underlying t = some (.slice e)) (he : P.underlying e = some (.int .u8)) (h : Has P n t v) (hw : v.wf = true) : Bytes v := by
  rcases Has.slice ht h with rfl | ⟨n, xs, rfl, hx⟩
  · exact .inl rfl
  · simp only [V.wf, Bool.and_eq_true, decide_eq_true_eq] at hw
    obtain ⟨bs, rfl⟩ := bytes_list (fun x hx' => Has.int he (hx x hx')) hw.2
    exact .inr ⟨bs, rfl, by simpa using hw.1⟩

theorem bytes_len {b : V} (hb : Bytes b) : ∃ n : Nat, vlen Try.prog 36 b = some (.int .i64 n) := by
  rcases hb with rfl | ⟨bs, rfl, h⟩
  · exact ⟨0, by simp⟩
  · exact ⟨bs.length, by simp⟩

end Go.Proofs.Ytkchiflcpecbeaa
