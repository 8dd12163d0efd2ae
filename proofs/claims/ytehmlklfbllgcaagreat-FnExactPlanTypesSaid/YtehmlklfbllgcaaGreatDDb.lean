/-
  EmptyDb and RowTypes: results in new memory, and the laws. Own work; no condition.
-/
import Derived.Test.YtehmlklfbllgcaaGreatDTypes
namespace Go.Proofs.YtehmlklfbllgcaaGreat
open Go
set_option linter.unusedSimpArgs false
set_option linter.unusedVariables false
theorem slW_cons' {α : Type} (f : α → Nat) (a : α) (b : List α) : slW f (a :: b) = 1 + f a + slW f b := by
  simp only [slW, sumW, List.length_cons, List.map_cons, List.sum_cons]; omega
def emptyDb (c : Cat) : Db := ⟨List.replicate c.tables.length ⟨[]⟩⟩
theorem Own2.agg1 {d v : V} {t : S} (h : Own2 d v t) : Own2 (.agg [d]) (.agg [v]) t := by
  obtain ⟨ls, h1, h2⟩ := h
  exact ⟨ls ++ [], .agg (.cons h1 .nil), by rw [List.append_nil]; exact h2⟩
theorem emptyDb_toV (c : Cat) : (emptyDb c).toV = .agg [.sl 0 (List.replicate c.tables.length (Data.toV ⟨[]⟩))] := by simp [emptyDb, Db.toV]
theorem sc_tabs (l : List Tab) (h : slW Tab.wt l ≤ 1048576) : scL (l.map Tab.toV) ≤ 2097153 * l.length := by
  induction l with
  | nil => simp [scL]
  | cons t l ih =>
    rw [slW_cons'] at h
    have h1 := ih (by omega)
    have h2 := scL_map (f := Col.toV) 2 (fun _ => Nat.le_refl 2) t.cols
    have h3 := len_slW Col.wt t.cols
    simp only [Tab.wt] at h
    simp only [List.map_cons, scL, Tab.toV, sc, List.length_cons] at *
    omega
theorem plain_Tab (x : Tab) : x.toV.plain = true := plainL_cons rfl (plainL_cons (plain_ColS _) rfl)
def rowsOf (c : Cat) (ts : List Int) : List Int := ts.flatMap fun k => (c.tables[k.toNat]?.map Tab.types).getD []
def rowIn (c : Cat) (k : Int) : Bool := inR k 0 ((c.tables.length : Int) - 1)
def rowTy (c : Cat) (ts : List Int) : List Int × Bool := if ts.all (rowIn c) then (rowsOf c ts, true) else ([], false)
theorem rowsOf_len (c : Cat) (h : c.wt ≤ 1048576) (ts : List Int) : (rowsOf c ts).length ≤ 1048576 * ts.length := by
  induction ts with
  | nil => simp [rowsOf]
  | cons k ts ih =>
    have h1 : ((c.tables[k.toNat]?.map Tab.types).getD []).length ≤ 1048576 := by
      cases hk : c.tables[k.toNat]? with
      | none => simp
      | some t =>
        obtain ⟨hlt, e⟩ := List.getElem?_eq_some_iff.1 hk
        have h2 := mem_slW (f := Tab.wt) hlt
        rw [e] at h2
        have h3 := len_slW Col.wt t.cols
        simp only [Cat.wt] at h
        simp only [Tab.wt] at h2
        simp only [Option.map_some, Option.getD_some, Tab.types, List.length_map]
        omega
    simp only [rowsOf, List.flatMap_cons, List.length_append, List.length_cons] at *
    omega
theorem rowsOf_take {c : Cat} {ts : List Int} {i n : Nat} (hi : i < ts.length) (hn : ts[i] = (n : Int)) (hlt : n < c.tables.length) : rowsOf c (ts.take (i + 1)) = rowsOf c (ts.take i) ++ c.tables[n].types := by
  rw [List.take_succ_eq_append_getElem hi]
  simp [rowsOf, hn, hlt]
theorem all_take {α : Type} {p : α → Bool} {l : List α} {i : Nat} (hi : i < l.length) : (l.take (i + 1)).all p = ((l.take i).all p && p l[i]) := by
  rw [List.take_succ_eq_append_getElem hi, List.all_append]
  simp
theorem rowTy_no {c : Cat} {ts : List Int} {i : Nat} (hi : i < ts.length) (h : rowIn c ts[i] = false) : rowTy c ts = ([], false) := by
  have : ts.all (rowIn c) = false := by
    rw [List.all_eq_false]
    exact ⟨ts[i], List.getElem_mem hi, by simp [h]⟩
  simp [rowTy, this]
theorem rowIn_nat {c : Cat} {k : Int} (h : rowIn c k = true) : ∃ n : Nat, k = (n : Int) ∧ n < c.tables.length := by
  simp only [rowIn, inR, Bool.and_eq_true, decide_eq_true_eq] at h
  exact ⟨k.toNat, by omega, by omega⟩
def rowV (r : List Int × Bool) : V := .tup [ints r.1, .bool r.2]
end Go.Proofs.YtehmlklfbllgcaaGreat
