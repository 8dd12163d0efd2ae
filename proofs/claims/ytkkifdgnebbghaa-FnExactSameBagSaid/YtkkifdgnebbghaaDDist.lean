/-
  DistinctRows: results in new memory, and the law. Own work; no condition.
-/
import Derived.Test.YtkkifdgnebbghaaDOwn
import Derived.Test.YtkkifdgnebbghaaDSame
import Derived.Test.YtkkifdgnebbghaaVNil
namespace Go.Proofs.Ytkkifdgnebbghaa
open Go
set_option linter.unusedSimpArgs false
set_option linter.unusedVariables false

def dstep (acc : List (List Val)) (row : List Val) : List (List Val) := if acc.any (fun o => rowEq o row) then acc else acc ++ [row]
def distinct (l : List (List Val)) : List (List Val) := l.foldl dstep []
theorem dist_take {l : List (List Val)} {i : Nat} (h : i < l.length) : (l.take (i + 1)).foldl dstep [] = dstep ((l.take i).foldl dstep []) l[i] := by
  rw [List.take_succ_eq_append_getElem h, List.foldl_append]
  rfl
theorem dist_mem : ∀ (l acc : List (List Val)) (x : List Val), x ∈ l.foldl dstep acc → x ∈ acc ∨ x ∈ l
  | [], acc, x, h => .inl h
  | r :: l, acc, x, h => by
    rcases dist_mem l _ x h with h | h
    · unfold dstep at h
      split at h
      · exact .inl h
      · rcases List.mem_append.1 h with h | h
        · exact .inl h
        · simp at h; exact .inr (by simp [h])
    · exact .inr (by simp [h])
theorem dist_len : ∀ (l acc : List (List Val)), (l.foldl dstep acc).length ≤ acc.length + l.length
  | [], acc => by simp
  | r :: l, acc => by
    have := dist_len l (dstep acc r)
    have h2 : (dstep acc r).length ≤ acc.length + 1 := by
      unfold dstep; split <;> simp
    simp only [List.foldl_cons, List.length_cons]
    omega
theorem slW_append {α : Type} (f : α → Nat) (a b : List α) : slW f (a ++ b) = slW f a + slW f b := by
  simp only [slW, sumW, List.length_append, List.map_append, List.sum_append]; omega
theorem slW_cons {α : Type} (f : α → Nat) (a : α) (b : List α) : slW f (a :: b) = 1 + f a + slW f b := by
  simp only [slW, sumW, List.length_cons, List.map_cons, List.sum_cons]; omega
theorem dist_wt (f : List Val → Nat) : ∀ (l acc : List (List Val)), slW f (l.foldl dstep acc) ≤ slW f acc + slW f l
  | [], acc => by simp [slW, sumW]
  | r :: l, acc => by
    have h1 := dist_wt f l (dstep acc r)
    have h2 : slW f (dstep acc r) ≤ slW f acc + (1 + f r) := by
      unfold dstep
      split
      · omega
      · rw [slW_append, slW_cons]; simp [slW, sumW]
    rw [List.foldl_cons, slW_cons]
    omega
theorem same_comm {α : Type} {p : α → α → Bool} (h : ∀ x y, p x y = p y x) : ∀ (a b : List α), same p a b = same p b a
  | [], [] => rfl
  | [], y :: ys => by simp [same]
  | x :: xs, [] => by simp [same]
  | x :: xs, y :: ys => by
    have := same_comm h xs ys
    simp only [same, List.length_cons, eqAll, Nat.add_right_cancel_iff] at this ⊢
    rw [h x y]
    by_cases e : xs.length = ys.length
    · simp only [e, decide_true, Bool.true_and] at this ⊢
      rw [this]
    · have e' : ¬ ys.length = xs.length := fun q => e q.symm
      simp [e, e']
theorem rowEq_comm (a b : List Val) : rowEq a b = rowEq b a := same_comm (fun x y => by
  simp only [valEq]
  rw [show decide (x.kind = y.kind) = decide (y.kind = x.kind) from decide_eq_decide.2 eq_comm, show decide (x.num = y.num) = decide (y.num = x.num) from decide_eq_decide.2 eq_comm, show decide (x.text = y.text) = decide (y.text = x.text) from decide_eq_decide.2 eq_comm]) a b
theorem rows_mem {rows : List (List Val)} (h : slW (slW Val.wt) rows ≤ 1048576) {x : List Val} (hx : x ∈ rows) : x.length ≤ 1048576 := rows_len h hx

theorem specl5Row_o (row : List Val) (h : row.length ≤ 1048576) (s : S) : VCalls Try.prog 19 [.sl 0 (row.map Val.toV)] s (fun v t => Own2 (Val.toVS row) v t) := by
  refine LCalls.body Try.func19 rfl (by kernel_rfl) ?_
  repeat' first
    | (refine kOps ?_; first | (refine LOps.nil ?_) | (refine LOps.ev tT_ok rfl ?_) | (refine kBsl ?_; first | (refine LOps.bsl0 tT_ok rfl rfl rfl rfl rfl ?_)) | (refine kApp ?_; first | (refine LOps.app0 tT_ok rfl rfl rfl rfl rfl rfl rfl rfl rfl rfl rfl ?_ (AppB.of ?_ rfl) ?_; (focus (first | exact Elems.of rfl | exact Elems.map fun _ => rfl | exact PE.els _ (fun _ => rfl) _ | exact EE.els _ (fun _ => rfl) _)); (focus (first | omega | (simp; omega))))))
    | (refine kWL ?_; first | (refine WL.seq ?_) | (refine WL.region (by kernel_rfl) ?_) | (refine WL.ret ?_))
    | (refine lthen_n ?_)
    | (refine LPost.r1 (r := .tmp 2) (.inl rfl) (Res1.tmp rfl) ?_)
  exact Own2.fam (f := Val.toV) (cs := row) (szf := 3) 3 (by simp [nthO]) (fun _ => rfl) (fun _ => rfl)




end Go.Proofs.Ytkkifdgnebbghaa
