/-
  Rows in memory of one's own, exchanged and sorted in place: the library's small functions. Own work; no condition.
-/
import Derived.Test.YtkkifdgnebbghaaDStabC
import Derived.Test.YtkkifdgnebbghaaVStab
namespace Go.Proofs.Ytkkifdgnebbghaa
open Go
set_option linter.unusedSimpArgs false
set_option linter.unusedVariables false

abbrev rowV (xs : List (List Val)) (rest : List V) : List V := xs.map Val.toVS ++ rest
/-- What a function does with the rows in a variable. -/
def SrtC (P : Program) (g : FuncId) (args : List V) (l : Nat) (rest : List V) (xs : List (List Val)) (R : List (List Val) → Prop) : Prop :=
  ∀ (s : S) (H : List BE), Hold s s.next (.cell l (rowV xs rest) :: H) → VCalls P g args (s.ext []) (fun v t => v = .tup [] ∧ ∃ (ys : List (List Val)) (s' : S), R ys ∧ t = s'.ext [] ∧ Hold s' s'.next (.cell l (rowV ys rest) :: H))
theorem rowV_at {xs : List (List Val)} {rest : List V} {j : Nat} {x : List Val} (h : xs[j]? = some x) : (rowV xs rest)[j]? = some (Val.toVS x) := by
  have hj := (List.getElem?_eq_some_iff.1 h).1
  unfold rowV
  rw [List.getElem?_append_left (by simpa using hj), List.getElem?_map, h]
  rfl
theorem rowV_set {xs : List (List Val)} {rest : List V} {j : Nat} {x : List Val} (hj : j < xs.length) : (rowV xs rest).set j (Val.toVS x) = rowV (xs.set j x) rest := by
  unfold rowV
  rw [List.set_append_left _ _ (by simpa using hj), List.map_set]
theorem swap_set {α : Type} (P Q R : List α) (u w : α) : ((P ++ u :: (Q ++ w :: R)).set P.length w).set (P.length + 1 + Q.length) u = P ++ w :: (Q ++ u :: R) := by
  rw [List.set_append_right _ _ (Nat.le_refl _), Nat.sub_self, List.set_cons_zero, List.set_append_right _ _ (by omega), show P.length + 1 + Q.length - P.length = Q.length + 1 by omega, List.set_cons_succ, List.set_append_right _ _ (Nat.le_refl _), Nat.sub_self, List.set_cons_zero]
theorem swap_at1 {α : Type} (P Q R : List α) (u w : α) : (P ++ u :: (Q ++ w :: R))[P.length]? = some u := by
  rw [List.getElem?_append_right (Nat.le_refl _), Nat.sub_self, List.getElem?_cons_zero]
theorem swap_at2 {α : Type} (P Q R : List α) (u w : α) : (P ++ u :: (Q ++ w :: R))[P.length + 1 + Q.length]? = some w := by
  rw [List.getElem?_append_right (by omega), show P.length + 1 + Q.length - P.length = Q.length + 1 by omega, List.getElem?_cons_succ, List.getElem?_append_right (Nat.le_refl _), Nat.sub_self, List.getElem?_cons_zero]

def swp (A U M W Z : List (List Val)) (i : Nat) : List (List Val) := A ++ (W.take i ++ U.drop i) ++ (M ++ (U.take i ++ W.drop i) ++ Z)
set_option maxHeartbeats 2000000 in
theorem swapRange_c {A U M W Z : List (List Val)} {c l n : Nat} {rest : List V} {za zb zn : Int} {f : V} (hUW : U.length = W.length) (ha : za = (A.length : Int)) (hb : zb = ((A.length + U.length + M.length : Nat) : Int)) (hn : zn = (U.length : Int)) (hl : n = (A ++ U ++ (M ++ W ++ Z)).length) (hbig : n ≤ 1048576) :
    SrtC Try.prog 40 [.slm (.is c) l 0 n, .int .i64 za, .int .i64 zb, .int .i64 zn, f] l rest (A ++ U ++ (M ++ W ++ Z)) (fun ys => ys = A ++ W ++ (M ++ U ++ Z)) := by
  intro s H hh
  subst ha hb hn
  simp only [List.length_append] at hl
  refine LCalls.body0 Try.func40 rfl (by kernel_rfl) ?_
  repeat' first
    | (refine kOps ?_; first | (refine LOps.nil ?_) | (refine LOps.ev tT_ok rfl ?_))
    | (refine kWL ?_; first | (refine WL.seq ?_) | (refine WL.region (by kernel_rfl) ?_) | (refine WL.block ?_))
    | (refine lthen_n ?_)
  refine WL.loopH (fun i : Nat => U.length - i) (fun i => [(0, .slm (.is c) l 0 n), (1, .int .i64 (A.length : Int)), (2, .int .i64 ((A.length + U.length + M.length : Nat) : Int)), (3, .int .i64 (U.length : Int)), (10, .int .i64 (i : Int))]) (fun i => .cell l (rowV (swp A U M W Z i) rest) :: H)
    (fun i => i ≤ U.length) 0 (Nat.zero_le _) ⟨rfl, rfl, rfl, rfl, rfl, trivial⟩ (by simpa [swp] using hh) (Sel.refl _) (fun i s hi hh => ?_)
  rcases Nat.lt_or_ge i U.length with hlt | hge
  · have hlw : i < W.length := by omega
    have e1 : swp A U M W Z i = (A ++ W.take i) ++ U[i] :: ((U.drop (i + 1) ++ (M ++ U.take i)) ++ W[i] :: (W.drop (i + 1) ++ Z)) := by
      unfold swp
      rw [List.drop_eq_getElem_cons hlt, List.drop_eq_getElem_cons hlw]
      simp only [List.append_assoc, List.cons_append, List.nil_append]
    have e2 : swp A U M W Z (i + 1) = (A ++ W.take i) ++ W[i] :: ((U.drop (i + 1) ++ (M ++ U.take i)) ++ U[i] :: (W.drop (i + 1) ++ Z)) := by
      unfold swp
      rw [List.take_succ_eq_append_getElem hlt, List.take_succ_eq_append_getElem hlw]
      simp only [List.append_assoc, List.cons_append, List.nil_append]
    have p1 : (A ++ W.take i).length = A.length + i := by rw [List.length_append, List.length_take]; omega
    have p2 : (A ++ W.take i).length + 1 + (U.drop (i + 1) ++ (M ++ U.take i)).length = A.length + U.length + M.length + i := by simp only [List.length_append, List.length_take, List.length_drop]; omega
    have a1 := swap_at1 (A ++ W.take i) (U.drop (i + 1) ++ (M ++ U.take i)) (W.drop (i + 1) ++ Z) U[i] W[i]
    have a2 := swap_at2 (A ++ W.take i) (U.drop (i + 1) ++ (M ++ U.take i)) (W.drop (i + 1) ++ Z) U[i] W[i]
    have a3 := swap_set (A ++ W.take i) (U.drop (i + 1) ++ (M ++ U.take i)) (W.drop (i + 1) ++ Z) U[i] W[i]
    rw [← e1, p1] at a1
    rw [← e1, p2] at a2
    rw [← e1, ← e2, p2, p1] at a3
    have hlen : (swp A U M W Z i).length = n := by unfold swp; simp only [List.length_append, List.length_take, List.length_drop]; omega
    have hz1 : (A.length : Int) + (i : Int) = ((A.length + i : Nat) : Int) := by omega
    have hz2 : ((A.length + U.length + M.length : Nat) : Int) + (i : Int) = ((A.length + U.length + M.length + i : Nat) : Int) := by omega
    have b1 : A.length + i < n := by omega
    have b2 : A.length + U.length + M.length + i < n := by omega
    have c1 : A.length + i < (rowV (swp A U M W Z i) rest).length := by unfold rowV; simp only [List.length_append, List.length_map]; omega
    have c2 : A.length + U.length + M.length + i < ((rowV (swp A U M W Z i) rest).set (A.length + i) (Val.toVS W[i])).length := by rw [List.length_set]; unfold rowV; simp only [List.length_append, List.length_map]; omega
    have d1 : (rowV (swp A U M W Z i) rest)[A.length + i]? = some (Val.toVS U[i]) := rowV_at a1
    have d2 : (rowV (swp A U M W Z i) rest)[A.length + U.length + M.length + i]? = some (Val.toVS W[i]) := rowV_at a2
    have d3 : ((rowV (swp A U M W Z i) rest).set (A.length + i) (Val.toVS W[i])).set (A.length + U.length + M.length + i) (Val.toVS U[i]) = rowV (swp A U M W Z (i + 1)) rest := by
      rw [rowV_set (by omega), rowV_set (by rw [List.length_set]; omega), a3]
    generalize rowV (swp A U M W Z i) rest = cs at hh c1 c2 d1 d2 d3
    generalize U[i] = u at d1 d3
    generalize W[i] = w at d2 d3 c2
    repeat' first
      | (refine kStore ?_ ; (first | (refine LOps.storeAt tT_ok 0 hh rfl rfl rfl rfl rfl rfl rfl rfl c1 rfl ?_) | (refine LOps.storeAt tT_ok 0 hh rfl rfl rfl rfl rfl rfl rfl rfl c2 rfl ?_)) ; intro s hh)
      | (refine kOps ?_; first | (refine LOps.nil ?_) | (refine LOps.ev tT_ok rfl ?_) | (refine kBin ?_; first | (refine LOps.ans (AnsL.add rfl rfl ?_) ?_; (focus (constructor <;> omega)))))
      | (refine kWL ?_; first | (refine WL.seq ?_) | (refine WL.region (by kernel_rfl) ?_) | (refine WL.drawn (id := 3) [0, 1, 2, 3, 4, 5, 6, 7, 8, 9, 10, 11, 12, 13, 14, 15, 16, 17, 18, 19, 20, 21, 22, 23] [21, 23] [[], [], [], [1, 2], [], [], [], [5, 6], [], [], [], [9, 10], [8, 9, 10, 11], [8, 9, 10, 11, 12], [], [], [], [15, 16], [14, 15, 16, 17], [14, 15, 16, 17, 18], [0, 1, 2, 3, 8, 9, 10, 11, 12, 13, 14, 15, 16, 17, 18, 19], [0, 1, 2, 3, 8, 9, 10, 11, 12, 13, 14, 15, 16, 17, 18, 19, 20], [0, 1, 2, 3, 4, 5, 6, 7, 8, 9, 10, 11, 12, 13, 14, 15, 16, 17, 18, 19, 20, 21], [0, 1, 2, 3, 4, 5, 6, 7, 8, 9, 10, 11, 12, 13, 14, 15, 16, 17, 18, 19, 20, 21, 22]] (by kernel_rfl) (by kernel_rfl) ?_) | (refine WL.block ?_) | (refine WL.skip ?_) | (refine kCond ?_; first | (refine WL.condT' rfl ?_ ?_; (focus (first | (simp only [decide_eq_true_eq, decide_eq_false_iff_not, Bool.not_eq_true', Bool.not_eq_false', Int.ofNat_lt, Int.ofNat_le, Int.ofNat_inj, not_true_eq_false, not_false_eq_true]; omega))))))
      | (refine kDr ?_; first | (refine LDr.nil ?_) | (refine LDr.fl rfl rfl (.ev tT_ok rfl) ?_) | (refine kDLoad rfl ?_; first | (refine LDr.fl rfl rfl (AnsL.loadAt tT_ok 0 hh rfl rfl rfl rfl rfl rfl d1) ?_) | (refine LDr.fl rfl rfl (AnsL.loadAt tT_ok 0 hh rfl rfl rfl rfl rfl rfl d2) ?_)) | (refine kDBin rfl ?_; first | (refine LDr.fl rfl rfl (AnsL.add rfl rfl ?_) ?_; (focus (constructor <;> omega)))) | (refine kDIdx rfl ?_; first | (refine LDr.fl rfl rfl (AnsL.idxAt tT_ok (A.length + i) rfl rfl rfl rfl rfl hz1 b1) ?_) | (refine LDr.fl rfl rfl (AnsL.idxAt tT_ok (A.length + U.length + M.length + i) rfl rfl rfl rfl rfl hz2 b2) ?_)) | (refine LDr.eff rfl rfl rfl ?_))
      | (refine lthen_n ?_)
      | (refine lblock_n ?_)
      | (refine And.intro ?_ ?_)
      | (exact StsL.nil)
      | (refine StsL.cons ?_ ?_)
      | (refine StL.fl rfl rfl (.ev tT_ok rfl))
      | (refine StL.fl rfl rfl (AnsL.add rfl rfl ?_); (focus (constructor <;> omega)))
    rw [d3] at hh
    exact lbackH.of (i + 1) ⟨rfl, rfl, rfl, rfl, rfl, trivial⟩ hh (Sel.refl _) (by omega) (by omega)
  · have : i = U.length := by omega
    subst this
    repeat' first
      | (refine kOps ?_; first | (refine LOps.nil ?_) | (refine LOps.ev tT_ok rfl ?_))
      | (refine kWL ?_; first | (refine WL.seq ?_) | (refine WL.region (by kernel_rfl) ?_) | (refine WL.exit ?_) | (refine kCond ?_; first | (refine WL.condF' rfl ?_ ?_; (focus (first | (simp only [decide_eq_true_eq, decide_eq_false_iff_not, Bool.not_eq_true', Bool.not_eq_false', Int.ofNat_lt, Int.ofNat_le, Int.ofNat_inj, not_true_eq_false, not_false_eq_true]; omega))))))
      | (refine lthen_n ?_)
      | (refine lthen_e ?_)
      | (refine lblock_e ?_)
      | (refine lbackH_e ?_)
    refine ⟨⟨[], fun σ _ => rfl, rfl, _, s, ?_, rfl, hh⟩⟩
    unfold swp
    rw [List.take_of_length_le (by omega), List.drop_of_length_le (by omega), List.take_of_length_le (by omega), List.drop_of_length_le (by omega)]
    simp

end Go.Proofs.Ytkkifdgnebbghaa
