/-
  DistinctRows: results in new memory, and the law. Own work; no condition.
-/
import Derived.Test.YtmcbblcnfdgfmaaDOwn
import Derived.Test.YtmcbblcnfdgfmaaDSame
import Derived.Test.YtmcbblcnfdgfmaaVNil
namespace Go.Proofs.Ytmcbblcnfdgfmaa
open Go
set_option linter.unusedSimpArgs false
set_option linter.unusedVariables false

def dstep (acc : List (List Val)) (row : List Val) : List (List Val) := if acc.any (fun o => rowEq o row) then acc else acc ++ [row]
def distinct (l : List (List Val)) : List (List Val) := l.foldl dstep []
theorem dist_take {l : List (List Val)} {i : Nat} (h : i < l.length) : (l.take (i + 1)).foldl dstep [] = dstep ((l.take i).foldl dstep []) l[i] := by
  rw [List.take_succ_eq_append_getElem h, List.foldl_append]
  rfl
theorem dist_mem : ∀ (l acc : List (List Val)) (x : List Val), x ∈ l.foldl dstep acc → x ∈ acc ∨ x ∈ l
  | [], acc, x, h => .inl h
  | r :: l, acc, x, h => by
    rcases dist_mem l _ x h with h | h
    · unfold dstep at h
      split at h
      · exact .inl h
      · rcases List.mem_append.1 h with h | h
        · exact .inl h
        · simp at h; exact .inr (by simp [h])
    · exact .inr (by simp [h])
theorem dist_len : ∀ (l acc : List (List Val)), (l.foldl dstep acc).length ≤ acc.length + l.length
  | [], acc => by simp
  | r :: l, acc => by
    have := dist_len l (dstep acc r)
    have h2 : (dstep acc r).length ≤ acc.length + 1 := by
      unfold dstep; split <;> simp
    simp only [List.foldl_cons, List.length_cons]
    omega
theorem slW_append {α : Type} (f : α → Nat) (a b : List α) : slW f (a ++ b) = slW f a + slW f b := by
  simp only [slW, sumW, List.length_append, List.map_append, List.sum_append]; omega
theorem slW_cons {α : Type} (f : α → Nat) (a : α) (b : List α) : slW f (a :: b) = 1 + f a + slW f b := by
  simp only [slW, sumW, List.length_cons, List.map_cons, List.sum_cons]; omega
theorem dist_wt (f : List Val → Nat) : ∀ (l acc : List (List Val)), slW f (l.foldl dstep acc) ≤ slW f acc + slW f l
  | [], acc => by simp [slW, sumW]
  | r :: l, acc => by
    have h1 := dist_wt f l (dstep acc r)
    have h2 : slW f (dstep acc r) ≤ slW f acc + (1 + f r) := by
      unfold dstep
      split
      · omega
      · rw [slW_append, slW_cons]; simp [slW, sumW]
    rw [List.foldl_cons, slW_cons]
    omega
theorem same_comm {α : Type} {p : α → α → Bool} (h : ∀ x y, p x y = p y x) : ∀ (a b : List α), same p a b = same p b a
  | [], [] => rfl
  | [], y :: ys => by simp [same]
  | x :: xs, [] => by simp [same]
  | x :: xs, y :: ys => by
    have := same_comm h xs ys
    simp only [same, List.length_cons, eqAll, Nat.add_right_cancel_iff] at this ⊢
    rw [h x y]
    by_cases e : xs.length = ys.length
    · simp only [e, decide_true, Bool.true_and] at this ⊢
      rw [this]
    · have e' : ¬ ys.length = xs.length := fun q => e q.symm
      simp [e, e']
theorem rowEq_comm (a b : List Val) : rowEq a b = rowEq b a := same_comm (fun x y => by
  simp only [valEq]
  rw [show decide (x.kind = y.kind) = decide (y.kind = x.kind) from decide_eq_decide.2 eq_comm, show decide (x.num = y.num) = decide (y.num = x.num) from decide_eq_decide.2 eq_comm, show decide (x.text = y.text) = decide (y.text = x.text) from decide_eq_decide.2 eq_comm]) a b
theorem rows_mem {rows : List (List Val)} (h : slW (slW Val.wt) rows ≤ 1048576) {x : List Val} (hx : x ∈ rows) : x.length ≤ 1048576 := rows_len h hx

theorem specl5Row_o (row : List Val) (h : row.length ≤ 1048576) (s : S) : VCalls Try.prog 99 [.sl 0 (row.map Val.toV)] s (fun v t => Own2 (Val.toVS row) v t) := by
  refine LCalls.body Try.func99 rfl (by kernel_rfl) ?_
  repeat' first
    | (refine kOps ?_; first | (refine LOps.nil ?_) | (refine LOps.ev tT_ok rfl ?_) | (refine kBsl ?_; first | (refine LOps.bsl0 tT_ok rfl rfl rfl rfl rfl ?_)) | (refine kApp ?_; first | (refine LOps.app0 tT_ok rfl rfl rfl rfl rfl rfl rfl rfl rfl rfl rfl ?_ (AppB.of ?_ rfl) ?_; (focus (first | exact Elems.of rfl | exact Elems.map fun _ => rfl)); (focus (first | omega | (simp; omega))))))
    | (refine kWL ?_; first | (refine WL.seq ?_) | (refine WL.region (by kernel_rfl) ?_) | (refine WL.ret ?_))
    | (refine lthen_n ?_)
    | (refine LPost.r1 (r := .tmp 2) (.inl rfl) (Res1.tmp rfl) ?_)
  exact Own2.fam (f := Val.toV) (cs := row) (szf := 3) 3 (by simp [nthO]) (fun _ => rfl) (fun _ => rfl)

theorem specDistinctRows_o (l : List (List Val)) (h : slW (slW Val.wt) l ≤ 1048576) (s : S) : VCalls Try.prog 39 [.sl 0 (l.map Val.toVS)] s (fun v t => Own2 (.sl 0 ((distinct l).map Val.toVS)) v t) := by
  have hl := len_slW (slW Val.wt) l
  have hh : Hold s s.next [] := .start _ _
  refine LCalls.body Try.func39 rfl (by kernel_rfl) ?_
  repeat' first
    | (refine kOps ?_; first | (refine LOps.nil ?_) | (refine LOps.ev tT_ok rfl ?_) | (refine kBsl ?_; first | (refine LOps.bsl0 tT_ok rfl rfl rfl rfl rfl ?_)))
    | (refine kWL ?_; first | (refine WL.seq ?_) | (refine WL.region (by kernel_rfl) ?_) | (refine WL.block ?_))
    | (refine lthen_n ?_)
  refine WL.zfamH (t := 3) 1 rfl rfl hh (fun s id hh => ?_)
  refine WL.loopH (fun x : Nat × List V × List (List Val) => l.length - x.1) (fun x => [(0, .sl 0 (l.map Val.toVS)), (3, .sl id x.2.1), (4, .int .i64 (x.1 : Int))]) (fun x => [.acc id 1 x.2.1 (x.2.2.map Val.toVS)])
    (fun x => x.1 ≤ l.length ∧ x.2.2 = (l.take x.1).foldl dstep []) (0, [], []) ⟨by simp, by simp⟩ ⟨rfl, rfl, rfl, trivial⟩ hh (Sel.cons 0 rfl rfl .nil) (fun x s hI hh => ?_)
  obtain ⟨i, us, ds⟩ := x
  obtain ⟨hi, hd⟩ := hI
  dsimp only at hi hd hh ⊢
  have hus := hh.accLen 0 rfl
  rw [List.length_map] at hus
  have hdl : ds.length ≤ i := by
    rw [hd]
    have := dist_len (l.take i) []
    simp only [List.length_nil, List.length_take] at this
    omega
  rcases Nat.lt_or_ge i l.length with hlt | hge
  · have hrow := rows_mem h (List.getElem_mem hlt)
    repeat' first
      | (refine kOps ?_; first | (refine LOps.nil ?_) | (refine LOps.ev tT_ok rfl ?_) | (refine kLen ?_; first | (refine LOps.ans (AnsL.lenM tT_ok rfl rfl rfl) ?_)))
      | (refine kWL ?_; first | (refine WL.seq ?_) | (refine WL.region (by kernel_rfl) ?_) | (refine WL.block ?_) | (refine WL.skip ?_) | (refine kCond ?_; first | (refine WL.condT' rfl ?_ ?_; (focus (first | (simp only [decide_eq_true_eq, decide_eq_false_iff_not, Bool.not_eq_true', Bool.not_eq_false', Int.ofNat_lt, Int.ofNat_le, Int.ofNat_inj, not_true_eq_false, not_false_eq_true]; omega))))))
      | (refine lthen_n ?_)
    refine WL.loop0 (fun k : Nat => ds.length - k) (fun k => [(0, .sl 0 (l.map Val.toVS)), (3, .sl id us), (4, .int .i64 (i : Int)), (5, .bool ((ds.take k).any fun o => rowEq o l[i])), (6, .int .i64 (k : Int))]) (fun _ => s.ext []) (fun k => k ≤ ds.length) 0 (by omega) ⟨rfl, rfl, rfl, rfl, rfl, trivial⟩ rfl (fun k hk => ?_)
    rcases Nat.lt_or_ge k ds.length with hk2 | hk2
    · have hgd : (ds.map Val.toVS)[k]? = some (Val.toVS ds[k]) := by simp [hk2]
      obtain ⟨u, hgu, hrd⟩ := hh.elem 0 rfl hgd
      have hcu : cellsO u = some [u] := hrd.cellsO_sl
      have hdk : ds[k].length ≤ 1048576 := by
        rcases dist_mem (l.take i) [] ds[k] (by rw [← hd]; exact List.getElem_mem hk2) with hm | hm
        · cases hm
        · exact rows_mem h (List.mem_of_mem_take hm)
      have hany : (ds.take (k + 1)).any (fun o => rowEq o l[i]) = ((ds.take k).any (fun o => rowEq o l[i]) || rowEq ds[k] l[i]) := by
        rw [List.take_succ_eq_append_getElem hk2, List.any_append]
        simp
      cases hb : (ds.take k).any (fun o => rowEq o l[i]) <;> rw [hb] at hany
      · cases hc : rowEq ds[k] l[i] <;> rw [hc] at hany
        all_goals
          have hE : ∀ t, VCalls Try.prog 75 [Val.toVS ds[k], Val.toVS l[i]] t (fun v t' => v = .bool (rowEq ds[k] l[i]) ∧ t' = t) := fun t => specl5SameRow_v ds[k] l[i] (by omega) (by omega) t
          rw [hc] at hE
        · skip
          repeat' first
            | (refine kOps ?_; first | (refine LOps.nil ?_) | (refine LOps.ev tT_ok rfl ?_) | (refine kLen ?_; first | (refine LOps.ans (AnsL.lenG tT_ok rfl rfl rfl) ?_)) | (refine kBin ?_; first | (refine LOps.ans (AnsL.add rfl rfl ?_) ?_; (focus (constructor <;> omega)))))
            | (refine kWL ?_; first | (refine WL.seq ?_) | (refine WL.region (by kernel_rfl) ?_) | (refine WL.drawn (id := 9) [0, 1, 2, 3, 4, 5, 6, 7, 8, 9, 10, 11, 12] [12] [[], [0], [0, 1], [0, 1], [0, 1, 2, 3], [0, 1, 2, 3, 4], [0, 1], [0, 1], [0, 1, 6, 7], [0, 1, 6, 7, 8], [0, 1, 2, 3, 4, 5, 6, 7, 8, 9], [0, 1, 2, 3, 4, 5, 6, 7, 8, 9, 10], [0, 1, 2, 3, 4, 5, 6, 7, 8, 9, 10, 11]] (by kernel_rfl) (by kernel_rfl) ?_) | (refine WL.block ?_) | (refine WL.skip ?_) | (refine kCond ?_; first | (refine WL.condT' rfl ?_ ?_; (focus (first | (simp only [decide_eq_true_eq, decide_eq_false_iff_not, Bool.not_eq_true', Bool.not_eq_false', Int.ofNat_lt, Int.ofNat_le, Int.ofNat_inj, not_true_eq_false, not_false_eq_true]; omega))))))
            | (refine kDr ?_; first | (refine LDr.nil ?_) | (refine LDr.fl rfl rfl (.ev tT_ok rfl) ?_) | (refine LDr.gT rfl rfl rfl rfl rfl (.ev tT_ok rfl) ?_) | (refine kDIdx rfl ?_; first | (refine LDr.gT rfl rfl rfl rfl rfl (AnsL.idx tT_ok rfl rfl rfl rfl rfl hgu hcu rfl) ?_) | (refine LDr.gT rfl rfl rfl rfl rfl (AnsL.idxA tT_ok rfl rfl rfl rfl rfl (by omega) rfl rfl) ?_)) | (refine kDCallN 75 rfl ?_; first | (refine LDr.gT rfl rfl rfl rfl rfl (AnsL.callP rfl rfl rfl ok75 (VCalls.lookH rfl hh ?_ (fun t => hE t))) ?_; (focus (((repeat' first | (exact RdH.nil) | (refine RdH.cons ?_ ?_) | (exact RdV.accE (by ((repeat' first | (exact .head _)); done)) hgu hgd) | (refine RdV.pl ?_; (focus (first | (exact plain_ValueS _))))); done))))) | (refine LDr.eff rfl rfl rfl ?_))
            | (refine lthen_n ?_)
            | (refine lblock_n ?_)
            | (refine And.intro ?_ ?_)
            | (exact StsL.nil)
          refine lback.of (k + 1) ?_ ?_ ?_ rfl
          · omega
          · omega
          · exact ⟨rfl, rfl, rfl, by rw [hany]; rfl, rfl, trivial⟩
        · skip
          repeat' first
            | (refine kOps ?_; first | (refine LOps.nil ?_) | (refine LOps.ev tT_ok rfl ?_) | (refine kLen ?_; first | (refine LOps.ans (AnsL.lenG tT_ok rfl rfl rfl) ?_)) | (refine kBin ?_; first | (refine LOps.ans (AnsL.add rfl rfl ?_) ?_; (focus (constructor <;> omega)))))
            | (refine kWL ?_; first | (refine WL.seq ?_) | (refine WL.region (by kernel_rfl) ?_) | (refine WL.drawn (id := 9) [0, 1, 2, 3, 4, 5, 6, 7, 8, 9, 10, 11, 12] [12] [[], [0], [0, 1], [0, 1], [0, 1, 2, 3], [0, 1, 2, 3, 4], [0, 1], [0, 1], [0, 1, 6, 7], [0, 1, 6, 7, 8], [0, 1, 2, 3, 4, 5, 6, 7, 8, 9], [0, 1, 2, 3, 4, 5, 6, 7, 8, 9, 10], [0, 1, 2, 3, 4, 5, 6, 7, 8, 9, 10, 11]] (by kernel_rfl) (by kernel_rfl) ?_) | (refine WL.block ?_) | (refine WL.skip ?_) | (refine kCond ?_; first | (refine WL.condT' rfl ?_ ?_; (focus (first | (simp only [decide_eq_true_eq, decide_eq_false_iff_not, Bool.not_eq_true', Bool.not_eq_false', Int.ofNat_lt, Int.ofNat_le, Int.ofNat_inj, not_true_eq_false, not_false_eq_true]; omega))))))
            | (refine kDr ?_; first | (refine LDr.nil ?_) | (refine LDr.fl rfl rfl (.ev tT_ok rfl) ?_) | (refine LDr.gT rfl rfl rfl rfl rfl (.ev tT_ok rfl) ?_) | (refine kDIdx rfl ?_; first | (refine LDr.gT rfl rfl rfl rfl rfl (AnsL.idx tT_ok rfl rfl rfl rfl rfl hgu hcu rfl) ?_) | (refine LDr.gT rfl rfl rfl rfl rfl (AnsL.idxA tT_ok rfl rfl rfl rfl rfl (by omega) rfl rfl) ?_)) | (refine kDCallN 75 rfl ?_; first | (refine LDr.gT rfl rfl rfl rfl rfl (AnsL.callP rfl rfl rfl ok75 (VCalls.lookH rfl hh ?_ (fun t => hE t))) ?_; (focus (((repeat' first | (exact RdH.nil) | (refine RdH.cons ?_ ?_) | (exact RdV.accE (by ((repeat' first | (exact .head _)); done)) hgu hgd) | (refine RdV.pl ?_; (focus (first | (exact plain_ValueS _))))); done))))) | (refine LDr.eff rfl rfl rfl ?_))
            | (refine lthen_n ?_)
            | (refine lblock_n ?_)
            | (refine And.intro ?_ ?_)
            | (exact StsL.nil)
          refine lback.of (k + 1) ?_ ?_ ?_ rfl
          · omega
          · omega
          · exact ⟨rfl, rfl, rfl, by rw [hany]; rfl, rfl, trivial⟩
      · skip
        repeat' first
          | (refine kOps ?_; first | (refine LOps.nil ?_) | (refine LOps.ev tT_ok rfl ?_) | (refine kLen ?_; first | (refine LOps.ans (AnsL.lenG tT_ok rfl rfl rfl) ?_)) | (refine kBin ?_; first | (refine LOps.ans (AnsL.add rfl rfl ?_) ?_; (focus (constructor <;> omega)))))
          | (refine kWL ?_; first | (refine WL.seq ?_) | (refine WL.region (by kernel_rfl) ?_) | (refine WL.drawn (id := 9) [0, 1, 2, 3, 4, 5, 6, 7, 8, 9, 10, 11, 12] [12] [[], [0], [0, 1], [0, 1], [0, 1, 2, 3], [0, 1, 2, 3, 4], [0, 1], [0, 1], [0, 1, 6, 7], [0, 1, 6, 7, 8], [0, 1, 2, 3, 4, 5, 6, 7, 8, 9], [0, 1, 2, 3, 4, 5, 6, 7, 8, 9, 10], [0, 1, 2, 3, 4, 5, 6, 7, 8, 9, 10, 11]] (by kernel_rfl) (by kernel_rfl) ?_) | (refine WL.block ?_) | (refine WL.skip ?_) | (refine kCond ?_; first | (refine WL.condT' rfl ?_ ?_; (focus (first | (simp only [decide_eq_true_eq, decide_eq_false_iff_not, Bool.not_eq_true', Bool.not_eq_false', Int.ofNat_lt, Int.ofNat_le, Int.ofNat_inj, not_true_eq_false, not_false_eq_true]; omega))))))
          | (refine kDr ?_; first | (refine LDr.nil ?_) | (refine LDr.fl rfl rfl (.ev tT_ok rfl) ?_) | (refine LDr.gF rfl rfl rfl rfl rfl ?_) | (refine LDr.eff rfl rfl rfl ?_))
          | (refine lthen_n ?_)
          | (refine lblock_n ?_)
          | (refine And.intro ?_ ?_)
          | (exact StsL.nil)
        refine lback.of (k + 1) ?_ ?_ ?_ rfl
        · omega
        · omega
        · exact ⟨rfl, rfl, rfl, by rw [hany]; rfl, rfl, trivial⟩
    · rw [List.take_of_length_le hk2]
      have hst := dist_take hlt
      rw [← hd, dstep] at hst
      cases hb : ds.any (fun o => rowEq o l[i]) <;> rw [hb] at hst
      · simp only [Bool.false_eq_true, if_false] at hst
        have hpl : (Val.toVS l[i]).plain = true := plain_ValueS _
        repeat' first
          | (refine kBsl ?_ ; refine' LOps.bslH tT_ok rfl rfl rfl rfl rfl rfl rfl rfl hh ?_ ?_ ?_ ; rotate_left 2 ; (focus ((repeat' first | (exact ConsL.nil) | (refine' Cons.bp ?_; ((repeat' first | (exact Pick.here)); done)) | (refine' ConsL.cons ?_ ?_)); done)) ; (focus ((repeat' first | (exact ElsH.nil) | (refine ElsH.ct rfl rfl ?_)); done)) ; intro s n hh)
          | (refine kApp ?_ ; first | (refine' LOps.appH tT_ok 1 rfl rfl rfl rfl rfl rfl rfl rfl rfl rfl hh ?_ ?_ (AppB.of ?_ rfl) ?_ ; rotate_left 3 ; (focus (first | (refine' ConsSp.ap ?_; ((repeat' first | (exact Pick.here)); done)))) ; (focus ((repeat' first | (exact Elems.nil) | (refine Elems.ct rfl rfl ?_)); done)) ; (focus (first | omega | (simp ; omega))) ; intro s hh))
          | (refine kCallN 99 ?_ ; refine LOps.lendH rfl rfl ok99 hh ?_ (fun t => specl5Row_o l[i] hrow t) (hpl) ?_ ; (focus ((repeat' first | (exact RdH.nil) | (refine RdH.cons ?_ ?_) | (refine RdV.pl ?_; (focus (first | (assumption))))); done)) ; intro s n hh)
          | (refine kOps ?_; first | (refine LOps.nil ?_) | (refine LOps.ev tT_ok rfl ?_) | (refine kLen ?_; first | (refine LOps.ans (AnsL.lenG tT_ok rfl rfl rfl) ?_)) | (refine kBin ?_; first | (refine LOps.ans (AnsL.add rfl rfl ?_) ?_; (focus (constructor <;> omega)))) | (refine kIdx ?_; first | (refine LOps.ans (AnsL.idxA tT_ok rfl rfl rfl rfl rfl (by omega) rfl rfl) ?_)))
          | (refine kWL ?_; first | (refine WL.seq ?_) | (refine WL.region (by kernel_rfl) ?_) | (refine WL.exit ?_) | (refine kCond ?_; first | (refine WL.condT rfl ?_) | (refine WL.condF' rfl ?_ ?_; (focus (first | (simp only [decide_eq_true_eq, decide_eq_false_iff_not, Bool.not_eq_true', Bool.not_eq_false', Int.ofNat_lt, Int.ofNat_le, Int.ofNat_inj, not_true_eq_false, not_false_eq_true]; omega))))))
          | (refine lthen_n ?_)
          | (refine lthen_e ?_)
          | (refine lblock_n ?_)
          | (refine lblock_e ?_)
          | (refine lback_e ?_)
        all_goals
          refine' lbackH.of ((i + 1, us ++ [_], ds ++ [l[i]])) ?_ hh ?_ ?_ ?_
          rotate_left 1
          · repeat' first | exact SubL.nil | (refine SubL.mk rfl ?_ ?_) | rfl | (simp [] <;> fail) | (simp []; omega)
          · first | ((repeat' first | (exact Sel.nil) | (refine' Sel.p ?_ ?_; rotate_left 1; (focus (((repeat' first | (exact Pick.here) | (refine' Pick.there ?_)); done))))); done) | (dsimp only; simp only [List.map_append, List.map_cons, List.map_nil]; (repeat' first | (exact Sel.nil) | (refine' Sel.p ?_ ?_; rotate_left 1; (focus (((repeat' first | (exact Pick.here) | (refine' Pick.there ?_)); done))))); done) | (dsimp only; simp only [List.map_append, List.map_cons, List.map_nil]; (repeat' first | (exact Sel.nil) | (refine' Sel.p ?_ ?_; rotate_left 1; (focus (((repeat' first | (exact Pick.here) | (refine' Pick.there ?_)); done))))); done)
          · dsimp only; repeat' first | omega | assumption | (refine And.intro ?_ ?_) | rfl | (simp [] <;> fail) | (simp []; omega) | (simp_all [] <;> fail) | (simp_all []; omega)
          · dsimp only; first | omega | (simp; omega) | (simp_all; omega)
      · simp only [if_true] at hst
        repeat' first
          | (refine kOps ?_; first | (refine LOps.nil ?_) | (refine LOps.ev tT_ok rfl ?_) | (refine kLen ?_; first | (refine LOps.ans (AnsL.lenG tT_ok rfl rfl rfl) ?_)) | (refine kBin ?_; first | (refine LOps.ans (AnsL.add rfl rfl ?_) ?_; (focus (constructor <;> omega)))))
          | (refine kWL ?_; first | (refine WL.seq ?_) | (refine WL.region (by kernel_rfl) ?_) | (refine WL.exit ?_) | (refine WL.skip ?_) | (refine kCond ?_; first | (refine WL.condF rfl ?_) | (refine WL.condF' rfl ?_ ?_; (focus (first | (simp only [decide_eq_true_eq, decide_eq_false_iff_not, Bool.not_eq_true', Bool.not_eq_false', Int.ofNat_lt, Int.ofNat_le, Int.ofNat_inj, not_true_eq_false, not_false_eq_true]; omega))))))
          | (refine lthen_n ?_)
          | (refine lthen_e ?_)
          | (refine lblock_n ?_)
          | (refine lblock_e ?_)
          | (refine lback_e ?_)
        all_goals
          refine' lbackH.of ((i + 1, us, ds)) ?_ hh ?_ ?_ ?_
          · repeat' first | exact SubL.nil | (refine SubL.mk rfl ?_ ?_) | rfl | (simp [] <;> fail) | (simp []; omega)
          · first | ((repeat' first | (exact Sel.nil) | (refine' Sel.p ?_ ?_; rotate_left 1; (focus (((repeat' first | (exact Pick.here) | (refine' Pick.there ?_)); done))))); done) | (dsimp only; simp only [List.map_append, List.map_cons, List.map_nil]; (repeat' first | (exact Sel.nil) | (refine' Sel.p ?_ ?_; rotate_left 1; (focus (((repeat' first | (exact Pick.here) | (refine' Pick.there ?_)); done))))); done) | (dsimp only; simp only [List.map_append, List.map_cons, List.map_nil]; (repeat' first | (exact Sel.nil) | (refine' Sel.p ?_ ?_; rotate_left 1; (focus (((repeat' first | (exact Pick.here) | (refine' Pick.there ?_)); done))))); done)
          · dsimp only; repeat' first | omega | assumption | (refine And.intro ?_ ?_) | rfl | (simp [] <;> fail) | (simp []; omega) | (simp_all [] <;> fail) | (simp_all []; omega)
          · dsimp only; first | omega | (simp; omega) | (simp_all; omega)
  · skip
    repeat' first
      | (refine kOps ?_; first | (refine LOps.nil ?_) | (refine LOps.ev tT_ok rfl ?_) | (refine kLen ?_; first | (refine LOps.ans (AnsL.lenM tT_ok rfl rfl rfl) ?_)))
      | (refine kWL ?_; first | (refine WL.seq ?_) | (refine WL.region (by kernel_rfl) ?_) | (refine WL.exit ?_) | (refine WL.ret ?_) | (refine kCond ?_; first | (refine WL.condF' rfl ?_ ?_; (focus (first | (simp only [decide_eq_true_eq, decide_eq_false_iff_not, Bool.not_eq_true', Bool.not_eq_false', Int.ofNat_lt, Int.ofNat_le, Int.ofNat_inj, not_true_eq_false, not_false_eq_true]; omega))))))
      | (refine lthen_n ?_)
      | (refine lthen_e ?_)
      | (refine lblock_e ?_)
      | (refine lbackH_e ?_)
      | (refine LPost.r1 (r := .tmp 2) (.inl rfl) (Res1.tmp rfl) ?_)
    have e : distinct l = ds := by rw [hd, List.take_of_length_le hge]; rfl
    rw [e]
    exact Own2.ofH hh (Cons.acc 0 rfl rfl)

theorem indexFuncRow_v (xs : List (List Val)) (p : List Val → Bool) (g : FuncId) (caps : List V) (hxs : xs.length ≤ 1048576) (s : S) (hg : CallOk Try.prog g) (hcd : ∀ n, V.underL n caps = true)
    (hp : ∀ x, x ∈ xs → ∀ t, VCalls Try.prog g (Val.toVS x :: caps) t (fun v s' => v = .bool (p x) ∧ s' = t)) :
    VCalls Try.prog 135 [.sl 0 (xs.map Val.toVS), .fn g caps] s (fun v s' => v = .int .i64 (findI p xs 0) ∧ s' = s) := by
  refine LCalls.pure Try.func135 rfl (by kernel_rfl) (by simp) ?_
  repeat' first
    | (refine kOps ?_; first | (refine LOps.nil ?_) | (refine LOps.ev tT_ok rfl ?_) | (refine kLen ?_; first | (refine LOps.ans (AnsL.lenM tT_ok rfl rfl rfl) ?_)))
    | (refine kWL ?_; first | (refine WL.seq ?_) | (refine WL.region (by kernel_rfl) ?_) | (refine WL.block ?_))
    | (refine lthen_n ?_)
  refine WL.loopD (fun i : Nat => xs.length - i) (fun i => [(0, .sl 0 (xs.map Val.toVS)), (1, .fn g caps), (7, .int .i64 xs.length), (8, .int .i64 (i : Int))]) (fun i => [])
    (fun i => i ≤ xs.length ∧ findI p xs 0 = findI p (xs.drop i) i) 0 0 (by simp) (fun _ => rfl) ⟨rfl, rfl, rfl, rfl, trivial⟩ rfl (fun i hi => ?_) (fun i hi => ?_)
  · simp [UnderK, UnderX, V.under, hcd]
  obtain ⟨hi, hc⟩ := hi
  rcases Nat.lt_or_ge i xs.length with hlt | hge
  · have hE := hp xs[i] (List.getElem_mem hlt)
    rw [findI_drop hlt] at hc
    cases hpx : p xs[i]
    all_goals rw [hpx] at hE
    · skip
      repeat' first
        | (refine kOps ?_; first | (refine LOps.nil ?_) | (refine LOps.ev tT_ok rfl ?_) | (refine kBin ?_; first | (refine LOps.ans (AnsL.add rfl rfl ?_) ?_; (focus (constructor <;> omega)))) | (refine kIdx ?_; first | (refine LOps.ans (AnsL.idxA tT_ok rfl rfl rfl rfl rfl (by omega) rfl rfl) ?_)) | (refine kCall ?_; first | (refine LOps.ans (AnsL.callP rfl rfl rfl (hg) (hE _)) ?_)))
        | (refine kWL ?_; first | (refine WL.seq ?_) | (refine WL.region (by kernel_rfl) ?_) | (refine WL.block ?_) | (refine WL.skip ?_) | (refine kCond ?_; first | (refine WL.condF rfl ?_) | (refine WL.condT' rfl ?_ ?_; (focus (first | (simp only [decide_eq_true_eq, decide_eq_false_iff_not, Bool.not_eq_true', Bool.not_eq_false', Int.ofNat_lt, Int.ofNat_le, Int.ofNat_inj, not_true_eq_false, not_false_eq_true]; omega))))))
        | (refine lthen_n ?_)
        | (refine lblock_n ?_)
      all_goals
        refine lbackD.of (i + 1) ?_ ?_ ?_ ?_
        · first | omega | (refine ⟨?_, ?_⟩; (focus (first | omega | (simp; omega))); (first | omega | (simp_all [hc, hpx] <;> fail) | (simp_all [hc, hpx]; omega))) | (simp_all [hc, hpx] <;> fail) | (simp_all [hc, hpx]; omega)
        · first | omega | (simp; omega) | simp_all
        · repeat' first
            | exact SubL.nil
            | (refine SubL.mk rfl ?_ ?_)
            | rfl
            | (simp [hc, hpx] <;> fail)
            | (simp [hc, hpx]; omega)
        · first | rfl | (simp [hc, hpx] <;> fail) | (simp [hc, hpx]; omega)
    · skip
      repeat' first
        | (refine kOps ?_; first | (refine LOps.nil ?_) | (refine LOps.ev tT_ok rfl ?_) | (refine kIdx ?_; first | (refine LOps.ans (AnsL.idxA tT_ok rfl rfl rfl rfl rfl (by omega) rfl rfl) ?_)) | (refine kCall ?_; first | (refine LOps.ans (AnsL.callP rfl rfl rfl (hg) (hE _)) ?_)))
        | (refine kWL ?_; first | (refine WL.seq ?_) | (refine WL.region (by kernel_rfl) ?_) | (refine WL.block ?_) | (refine WL.skip ?_) | (refine WL.ret ?_) | (refine kCond ?_; first | (refine WL.condT rfl ?_) | (refine WL.condT' rfl ?_ ?_; (focus (first | (simp only [decide_eq_true_eq, decide_eq_false_iff_not, Bool.not_eq_true', Bool.not_eq_false', Int.ofNat_lt, Int.ofNat_le, Int.ofNat_inj, not_true_eq_false, not_false_eq_true]; omega))))))
        | (refine lthen_n ?_)
        | (refine lthen_r ?_)
        | (refine lblock_r ?_)
        | (refine lbackD_r ?_)
        | (refine LPost.r1 (r := .tmp 4) (.inl rfl) (Res1.tmp rfl) ?_)
        | (refine PureR.mk ?_)
      simp_all
  · rw [findI_end hge] at hc
    repeat' first
      | (refine kOps ?_; first | (refine LOps.nil ?_) | (refine LOps.ev tT_ok rfl ?_))
      | (refine kWL ?_; first | (refine WL.seq ?_) | (refine WL.region (by kernel_rfl) ?_) | (refine WL.exit ?_) | (refine WL.ret ?_) | (refine kCond ?_; first | (refine WL.condF' rfl ?_ ?_; (focus (first | (simp only [decide_eq_true_eq, decide_eq_false_iff_not, Bool.not_eq_true', Bool.not_eq_false', Int.ofNat_lt, Int.ofNat_le, Int.ofNat_inj, not_true_eq_false, not_false_eq_true]; omega))))))
      | (refine lthen_n ?_)
      | (refine lthen_e ?_)
      | (refine lblock_e ?_)
      | (refine lbackD_e ?_)
      | (refine LPost.r1 (r := .tmp 4) (.inl rfl) (Res1.tmp rfl) ?_)
      | (refine PureR.mk ?_)
    simp [hc]
theorem findI_any {α : Type} {p : α → Bool} : ∀ (xs : List α) (k : Int), 0 ≤ k → decide (findI p xs k ≥ 0) = xs.any p
  | [], k, _ => by simp [findI]
  | x :: xs, k, hk => by
    unfold findI
    rw [List.any_cons]
    cases hp : p x
    · simp only [Bool.false_eq_true, if_false, Bool.false_or]
      exact findI_any xs (k + 1) (by omega)
    · simp [hk]
theorem containsRow_v (xs : List (List Val)) (p : List Val → Bool) (g : FuncId) (caps : List V) (hxs : xs.length ≤ 1048576) (s : S) (hg : CallOk Try.prog g) (hcd : ∀ n, V.underL n caps = true)
    (hp : ∀ x, x ∈ xs → ∀ t, VCalls Try.prog g (Val.toVS x :: caps) t (fun v s' => v = .bool (p x) ∧ s' = t)) :
    VCalls Try.prog 82 [.sl 0 (xs.map Val.toVS), .fn g caps] s (fun v s' => v = .bool (xs.any p) ∧ s' = s) := by
  rw [← findI_any xs 0 (by omega)]
  refine LCalls.pure Try.func82 rfl (by kernel_rfl) (by simp) ?_
  repeat' first
    | (refine kOps ?_; first | (refine LOps.nil ?_) | (refine LOps.ev tT_ok rfl ?_) | (refine kCallN 135 ?_; first | (refine LOps.ans (AnsL.callP rfl rfl rfl (ok135) (indexFuncRow_v _ p _ _ hxs _ hg hcd hp)) ?_)))
    | (refine kWL ?_; first | (refine WL.seq ?_) | (refine WL.region (by kernel_rfl) ?_) | (refine WL.ret ?_))
    | (refine lthen_n ?_)
    | (refine LPost.r1 (r := .tmp 4) (.inl rfl) (Res1.tmp rfl) ?_)
    | (refine PureR.mk ?_)
  rfl
theorem implDistinct1_v (x row : List Val) (h1 : x.length ≤ 1048576) (h2 : row.length ≤ 1048576) (s : S) : VCalls Try.prog 83 [Val.toVS x, .eptr [Val.toVS row] 0] s (fun v s' => v = .bool (rowEq x row) ∧ s' = s) := by
  rw [rowEq_comm]
  refine LCalls.pure Try.func83 rfl (by kernel_rfl) (by simp) ?_
  repeat' first
    | (refine kOps ?_; first | (refine LOps.nil ?_) | (refine LOps.ev tT_ok rfl ?_) | (refine kCallN 78 ?_; first | (refine LOps.ans (AnsL.callP rfl rfl rfl (ok78) (slicesEqualVal_v row x ?_ ?_ _)) ?_; (focus (omega)); (focus (omega)))))
    | (refine kWL ?_; first | (refine WL.seq ?_) | (refine WL.region (by kernel_rfl) ?_) | (refine WL.ret ?_))
    | (refine lthen_n ?_)
    | (refine LPost.r1 (r := .tmp 3) (.inl rfl) (Res1.tmp rfl) ?_)
    | (refine PureR.mk ?_)
  rfl
theorem cloneVal_o (row : List Val) (h : row.length ≤ 1048576) (s : S) : VCalls Try.prog 84 [.sl 0 (row.map Val.toV)] s (fun v t => Own2 (Val.toVS row) v t) := by
  refine LCalls.body Try.func84 rfl (by kernel_rfl) ?_
  repeat' first
    | (refine WL.regionNil tT_ok rfl rfl rfl rfl (fun b hb => ?_) ; cases b)
    | (refine kOps ?_; first | (refine LOps.nil ?_) | (refine LOps.ev tT_ok rfl ?_) | (refine kBsl ?_; first | (refine LOps.bsl0 tT_ok rfl rfl rfl rfl rfl ?_)) | (refine kApp ?_; first | (refine LOps.app0 tT_ok rfl rfl rfl rfl rfl rfl rfl rfl rfl rfl rfl ?_ (AppB.of ?_ rfl) ?_; (focus (first | exact Elems.of rfl | exact Elems.map fun _ => rfl)); (focus (first | omega | (simp; omega))))))
    | (refine kWL ?_; first | (refine WL.seq ?_) | (refine WL.region (by kernel_rfl) ?_) | (refine WL.skip ?_) | (refine WL.ret ?_) | (refine kCond ?_; first | (refine WL.condT rfl ?_) | (refine WL.condF rfl ?_)))
    | (refine lthen_n ?_)
    | (refine lthen_r ?_)
    | (refine LPost.r1 (r := .tmp 2) (.inl rfl) (Res1.tmp rfl) ?_)
  · exact Own2.fam (f := Val.toV) (cs := row) (szf := 3) 3 (by simp [nthO]) (fun _ => rfl) (fun _ => rfl)
  · have hr : row = [] := by
      cases row with
      | nil => rfl
      | cons x r => exact absurd (hb rfl) (by simp)
    subst hr
    exact ⟨[], .nilsl, List.nodup_nil⟩

theorem implDistinctRows_o (l : List (List Val)) (h : slW (slW Val.wt) l ≤ 1048576) (s : S) : VCalls Try.prog 27 [.sl 0 (l.map Val.toVS)] s (fun v t => Own2 (.sl 0 ((distinct l).map Val.toVS)) v t) := by
  have hl := len_slW (slW Val.wt) l
  have hh : Hold s s.next [] := .start _ _
  refine LCalls.body Try.func27 rfl (by kernel_rfl) ?_
  repeat' first
    | (refine kOps ?_; first | (refine LOps.nil ?_) | (refine LOps.ev tT_ok rfl ?_) | (refine kBsl ?_; first | (refine LOps.bsl0 tT_ok rfl rfl rfl rfl rfl ?_)) | (refine kLen ?_; first | (refine LOps.ans (AnsL.lenM tT_ok rfl rfl rfl) ?_)))
    | (refine kWL ?_; first | (refine WL.seq ?_) | (refine WL.region (by kernel_rfl) ?_) | (refine WL.block ?_))
    | (refine lthen_n ?_)
  refine WL.zfamH (t := 3) 1 rfl rfl hh (fun s id hh => ?_)
  refine WL.loopH (fun x : Nat × List V × List (List Val) => l.length - x.1) (fun x => [(3, .sl id x.2.1), (7, .sl 0 (l.map Val.toVS)), (8, .int .i64 l.length), (9, .int .i64 (x.1 : Int))]) (fun x => [.acc id 1 x.2.1 (x.2.2.map Val.toVS)])
    (fun x => x.1 ≤ l.length ∧ x.2.2 = (l.take x.1).foldl dstep []) (0, [], []) ⟨by simp, by simp⟩ ⟨rfl, rfl, rfl, rfl, trivial⟩ hh (Sel.cons 0 rfl rfl .nil) (fun x s hI hh => ?_)
  obtain ⟨i, us, ds⟩ := x
  obtain ⟨hi, hd⟩ := hI
  dsimp only at hi hd hh ⊢
  have hus := hh.accLen 0 rfl
  rw [List.length_map] at hus
  have hdl : ds.length ≤ i := by
    rw [hd]
    have := dist_len (l.take i) []
    simp only [List.length_nil, List.length_take] at this
    omega
  rcases Nat.lt_or_ge i l.length with hlt | hge
  · have hrow := rows_mem h (List.getElem_mem hlt)
    have hst := dist_take hlt
    rw [← hd, dstep] at hst
    have hpl : (Val.toVS l[i]).plain = true := plain_ValueS _
    have hE : ∀ t, VCalls Try.prog 82 [.sl 0 (ds.map Val.toVS), .fn 83 [.eptr [Val.toVS l[i]] 0]] t (fun v t' => v = .bool (ds.any fun o => rowEq o l[i]) ∧ t' = t) := fun t =>
      containsRow_v ds (fun o => rowEq o l[i]) _ _ (by omega) t ok83 (fun n => by simp [V.underL, V.under, Val.toVS]) fun x hx t => implDistinct1_v x l[i] (by
        rcases dist_mem (l.take i) [] x (by rw [← hd]; exact hx) with hm | hm
        · cases hm
        · exact rows_mem h (List.mem_of_mem_take hm)) hrow _
    cases hb : ds.any (fun o => rowEq o l[i])
    all_goals rw [hb] at hst hE
    · simp only [Bool.false_eq_true, if_false] at hst
      repeat' first
        | (refine kAlloc ?_ ; refine LOps.allocH tT_ok hh rfl rfl ?_ ; intro s n hh)
        | (refine kStore ?_ ; first | (refine LOps.storeH tT_ok 0 hh rfl rfl rfl rfl rfl rfl rfl rfl rfl ?_ ; intro s hh))
        | (refine kBsl ?_ ; refine' LOps.bslH tT_ok rfl rfl rfl rfl rfl rfl rfl rfl hh ?_ ?_ ?_ ; rotate_left 2 ; (focus ((repeat' first | (exact ConsL.nil) | (refine' Cons.bp ?_; ((repeat' first | (exact Pick.here)); done)) | (refine' ConsL.cons ?_ ?_)); done)) ; (focus ((repeat' first | (exact ElsH.nil) | (refine ElsH.ct rfl rfl ?_)); done)) ; intro s n hh)
        | (refine kApp ?_ ; first | (refine' LOps.appH tT_ok 2 rfl rfl rfl rfl rfl rfl rfl rfl rfl rfl hh ?_ ?_ (AppB.of ?_ rfl) ?_ ; rotate_left 3 ; (focus (first | (refine' ConsSp.ap ?_; ((repeat' first | (exact Pick.here)); done)))) ; (focus ((repeat' first | (exact Elems.nil) | (refine Elems.ct rfl rfl ?_)); done)) ; (focus (first | omega | (simp ; omega))) ; intro s hh))
        | (refine kCallN 84 ?_ ; refine LOps.lendH rfl rfl ok84 hh ?_ (fun t => cloneVal_o l[i] hrow t) (hpl) ?_ ; (focus ((repeat' first | (exact RdH.nil) | (refine RdH.cons ?_ ?_) | (refine RdV.pl ?_; (focus (first | (assumption))))); done)) ; intro s n hh)
        | (refine kOps ?_; first | (refine LOps.nil ?_) | (refine LOps.ev tT_ok rfl ?_) | (refine kLoad ?_; first | (refine LOps.ans (AnsL.loadH tT_ok 0 hh rfl rfl rfl rfl) ?_)) | (refine kBin ?_; first | (refine LOps.ans (AnsL.add rfl rfl ?_) ?_; (focus (constructor <;> omega)))) | (refine kIdx ?_; first | (refine LOps.ans (AnsL.idxA tT_ok rfl rfl rfl rfl rfl (by omega) rfl rfl) ?_)) | (refine kCallN 82 ?_; first | (refine LOps.ans (AnsL.callP rfl rfl rfl ok82 (VCalls.lookH rfl hh ?_ (fun t => hE t))) ?_; (focus (((repeat' first | (exact RdH.nil) | (refine RdH.cons ?_ ?_) | (refine' RdV.acc ?_; ((repeat' first | (exact .head _) | (refine .tail _ ?_)); done)) | (refine RdV.pl ?_; (focus (first | (assumption)))) | (refine' RdV.ptr2 ?_ ?_; rotate_left 1; (focus (((repeat' first | (exact .head _)); done)))) | (refine RdV.fn ?_)); done))))))
        | (refine kWL ?_; first | (refine WL.seq ?_) | (refine WL.region (by kernel_rfl) ?_) | (refine WL.block ?_) | (refine WL.skip ?_) | (refine kCond ?_; first | (refine WL.condT rfl ?_) | (refine WL.condT' rfl ?_ ?_; (focus (first | (simp only [decide_eq_true_eq, decide_eq_false_iff_not, Bool.not_eq_true', Bool.not_eq_false', Int.ofNat_lt, Int.ofNat_le, Int.ofNat_inj, not_true_eq_false, not_false_eq_true]; omega))))))
        | (refine lthen_n ?_)
        | (refine lblock_n ?_)
      all_goals
        refine' lbackH.of ((i + 1, us ++ [_], ds ++ [l[i]])) ?_ hh ?_ ?_ ?_
        rotate_left 1
        · repeat' first | exact SubL.nil | (refine SubL.mk rfl ?_ ?_) | rfl | (simp [] <;> fail) | (simp []; omega)
        · first | ((repeat' first | (exact Sel.nil) | (refine' Sel.p ?_ ?_; rotate_left 1; (focus (((repeat' first | (exact Pick.here) | (refine' Pick.there ?_)); done))))); done) | (dsimp only; simp only [List.map_append, List.map_cons, List.map_nil]; (repeat' first | (exact Sel.nil) | (refine' Sel.p ?_ ?_; rotate_left 1; (focus (((repeat' first | (exact Pick.here) | (refine' Pick.there ?_)); done))))); done) | (dsimp only; simp only [List.map_append, List.map_cons, List.map_nil]; (repeat' first | (exact Sel.nil) | (refine' Sel.p ?_ ?_; rotate_left 1; (focus (((repeat' first | (exact Pick.here) | (refine' Pick.there ?_)); done))))); done)
        · dsimp only; repeat' first | omega | assumption | (refine And.intro ?_ ?_) | rfl | (simp [] <;> fail) | (simp []; omega) | (simp_all [] <;> fail) | (simp_all []; omega)
        · dsimp only; first | omega | (simp; omega) | (simp_all; omega)
    · simp only [if_true] at hst
      repeat' first
        | (refine kAlloc ?_ ; refine LOps.allocH tT_ok hh rfl rfl ?_ ; intro s n hh)
        | (refine kStore ?_ ; first | (refine LOps.storeH tT_ok 0 hh rfl rfl rfl rfl rfl rfl rfl rfl rfl ?_ ; intro s hh))
        | (refine kOps ?_; first | (refine LOps.nil ?_) | (refine LOps.ev tT_ok rfl ?_) | (refine kBin ?_; first | (refine LOps.ans (AnsL.add rfl rfl ?_) ?_; (focus (constructor <;> omega)))) | (refine kIdx ?_; first | (refine LOps.ans (AnsL.idxA tT_ok rfl rfl rfl rfl rfl (by omega) rfl rfl) ?_)) | (refine kCallN 82 ?_; first | (refine LOps.ans (AnsL.callP rfl rfl rfl ok82 (VCalls.lookH rfl hh ?_ (fun t => hE t))) ?_; (focus (((repeat' first | (exact RdH.nil) | (refine RdH.cons ?_ ?_) | (refine' RdV.acc ?_; ((repeat' first | (exact .head _) | (refine .tail _ ?_)); done)) | (refine RdV.pl ?_; (focus (first | (assumption)))) | (refine' RdV.ptr2 ?_ ?_; rotate_left 1; (focus (((repeat' first | (exact .head _)); done)))) | (refine RdV.fn ?_)); done))))))
        | (refine kWL ?_; first | (refine WL.seq ?_) | (refine WL.region (by kernel_rfl) ?_) | (refine WL.block ?_) | (refine WL.skip ?_) | (refine kCond ?_; first | (refine WL.condF rfl ?_) | (refine WL.condT' rfl ?_ ?_; (focus (first | (simp only [decide_eq_true_eq, decide_eq_false_iff_not, Bool.not_eq_true', Bool.not_eq_false', Int.ofNat_lt, Int.ofNat_le, Int.ofNat_inj, not_true_eq_false, not_false_eq_true]; omega))))))
        | (refine lthen_n ?_)
        | (refine lblock_n ?_)
      all_goals
        refine' lbackH.of ((i + 1, us, ds)) ?_ hh ?_ ?_ ?_
        · repeat' first | exact SubL.nil | (refine SubL.mk rfl ?_ ?_) | rfl | (simp [] <;> fail) | (simp []; omega)
        · first | ((repeat' first | (exact Sel.nil) | (refine' Sel.p ?_ ?_; rotate_left 1; (focus (((repeat' first | (exact Pick.here) | (refine' Pick.there ?_)); done))))); done) | (dsimp only; simp only [List.map_append, List.map_cons, List.map_nil]; (repeat' first | (exact Sel.nil) | (refine' Sel.p ?_ ?_; rotate_left 1; (focus (((repeat' first | (exact Pick.here) | (refine' Pick.there ?_)); done))))); done) | (dsimp only; simp only [List.map_append, List.map_cons, List.map_nil]; (repeat' first | (exact Sel.nil) | (refine' Sel.p ?_ ?_; rotate_left 1; (focus (((repeat' first | (exact Pick.here) | (refine' Pick.there ?_)); done))))); done)
        · dsimp only; repeat' first | omega | assumption | (refine And.intro ?_ ?_) | rfl | (simp [] <;> fail) | (simp []; omega) | (simp_all [] <;> fail) | (simp_all []; omega)
        · dsimp only; first | omega | (simp; omega) | (simp_all; omega)
  · skip
    repeat' first
      | (refine kOps ?_; first | (refine LOps.nil ?_) | (refine LOps.ev tT_ok rfl ?_))
      | (refine kWL ?_; first | (refine WL.seq ?_) | (refine WL.region (by kernel_rfl) ?_) | (refine WL.exit ?_) | (refine WL.ret ?_) | (refine kCond ?_; first | (refine WL.condF' rfl ?_ ?_; (focus (first | (simp only [decide_eq_true_eq, decide_eq_false_iff_not, Bool.not_eq_true', Bool.not_eq_false', Int.ofNat_lt, Int.ofNat_le, Int.ofNat_inj, not_true_eq_false, not_false_eq_true]; omega))))))
      | (refine lthen_n ?_)
      | (refine lthen_e ?_)
      | (refine lblock_e ?_)
      | (refine lbackH_e ?_)
      | (refine LPost.r1 (r := .tmp 2) (.inl rfl) (Res1.tmp rfl) ?_)
    have e : distinct l = ds := by rw [hd, List.take_of_length_le hge]; rfl
    rw [e]
    exact Own2.ofH hh (Cons.acc 0 rfl rfl)

theorem lawDistinctRows_v (x : List (List Val)) (s : S) : VCalls Try.prog 9 [.sl 0 (x.map Val.toVS)] s (fun v _ => v = .bool true) := by
  have hx : (V.sl 0 (x.map Val.toVS)).plain = true := plain_ValueSS _
  have hh : Hold s s.next [] := .start _ _
  refine LCalls.body Try.func9 rfl (by kernel_rfl) ?_
  by_cases hb : 1048576 < slW (slW Val.wt) x
  · skip
    repeat' first
      | (refine kOps ?_; first | (refine LOps.nil ?_) | (refine LOps.ev tT_ok rfl ?_) | (refine kCallN 20 ?_; first | (refine LOps.ans (AnsL.callP rfl rfl rfl (ok20) (szValSS_no _ _ ?_ ?_ ?_ _)) ?_; (focus (omega)); (focus (omega)); (focus (omega)))))
      | (refine kWL ?_; first | (refine WL.seq ?_) | (refine WL.region (by kernel_rfl) ?_) | (refine WL.ret ?_) | (refine kCond ?_; first | (refine WL.condT rfl ?_)))
      | (refine lthen_n ?_)
      | (refine lthen_r ?_)
      | (refine LPost.r1 (r := .tmp 2) (.inl rfl) (Res1.tmp rfl) ?_)
    rfl
  have hl := len_slW (slW Val.wt) x
  have hdl := dist_len x []
  simp only [List.length_nil] at hdl
  have hdw : ∀ r ∈ distinct x, r.length ≤ 1048576 := fun r hr => by
    rcases dist_mem x [] r hr with hm | hm
    · cases hm
    · exact rows_mem (by omega) hm
  have hsc : ∀ (l : List (List Val)), (∀ r ∈ l, r.length ≤ 1048576) → scL (l.map Val.toVS) ≤ 3145728 * l.length := fun l => by
    induction l with
    | nil => intro _; simp [scL]
    | cons r l ih =>
      intro hr
      have h1 := ih fun q hq => hr q (by simp [hq])
      have h2 := scL_map (f := Val.toV) 3 (fun _ => Nat.le_refl 3) r
      have h3 := hr r (by simp)
      simp only [List.map_cons, scL, Val.toVS, sc, List.length_cons] at *
      omega
  have h1 : (1 : Int) ≤ nkT (.sl 0 (x.map Val.toVS)) 1 := nkT_le _ _
  have h2 : (1 : Int) ≤ nkT (.sl 0 ((distinct x).map Val.toVS)) 1 := nkT_le _ _
  have h3 : nkT (.sl 0 (x.map Val.toVS)) 1 ≤ 4000000000000 := by
    have a1 := nkT_sc (.sl 0 (x.map Val.toVS)) 1
    have a2 := hsc x fun r hr => rows_mem (by omega) hr
    simp only [sc] at a1 a2 ⊢
    omega
  have h4 : nkT (.sl 0 ((distinct x).map Val.toVS)) 1 ≤ 4000000000000 := by
    have a1 := nkT_sc (.sl 0 ((distinct x).map Val.toVS)) 1
    have a2 := hsc (distinct x) hdw
    have a3 : (distinct x).length ≤ x.length := by simp only [distinct]; omega
    simp only [sc] at a1 a2 ⊢
    omega
  have hwd : slW (slW Val.wt) (distinct x) ≤ 1048576 := by
    have := dist_wt (slW Val.wt) x []
    simp only [slW, sumW, List.length_nil, List.map_nil, List.sum_nil, distinct] at this ⊢
    simp only [slW, sumW] at hb
    omega
  repeat' first
    | (refine kCallN 22 ?_ ; refine LOps.lendH rfl rfl ok22 hh ?_ (fun t => toValSS_o x (by omega) t) (hx) ?_ ; (focus ((repeat' first | (exact RdH.nil) | (refine RdH.cons ?_ ?_) | (refine RdV.pl ?_; (focus (first | (assumption))))); done)) ; intro s n hh)
    | (refine kCallN 39 ?_ ; refine LOps.lendH rfl rfl ok39 hh ?_ (fun t => specDistinctRows_o x (by omega) t) (plain_ValueSS _) ?_ ; (focus ((repeat' first | (exact RdH.nil) | (refine RdH.cons ?_ ?_) | (refine RdV.th' ?_; (focus (((repeat' first | (exact .head _)); done))))); done)) ; intro s n hh)
    | (refine kCallN 27 ?_ ; refine LOps.lendH rfl rfl ok27 hh ?_ (fun t => implDistinctRows_o x (by omega) t) (plain_ValueSS _) ?_ ; (focus ((repeat' first | (exact RdH.nil) | (refine RdH.cons ?_ ?_) | (refine RdV.th' ?_; (focus (((repeat' first | (exact .head _)); done))))); done)) ; intro s n hh)
    | (refine kCallN 40 ?_ ; first | (refine LOps.markH 2 rfl rfl ok40 hh rfl rfl (markValueSS_t x) rfl ?_ ?_ ?_ ; (focus (first | assumption | omega)) ; (focus (first | assumption | omega)) ; intro s hh))
    | (refine kCallN 40 ?_ ; first | (refine LOps.markH 1 rfl rfl ok40 hh rfl rfl (markValueSS_t (distinct x)) rfl ?_ ?_ ?_ ; (focus (first | assumption | omega)) ; (focus (first | assumption | omega)) ; intro s hh))
    | (refine kOps ?_; first | (refine LOps.nil ?_) | (refine kG ?_; first | (refine LOps.gT rfl rfl rfl ?_) | (refine LOps.gD false rfl rfl rfl ?_ ?_; (focus (first | (simp only [decide_eq_true_eq, decide_eq_false_iff_not, Bool.not_eq_true', Bool.not_eq_false', Int.ofNat_lt, Int.ofNat_le, Int.ofNat_inj, not_true_eq_false, not_false_eq_true]; omega))))) | (refine LOps.ev tT_ok rfl ?_) | (refine kCallN 20 ?_; first | (refine LOps.ans (AnsL.callP rfl rfl rfl (ok20) (szValSS_ok _ _ ?_ ?_ _)) ?_; (focus (omega)); (focus (omega)))) | (refine kCallN 24 ?_; first | (refine LOps.ans (AnsL.callP rfl rfl rfl ok24 (VCalls.lookH rfl hh ?_ (fun t => eqValSS_v (distinct x) (by omega) t))) ?_; (focus (((repeat' first | (exact RdH.nil) | (refine RdH.cons ?_ ?_) | (refine RdV.th' ?_; (focus (((repeat' first | (exact .head _) | (refine .tail _ ?_)); done))))); done)))) | (refine LOps.ans (AnsL.callP rfl rfl rfl ok24 (VCalls.lookH rfl hh ?_ (fun t => eqValSS_v x (by omega) t))) ?_; (focus (((repeat' first | (exact RdH.nil) | (refine RdH.cons ?_ ?_) | (refine RdV.th' ?_; (focus (((repeat' first | (exact .head _) | (refine .tail _ ?_)); done))))); done))))) | (refine kCallN 41 ?_; first | (refine LOps.ans (AnsL.callP rfl rfl rfl ok41 (VCalls.lookH rfl hh ?_ (fun t => heldValueSS_t (distinct x) 1 t (by decide) h4))) ?_; (focus (((repeat' first | (exact RdH.nil) | (refine RdH.cons ?_ ?_) | (refine RdV.mk' ?_; (focus (((repeat' first | (exact .head _) | (refine .tail _ ?_)); done)))) | (refine RdV.pl ?_; (focus (first | (rfl))))); done))))))
    | (refine kWL ?_; first | (refine WL.seq ?_) | (refine WL.region (by kernel_rfl) ?_) | (refine WL.skip ?_) | (refine WL.ret ?_) | (refine kCond ?_; first | (refine WL.condF rfl ?_) | (refine WL.condF' rfl ?_ ?_; (focus (first | (simp only [decide_eq_true_eq, decide_eq_false_iff_not, Bool.not_eq_true', Bool.not_eq_false', Int.ofNat_lt, Int.ofNat_le, Int.ofNat_inj, not_true_eq_false, not_false_eq_true]; omega) | (simp <;> fail))))))
    | (refine lthen_n ?_)
    | (refine LPost.r1 (r := .tmp 2) (.inl rfl) (Res1.tmp rfl) ?_)
  rfl

end Go.Proofs.Ytmcbblcnfdgfmaa
