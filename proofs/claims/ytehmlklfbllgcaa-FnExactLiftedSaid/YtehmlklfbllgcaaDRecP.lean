/-
  Copies, sizes and comparisons of plans' trees and plans. Printed by a program of our own; no condition.
-/
import Derived.Test.YtehmlklfbllgcaaDPE
import Derived.Test.YtehmlklfbllgcaaDFam2
import Derived.Test.YtehmlklfbllgcaaDRow
namespace Go.Proofs.Ytehmlklfbllgcaa
open Go
set_option linter.unusedSimpArgs false
set_option linter.unusedVariables false

def ToC (P : Program) (g : FuncId) (d : V) : Prop := ∀ t : S, VCalls P g [d] t (fun v t' => Own2 d v t')
def SzC (P : Program) (g : FuncId) (d : V) : Prop := ∀ (left : Int) (s : S), 0 ≤ left → left ≤ 1048576 → VCalls P g [d, .int .i64 left] s (fun v s' => v = .int .i64 (szI (wgt d) left) ∧ s' = s)
def EqC (P : Program) (g : FuncId) (d : V) : Prop := ∀ s : S, VCalls P g [d, d] s (fun v s' => v = .bool true ∧ s' = s)
theorem SzC.ok {P : Program} {g : FuncId} {d : V} (h : SzC P g d) {left : Int} (h1 : left ≤ 1048576) (h2 : (wgt d : Int) ≤ left) (s : S) : VCalls P g [d, .int .i64 left] s (fun v s' => v = .int .i64 (left - (wgt d : Nat)) ∧ s' = s) := by
  rw [← szI_pos (w := wgt d) (by omega)]; exact h left s (by omega) h1
theorem SzC.no {P : Program} {g : FuncId} {d : V} (h : SzC P g d) {left : Int} (h0 : 0 ≤ left) (h1 : left ≤ 1048576) (h2 : left < (wgt d : Int)) (s : S) : VCalls P g [d, .int .i64 left] s (fun v s' => v = .int .i64 (-1) ∧ s' = s) := by
  rw [← szI_neg (w := wgt d) (left := left) (by omega)]; exact h left s h0 h1
theorem ToC.pure {P : Program} {g : FuncId} {d : V} (h : ToC P g d) (hd : d.plain = true) (s : S) : VCalls P g [d] s (fun v s' => v = d ∧ s' = s) := VCalls.pureOf (plainL_cons hd rfl) hd h s
theorem plainL_of {id : Nat} {xs : List V} (h : V.plain (.sl id xs) = true) : V.plainL xs = true := by
  simp only [V.plain, Bool.and_eq_true] at h
  exact h.2
theorem PE.wgt_eq2 (x : PE) : wgt x.v = x.value.wt + wgt (.sl 0 (x.kids.map PE.toV)) + wgt (.sl 0 (x.sub.map PE.planV)) := PE.wgt_eq x
theorem wgt_ints (l : List Int) : wgt (.sl 0 (l.map iV)) = l.length := by
  rw [wgt_sl]
  simp only [slW, sumW, iV, wgt]
  induction l with
  | nil => rfl
  | cons x l ih => simp only [List.length_cons, List.map_cons, List.sum_cons] at *; omega

theorem toIntS_r (xs : List Int) (hl : xs.length ≤ 1048576) : ToC Try.prog 96 (.sl 0 (xs.map iV)) := by
  intro s
  refine LCalls.body Try.func96 rfl (by kernel_rfl) ?_
  repeat' first
    | (refine kOps ?_; first | (refine LOps.nil ?_) | (refine LOps.ev tT_ok rfl ?_) | (refine kMake ?_; first | (refine LOps.make tT_ok rfl rfl rfl rfl rfl rfl rfl rfl (AppB.of ?_ rfl) ?_; (focus (first | omega)))) | (refine kLen ?_; first | (refine LOps.ans (AnsL.lenM tT_ok rfl rfl rfl) ?_)))
    | (refine kWL ?_; first | (refine WL.seq ?_) | (refine WL.region (by kernel_rfl) ?_) | (refine WL.block ?_))
    | (refine lthen_n ?_)
  refine WL.loopFill (xs.map iV) [.int .i64 0] (fun i => [(0, .sl 0 (xs.map iV)), (3, .slm true (s.next + 0) 0 xs.length), (4, .int .i64 (i : Int))]) (cells_map (f := iV) (n := 1) (fun _ => rfl) xs) (by rw [List.length_map]) ⟨rfl, rfl, rfl, trivial⟩ (fun i hi m B CA CZ hq hm => ?_) ?_
  · have hlt : i < xs.length := by simpa using hi
    rw [List.getElem_map]
    repeat' first
      | (refine kStore ?_ ; refine LOps.storeX (m := m) (dv := iV xs[i]) tT_ok hq rfl rfl rfl rfl rfl rfl rfl rfl ?_)
      | (refine kOps ?_; first | (refine LOps.nil ?_) | (refine LOps.ev tT_ok rfl ?_) | (refine kLen ?_; first | (refine LOps.ans (AnsL.lenM tT_ok rfl rfl rfl) ?_)) | (refine kBin ?_; first | (refine LOps.ans (AnsL.add rfl rfl ?_) ?_; (focus (constructor <;> omega)))) | (refine kIdx ?_; first | (refine LOps.ans (AnsL.idxA tT_ok rfl rfl rfl rfl rfl (by omega) rfl rfl) ?_) | (refine LOps.ans (AnsL.idxM tT_ok rfl rfl rfl rfl rfl ?_) ?_; (focus (omega)))))
      | (refine kWL ?_; first | (refine WL.seq ?_) | (refine WL.region (by kernel_rfl) ?_) | (refine WL.block ?_) | (refine WL.skip ?_) | (refine kCond ?_; first | (refine WL.condT' rfl ?_ ?_; (focus (first | (simp only [decide_eq_true_eq, decide_eq_false_iff_not, Bool.not_eq_true', Bool.not_eq_false', Int.ofNat_lt, Int.ofNat_le, Int.ofNat_inj, not_true_eq_false, not_false_eq_true]; omega))))))
      | (refine lthen_n ?_)
      | (refine lblock_n ?_)
    exact ⟨rfl, ⟨rfl, rfl, rfl, trivial⟩, by show _ = s.ext (_ :: (B ++ [])) ; rw [List.append_nil]⟩
  · skip
    repeat' first
      | (refine lfin_e ?_)
      | (refine kOps ?_; first | (refine LOps.nil ?_) | (refine LOps.ev tT_ok rfl ?_) | (refine kLen ?_; first | (refine LOps.ans (AnsL.lenM tT_ok rfl rfl rfl) ?_)))
      | (refine kWL ?_; first | (refine WL.seq ?_) | (refine WL.region (by kernel_rfl) ?_) | (refine WL.exit ?_) | (refine WL.ret ?_) | (refine kCond ?_; first | (refine WL.condF' rfl ?_ ?_; (focus (first | (simp <;> fail))))))
      | (refine lthen_n ?_)
      | (refine lthen_e ?_)
      | (refine lblock_e ?_)
      | (refine LPost.r1 (r := .tmp 2) (.inl rfl) (Res1.tmp rfl) ?_)
    exact Own2.filled (by rw [List.length_map]) (plainL_of (plain_IntS xs)) (cells_map (f := iV) (n := 1) (fun _ => rfl) xs)
theorem toStringS_r (xs : List (List UInt8)) (hl : xs.length ≤ 1048576) : ToC Try.prog 100 (.sl 0 (xs.map sV)) := by
  intro s
  refine LCalls.body Try.func100 rfl (by kernel_rfl) ?_
  repeat' first
    | (refine kOps ?_; first | (refine LOps.nil ?_) | (refine LOps.ev tT_ok rfl ?_) | (refine kMake ?_; first | (refine LOps.make tT_ok rfl rfl rfl rfl rfl rfl rfl rfl (AppB.of ?_ rfl) ?_; (focus (first | omega)))) | (refine kLen ?_; first | (refine LOps.ans (AnsL.lenM tT_ok rfl rfl rfl) ?_)))
    | (refine kWL ?_; first | (refine WL.seq ?_) | (refine WL.region (by kernel_rfl) ?_) | (refine WL.block ?_))
    | (refine lthen_n ?_)
  refine WL.loopFill (xs.map sV) [.str []] (fun i => [(0, .sl 0 (xs.map sV)), (3, .slm true (s.next + 0) 0 xs.length), (4, .int .i64 (i : Int))]) (cells_map (f := sV) (n := 1) (fun _ => rfl) xs) (by rw [List.length_map]) ⟨rfl, rfl, rfl, trivial⟩ (fun i hi m B CA CZ hq hm => ?_) ?_
  · have hlt : i < xs.length := by simpa using hi
    rw [List.getElem_map]
    repeat' first
      | (refine kStore ?_ ; refine LOps.storeX (m := m) (dv := sV xs[i]) tT_ok hq rfl rfl rfl rfl rfl rfl rfl rfl ?_)
      | (refine kOps ?_; first | (refine LOps.nil ?_) | (refine LOps.ev tT_ok rfl ?_) | (refine kLen ?_; first | (refine LOps.ans (AnsL.lenM tT_ok rfl rfl rfl) ?_)) | (refine kBin ?_; first | (refine LOps.ans (AnsL.add rfl rfl ?_) ?_; (focus (constructor <;> omega)))) | (refine kIdx ?_; first | (refine LOps.ans (AnsL.idxA tT_ok rfl rfl rfl rfl rfl (by omega) rfl rfl) ?_) | (refine LOps.ans (AnsL.idxM tT_ok rfl rfl rfl rfl rfl ?_) ?_; (focus (omega)))))
      | (refine kWL ?_; first | (refine WL.seq ?_) | (refine WL.region (by kernel_rfl) ?_) | (refine WL.block ?_) | (refine WL.skip ?_) | (refine kCond ?_; first | (refine WL.condT' rfl ?_ ?_; (focus (first | (simp only [decide_eq_true_eq, decide_eq_false_iff_not, Bool.not_eq_true', Bool.not_eq_false', Int.ofNat_lt, Int.ofNat_le, Int.ofNat_inj, not_true_eq_false, not_false_eq_true]; omega))))))
      | (refine lthen_n ?_)
      | (refine lblock_n ?_)
    exact ⟨rfl, ⟨rfl, rfl, rfl, trivial⟩, by show _ = s.ext (_ :: (B ++ [])) ; rw [List.append_nil]⟩
  · skip
    repeat' first
      | (refine lfin_e ?_)
      | (refine kOps ?_; first | (refine LOps.nil ?_) | (refine LOps.ev tT_ok rfl ?_) | (refine kLen ?_; first | (refine LOps.ans (AnsL.lenM tT_ok rfl rfl rfl) ?_)))
      | (refine kWL ?_; first | (refine WL.seq ?_) | (refine WL.region (by kernel_rfl) ?_) | (refine WL.exit ?_) | (refine WL.ret ?_) | (refine kCond ?_; first | (refine WL.condF' rfl ?_ ?_; (focus (first | (simp <;> fail))))))
      | (refine lthen_n ?_)
      | (refine lthen_e ?_)
      | (refine lblock_e ?_)
      | (refine LPost.r1 (r := .tmp 2) (.inl rfl) (Res1.tmp rfl) ?_)
    exact Own2.filled (by rw [List.length_map]) (plainL_of (plain_StringS xs)) (cells_map (f := sV) (n := 1) (fun _ => rfl) xs)
theorem szIntS_r (xs : List Int) : SzC Try.prog 89 (.sl 0 (xs.map iV)) := by
  intro left s h0 h1
  rw [wgt_ints]
  refine VCalls.wf fun hwf => ?_
  simp only [List.all_cons, List.all_nil, V.wf, Bool.and_true, Bool.and_eq_true, decide_eq_true_eq, List.length_map] at hwf
  have hmx := len_max
  have hln := hwf.1.1
  refine LCalls.pure Try.func89 rfl (by kernel_rfl) (by simp) ?_
  by_cases c0 : left - (xs.length : Int) < 0
  · skip
    repeat' first
      | (refine kOps ?_; first | (refine LOps.nil ?_) | (refine LOps.ev tT_ok rfl ?_) | (refine kLen ?_; first | (refine LOps.ans (AnsL.lenM tT_ok rfl rfl rfl) ?_)) | (refine kBin ?_; first | (refine LOps.ans (AnsL.sub rfl rfl ?_) ?_; (focus (constructor <;> omega)))))
      | (refine kWL ?_; first | (refine WL.seq ?_) | (refine WL.region (by kernel_rfl) ?_) | (refine WL.ret ?_) | (refine kCond ?_; first | (refine WL.condT' rfl ?_ ?_; (focus (first | (exact decide_eq_true (by assumption)))))))
      | (refine lthen_n ?_)
      | (refine lthen_r ?_)
      | (refine LPost.r1 (r := .tmp 4) (.inl rfl) (Res1.tmp rfl) ?_)
      | (refine PureR.mk ?_)
    show V.int .i64 (-1) = _; rw [szI_neg c0]
  · skip
    repeat' first
      | (refine kOps ?_; first | (refine LOps.nil ?_) | (refine LOps.ev tT_ok rfl ?_) | (refine kLen ?_; first | (refine LOps.ans (AnsL.lenM tT_ok rfl rfl rfl) ?_)) | (refine kBin ?_; first | (refine LOps.ans (AnsL.sub rfl rfl ?_) ?_; (focus (constructor <;> omega)))))
      | (refine kWL ?_; first | (refine WL.seq ?_) | (refine WL.region (by kernel_rfl) ?_) | (refine WL.skip ?_) | (refine WL.ret ?_) | (refine kCond ?_; first | (refine WL.condF' rfl ?_ ?_; (focus (first | (exact decide_eq_false (by assumption)))))))
      | (refine lthen_n ?_)
      | (refine LPost.r1 (r := .tmp 4) (.inl rfl) (Res1.tmp rfl) ?_)
      | (refine PureR.mk ?_)
    show V.int .i64 _ = _; rw [szI_pos c0]
theorem szStringS_r (xs : List (List UInt8)) : SzC Try.prog 93 (.sl 0 (xs.map sV)) := by
  intro left s h0 h1
  have e : wgt (.sl 0 (xs.map sV)) = slW List.length xs := by rw [wgt_sl]; rfl
  rw [e]
  refine VCalls.wf fun hwf => ?_
  simp only [List.all_cons, List.all_nil, V.wf, Bool.and_true, Bool.and_eq_true, decide_eq_true_eq, List.length_map] at hwf
  have hmx := len_max
  have hln := hwf.1.1
  have hel := wfL_get hwf.1.2
  refine LCalls.pure Try.func93 rfl (by kernel_rfl) (by simp) ?_
  by_cases c0 : left - (xs.length : Int) < 0
  · skip
    repeat' first
      | (refine kOps ?_; first | (refine LOps.nil ?_) | (refine LOps.ev tT_ok rfl ?_) | (refine kLen ?_; first | (refine LOps.ans (AnsL.lenM tT_ok rfl rfl rfl) ?_)) | (refine kBin ?_; first | (refine LOps.ans (AnsL.sub rfl rfl ?_) ?_; (focus (constructor <;> omega)))))
      | (refine kWL ?_; first | (refine WL.seq ?_) | (refine WL.region (by kernel_rfl) ?_) | (refine WL.ret ?_) | (refine kCond ?_; first | (refine WL.condT' rfl ?_ ?_; (focus (first | (exact decide_eq_true (by assumption)))))))
      | (refine lthen_n ?_)
      | (refine lthen_r ?_)
      | (refine LPost.r1 (r := .tmp 4) (.inl rfl) (Res1.tmp rfl) ?_)
      | (refine PureR.mk ?_)
    show V.int .i64 (-1) = _; rw [szI_neg (by simp only [slW]; omega)]
  repeat' first
    | (refine kOps ?_; first | (refine LOps.nil ?_) | (refine LOps.ev tT_ok rfl ?_) | (refine kLen ?_; first | (refine LOps.ans (AnsL.lenM tT_ok rfl rfl rfl) ?_)) | (refine kBin ?_; first | (refine LOps.ans (AnsL.sub rfl rfl ?_) ?_; (focus (constructor <;> omega)))))
    | (refine kWL ?_; first | (refine WL.seq ?_) | (refine WL.region (by kernel_rfl) ?_) | (refine WL.block ?_) | (refine WL.skip ?_) | (refine kCond ?_; first | (refine WL.condF' rfl ?_ ?_; (focus (first | (exact decide_eq_false (by assumption)))))))
    | (refine lthen_n ?_)
  refine WL.loopD (fun i : Nat => xs.length - i) (fun i => [(0, .sl 0 (xs.map sV)), (1, .int .i64 (left - xs.length - (sumW List.length (xs.take i) : Nat))), (5, .int .i64 (i : Int))]) (fun i => [])
    (fun i => i ≤ xs.length ∧ 0 ≤ left - (xs.length : Int) - (sumW List.length (xs.take i) : Nat)) 0 0 (by simp [sumW]; omega) (fun _ => rfl) ⟨rfl, by simp [sumW]; rfl, rfl, trivial⟩ rfl (fun i hi => ?_) (fun i hi => ?_)
  · simp [UnderK, UnderX, V.under, V.underL]
  obtain ⟨hi, hi2⟩ := hi
  rcases Nat.lt_or_ge i xs.length with hlt | hge
  · have hs := sumW_take (f := List.length) hlt
    have hm := sumW_take_le List.length xs (i + 1)
    have hwe := hel i hlt
    simp only [sV, V.wf, decide_eq_true_eq] at hwe
    by_cases c : left - (xs.length : Int) - (sumW List.length (xs.take i) : Nat) - (xs[i].length : Nat) < 0
    · skip
      repeat' first
        | (refine kOps ?_; first | (refine LOps.nil ?_) | (refine LOps.ev tT_ok rfl ?_) | (refine kLen ?_; first | (refine LOps.ans (AnsL.lenM tT_ok rfl rfl rfl) ?_)) | (refine kBin ?_; first | (refine LOps.ans (AnsL.sub rfl rfl ?_) ?_; (focus (constructor <;> omega)))) | (refine kIdx ?_; first | (refine LOps.ans (AnsL.idxA tT_ok rfl rfl rfl rfl rfl (by omega) rfl rfl) ?_)))
        | (refine kWL ?_; first | (refine WL.seq ?_) | (refine WL.region (by kernel_rfl) ?_) | (refine WL.block ?_) | (refine WL.skip ?_) | (refine WL.ret ?_) | (refine kCond ?_; first | (refine WL.condT' rfl ?_ ?_; (focus (first | (exact decide_eq_true (by assumption)) | (simp only [decide_eq_true_eq, decide_eq_false_iff_not, Bool.not_eq_true', Bool.not_eq_false', Int.ofNat_lt, Int.ofNat_le, Int.ofNat_inj, not_true_eq_false, not_false_eq_true]; omega))))))
        | (refine lthen_n ?_)
        | (refine lthen_r ?_)
        | (refine lblock_r ?_)
        | (refine lbackD_r ?_)
        | (refine LPost.r1 (r := .tmp 4) (.inl rfl) (Res1.tmp rfl) ?_)
        | (refine PureR.mk ?_)
      show V.int .i64 (-1) = _; rw [szI_neg (by simp only [slW]; omega)]
    · skip
      repeat' first
        | (refine kOps ?_; first | (refine LOps.nil ?_) | (refine LOps.ev tT_ok rfl ?_) | (refine kLen ?_; first | (refine LOps.ans (AnsL.lenM tT_ok rfl rfl rfl) ?_)) | (refine kBin ?_; first | (refine LOps.ans (AnsL.add rfl rfl ?_) ?_; (focus (constructor <;> omega))) | (refine LOps.ans (AnsL.sub rfl rfl ?_) ?_; (focus (constructor <;> omega)))) | (refine kIdx ?_; first | (refine LOps.ans (AnsL.idxA tT_ok rfl rfl rfl rfl rfl (by omega) rfl rfl) ?_)))
        | (refine kWL ?_; first | (refine WL.seq ?_) | (refine WL.region (by kernel_rfl) ?_) | (refine WL.block ?_) | (refine WL.skip ?_) | (refine kCond ?_; first | (refine WL.condT' rfl ?_ ?_; (focus (first | (simp only [decide_eq_true_eq, decide_eq_false_iff_not, Bool.not_eq_true', Bool.not_eq_false', Int.ofNat_lt, Int.ofNat_le, Int.ofNat_inj, not_true_eq_false, not_false_eq_true]; omega)))) | (refine WL.condF' rfl ?_ ?_; (focus (first | (exact decide_eq_false (by assumption)))))))
        | (refine lthen_n ?_)
        | (refine lblock_n ?_)
      all_goals
        refine lbackD.of (i + 1) ?_ ?_ ?_ ?_
        · first | omega | (refine ⟨?_, ?_⟩; (focus (first | omega | (simp; omega))); (first | omega | (simp_all [hs] <;> fail) | (simp_all [hs]; omega))) | (simp_all [hs] <;> fail) | (simp_all [hs]; omega)
        · first | omega | (simp; omega) | simp_all
        · repeat' first
            | exact SubL.nil
            | (refine SubL.mk rfl ?_ ?_)
            | rfl
            | (simp only [hs, List.map_append, List.map_cons, List.map_nil]; rfl)
            | (simp only [hs, List.map_append, List.map_cons, List.map_nil]; simp [hs] <;> fail)
            | (simp only [hs, List.map_append, List.map_cons, List.map_nil]; simp [hs]; omega)
            | (simp [hs] <;> fail)
            | (simp [hs]; omega)
        · first | rfl | (simp only [hs, List.map_append, List.map_cons, List.map_nil]; rfl) | (simp only [hs, List.map_append, List.map_cons, List.map_nil]; simp [hs] <;> fail) | (simp only [hs, List.map_append, List.map_cons, List.map_nil]; simp [hs]; omega) | (simp [hs] <;> fail) | (simp [hs]; omega)
  · have hs := sumW_all (f := List.length) hge
    repeat' first
      | (refine kOps ?_; first | (refine LOps.nil ?_) | (refine LOps.ev tT_ok rfl ?_) | (refine kLen ?_; first | (refine LOps.ans (AnsL.lenM tT_ok rfl rfl rfl) ?_)))
      | (refine kWL ?_; first | (refine WL.seq ?_) | (refine WL.region (by kernel_rfl) ?_) | (refine WL.exit ?_) | (refine WL.ret ?_) | (refine kCond ?_; first | (refine WL.condF' rfl ?_ ?_; (focus (first | (simp only [decide_eq_true_eq, decide_eq_false_iff_not, Bool.not_eq_true', Bool.not_eq_false', Int.ofNat_lt, Int.ofNat_le, Int.ofNat_inj, not_true_eq_false, not_false_eq_true]; omega))))))
      | (refine lthen_n ?_)
      | (refine lthen_e ?_)
      | (refine lblock_e ?_)
      | (refine lbackD_e ?_)
      | (refine LPost.r1 (r := .tmp 4) (.inl rfl) (Res1.tmp rfl) ?_)
      | (refine PureR.mk ?_)
    rw [szI_pos (by simp only [slW]; omega)]; simp only [slW]; show V.int .i64 _ = _; first | rfl | (congr 1; omega)

theorem eqIntS_r (xs : List Int) (hl : xs.length ≤ 4398046511104) : EqC Try.prog 104 (.sl 0 (xs.map iV)) := by
  intro s
  refine LCalls.pure Try.func104 rfl (by kernel_rfl) (by simp) ?_
  repeat' first
    | (refine kOps ?_; first | (refine LOps.nil ?_) | (refine LOps.ev tT_ok rfl ?_) | (refine kLen ?_; first | (refine LOps.ans (AnsL.lenM tT_ok rfl rfl rfl) ?_)))
    | (refine kWL ?_; first | (refine WL.seq ?_) | (refine WL.region (by kernel_rfl) ?_) | (refine WL.block ?_) | (refine WL.skip ?_) | (refine kCond ?_; first | (refine WL.condF' rfl ?_ ?_; (focus (first | (simp <;> fail))))))
    | (refine lthen_n ?_)
  refine WL.loopD (fun i : Nat => xs.length - i) (fun i => [(0, .sl 0 (xs.map iV)), (1, .sl 0 (xs.map iV)), (5, .int .i64 (i : Int))]) (fun i => [])
    (fun i => i ≤ xs.length) 0 0 (by simp) (fun _ => rfl) ⟨rfl, rfl, rfl, trivial⟩ rfl (fun i hi => ?_) (fun i hi => ?_)
  · simp [UnderK, UnderX, V.under, V.underL]
  rcases Nat.lt_or_ge i xs.length with hlt | hge
  · skip
    repeat' first
      | (refine kOps ?_; first | (refine LOps.nil ?_) | (refine LOps.ev tT_ok rfl ?_) | (refine kLen ?_; first | (refine LOps.ans (AnsL.lenM tT_ok rfl rfl rfl) ?_)) | (refine kBin ?_; first | (refine LOps.ans (AnsL.add rfl rfl ?_) ?_; (focus (constructor <;> omega)))))
      | (refine kWL ?_; first | (refine WL.seq ?_) | (refine WL.region (by kernel_rfl) ?_) | (refine WL.drawn (id := 6) [0, 1, 2, 3, 4, 5, 6, 7, 8] [] [[], [], [0, 1], [0, 1, 2], [], [], [4, 5], [4, 5, 6], [0, 1, 2, 3, 4, 5, 6, 7]] (by kernel_rfl) (by kernel_rfl) ?_) | (refine WL.block ?_) | (refine WL.skip ?_) | (refine kCond ?_; first | (refine WL.condT' rfl ?_ ?_; (focus (first | (simp only [decide_eq_true_eq, decide_eq_false_iff_not, Bool.not_eq_true', Bool.not_eq_false', Int.ofNat_lt, Int.ofNat_le, Int.ofNat_inj, not_true_eq_false, not_false_eq_true]; omega)))) | (refine WL.condF' rfl ?_ ?_; (focus (first | (simp <;> fail))))))
      | (refine kDr ?_; first | (refine LDr.nil ?_) | (refine LDr.fl rfl rfl (.ev tT_ok rfl) ?_) | (refine kDIdx rfl ?_; first | (refine LDr.fl rfl rfl (AnsL.idxA tT_ok rfl rfl rfl rfl rfl (by omega) rfl rfl) ?_)))
      | (refine lthen_n ?_)
      | (refine lblock_n ?_)
    all_goals
      refine lbackD.of (i + 1) ?_ ?_ ?_ ?_
      · first | omega | (refine ⟨?_, ?_⟩; (focus (first | omega | (simp; omega))); (first | omega | (simp_all [] <;> fail) | (simp_all []; omega))) | (simp_all [] <;> fail) | (simp_all []; omega)
      · first | omega | (simp; omega) | simp_all
      · repeat' first
          | exact SubL.nil
          | (refine SubL.mk rfl ?_ ?_)
          | rfl
          | (simp [] <;> fail)
          | (simp []; omega)
      · first | rfl | (simp [] <;> fail) | (simp []; omega)
  · skip
    repeat' first
      | (refine kOps ?_; first | (refine LOps.nil ?_) | (refine LOps.ev tT_ok rfl ?_) | (refine kLen ?_; first | (refine LOps.ans (AnsL.lenM tT_ok rfl rfl rfl) ?_)))
      | (refine kWL ?_; first | (refine WL.seq ?_) | (refine WL.region (by kernel_rfl) ?_) | (refine WL.exit ?_) | (refine WL.ret ?_) | (refine kCond ?_; first | (refine WL.condF' rfl ?_ ?_; (focus (first | (simp only [decide_eq_true_eq, decide_eq_false_iff_not, Bool.not_eq_true', Bool.not_eq_false', Int.ofNat_lt, Int.ofNat_le, Int.ofNat_inj, not_true_eq_false, not_false_eq_true]; omega))))))
      | (refine lthen_n ?_)
      | (refine lthen_e ?_)
      | (refine lblock_e ?_)
      | (refine lbackD_e ?_)
      | (refine LPost.r1 (r := .tmp 4) (.inl rfl) (Res1.tmp rfl) ?_)
      | (refine PureR.mk ?_)
    rfl
theorem eqStringS_r (xs : List (List UInt8)) (hl : xs.length ≤ 4398046511104) : EqC Try.prog 107 (.sl 0 (xs.map sV)) := by
  intro s
  refine LCalls.pure Try.func107 rfl (by kernel_rfl) (by simp) ?_
  repeat' first
    | (refine kOps ?_; first | (refine LOps.nil ?_) | (refine LOps.ev tT_ok rfl ?_) | (refine kLen ?_; first | (refine LOps.ans (AnsL.lenM tT_ok rfl rfl rfl) ?_)))
    | (refine kWL ?_; first | (refine WL.seq ?_) | (refine WL.region (by kernel_rfl) ?_) | (refine WL.block ?_) | (refine WL.skip ?_) | (refine kCond ?_; first | (refine WL.condF' rfl ?_ ?_; (focus (first | (simp <;> fail))))))
    | (refine lthen_n ?_)
  refine WL.loopD (fun i : Nat => xs.length - i) (fun i => [(0, .sl 0 (xs.map sV)), (1, .sl 0 (xs.map sV)), (5, .int .i64 (i : Int))]) (fun i => [])
    (fun i => i ≤ xs.length) 0 0 (by simp) (fun _ => rfl) ⟨rfl, rfl, rfl, trivial⟩ rfl (fun i hi => ?_) (fun i hi => ?_)
  · simp [UnderK, UnderX, V.under, V.underL]
  rcases Nat.lt_or_ge i xs.length with hlt | hge
  · skip
    repeat' first
      | (refine kOps ?_; first | (refine LOps.nil ?_) | (refine LOps.ev tT_ok rfl ?_) | (refine kLen ?_; first | (refine LOps.ans (AnsL.lenM tT_ok rfl rfl rfl) ?_)) | (refine kBin ?_; first | (refine LOps.ans (AnsL.add rfl rfl ?_) ?_; (focus (constructor <;> omega)))))
      | (refine kWL ?_; first | (refine WL.seq ?_) | (refine WL.region (by kernel_rfl) ?_) | (refine WL.drawn (id := 6) [0, 1, 2, 3, 4, 5, 6, 7, 8] [] [[], [], [0, 1], [0, 1, 2], [], [], [4, 5], [4, 5, 6], [0, 1, 2, 3, 4, 5, 6, 7]] (by kernel_rfl) (by kernel_rfl) ?_) | (refine WL.block ?_) | (refine WL.skip ?_) | (refine kCond ?_; first | (refine WL.condT' rfl ?_ ?_; (focus (first | (simp only [decide_eq_true_eq, decide_eq_false_iff_not, Bool.not_eq_true', Bool.not_eq_false', Int.ofNat_lt, Int.ofNat_le, Int.ofNat_inj, not_true_eq_false, not_false_eq_true]; omega)))) | (refine WL.condF' rfl ?_ ?_; (focus (first | (simp <;> fail))))))
      | (refine kDr ?_; first | (refine LDr.nil ?_) | (refine LDr.fl rfl rfl (.ev tT_ok rfl) ?_) | (refine kDIdx rfl ?_; first | (refine LDr.fl rfl rfl (AnsL.idxA tT_ok rfl rfl rfl rfl rfl (by omega) rfl rfl) ?_)))
      | (refine lthen_n ?_)
      | (refine lblock_n ?_)
    all_goals
      refine lbackD.of (i + 1) ?_ ?_ ?_ ?_
      · first | omega | (refine ⟨?_, ?_⟩; (focus (first | omega | (simp; omega))); (first | omega | (simp_all [] <;> fail) | (simp_all []; omega))) | (simp_all [] <;> fail) | (simp_all []; omega)
      · first | omega | (simp; omega) | simp_all
      · repeat' first
          | exact SubL.nil
          | (refine SubL.mk rfl ?_ ?_)
          | rfl
          | (simp [] <;> fail)
          | (simp []; omega)
      · first | rfl | (simp [] <;> fail) | (simp []; omega)
  · skip
    repeat' first
      | (refine kOps ?_; first | (refine LOps.nil ?_) | (refine LOps.ev tT_ok rfl ?_) | (refine kLen ?_; first | (refine LOps.ans (AnsL.lenM tT_ok rfl rfl rfl) ?_)))
      | (refine kWL ?_; first | (refine WL.seq ?_) | (refine WL.region (by kernel_rfl) ?_) | (refine WL.exit ?_) | (refine WL.ret ?_) | (refine kCond ?_; first | (refine WL.condF' rfl ?_ ?_; (focus (first | (simp only [decide_eq_true_eq, decide_eq_false_iff_not, Bool.not_eq_true', Bool.not_eq_false', Int.ofNat_lt, Int.ofNat_le, Int.ofNat_inj, not_true_eq_false, not_false_eq_true]; omega))))))
      | (refine lthen_n ?_)
      | (refine lthen_e ?_)
      | (refine lblock_e ?_)
      | (refine lbackD_e ?_)
      | (refine LPost.r1 (r := .tmp 4) (.inl rfl) (Res1.tmp rfl) ?_)
      | (refine PureR.mk ?_)
    rfl
theorem PExprS_len (l : List PE) : ∀ x ∈ l.map PE.toV, x.cells.length = 10 := by
  intro v hv
  obtain ⟨x, _, rfl⟩ := List.mem_map.1 hv
  rw [PE.toV_eq]; rfl
theorem PExprS_wgt (l : List PE) : wgt (.sl 0 (l.map PE.toV)) = slW (fun x => wgt (PE.v x)) l := by
  rw [wgt_sl]
  simp only [PE.toV_eq]
theorem toPExprS_r (xs : List PE) (hl : xs.length ≤ 1048576) (ih : ∀ x ∈ xs, ToC Try.prog 41 (PE.v x)) : ToC Try.prog 98 (.sl 0 (xs.map PE.toV)) := by
  intro s
  refine LCalls.body Try.func98 rfl (by kernel_rfl) ?_
  repeat' first
    | (refine kOps ?_; first | (refine LOps.nil ?_) | (refine LOps.ev tT_ok rfl ?_) | (refine kMake ?_; first | (refine LOps.make tT_ok rfl rfl rfl rfl rfl rfl rfl rfl (AppB.of ?_ rfl) ?_; (focus (first | omega)))) | (refine kLen ?_; first | (refine LOps.ans (AnsL.lenM tT_ok rfl rfl rfl) ?_)))
    | (refine kWL ?_; first | (refine WL.seq ?_) | (refine WL.region (by kernel_rfl) ?_) | (refine WL.block ?_))
    | (refine lthen_n ?_)
  refine WL.loopFill (xs.map PE.toV) [.int .i64 0, .int .i64 0, .bool false, .int .i64 0, .int .i64 0, .str [], .int .i64 0, .int .i64 0, .nilsl, .nilsl] (fun i => [(0, .sl 0 (xs.map PE.toV)), (3, .slm true (s.next + 0) 0 xs.length), (4, .int .i64 (i : Int))]) (PExprS_len xs) (by rw [List.length_map]) ⟨rfl, rfl, rfl, trivial⟩ (fun i hi m B CA CZ hq hm => ?_) ?_
  · have hlt : i < xs.length := by simpa using hi
    have hd : (xs.map PE.toV)[i] = PE.v xs[i] := by rw [List.getElem_map, PE.toV_eq]
    have hg : (xs.map PE.toV)[i]? = some (PE.v xs[i]) := by rw [List.getElem?_eq_getElem hi, hd]
    rw [hd]
    have hE := ih xs[i] (List.getElem_mem hlt)
    have hp : (PE.v xs[i]).plain = true := PE.plainv _
    generalize xs[i] = y at *
    repeat' first
      | (refine kCallN 41 ?_ ; refine LOps.lendE rfl rfl ok41 ?_ hE hm rfl ?_ ; (focus (exact plainL_cons hp rfl)))
      | (refine kStore ?_ ; refine LOps.storeX tT_ok hq rfl rfl rfl rfl rfl rfl rfl rfl ?_)
      | (refine kOps ?_; first | (refine LOps.nil ?_) | (refine LOps.ev tT_ok rfl ?_) | (refine kLen ?_; first | (refine LOps.ans (AnsL.lenM tT_ok rfl rfl rfl) ?_)) | (refine kBin ?_; first | (refine LOps.ans (AnsL.add rfl rfl ?_) ?_; (focus (constructor <;> omega)))) | (refine kIdx ?_; first | (refine LOps.ans (AnsL.idx tT_ok rfl rfl rfl rfl rfl hg rfl rfl) ?_) | (refine LOps.ans (AnsL.idxM tT_ok rfl rfl rfl rfl rfl ?_) ?_; (focus (omega)))))
      | (refine kWL ?_; first | (refine WL.seq ?_) | (refine WL.region (by kernel_rfl) ?_) | (refine WL.block ?_) | (refine WL.skip ?_) | (refine kCond ?_; first | (refine WL.condT' rfl ?_ ?_; (focus (first | (simp only [decide_eq_true_eq, decide_eq_false_iff_not, Bool.not_eq_true', Bool.not_eq_false', Int.ofNat_lt, Int.ofNat_le, Int.ofNat_inj, not_true_eq_false, not_false_eq_true]; omega))))))
      | (refine lthen_n ?_)
      | (refine lblock_n ?_)
    exact ⟨rfl, ⟨rfl, rfl, rfl, trivial⟩, rfl⟩
  · skip
    repeat' first
      | (refine lfin_e ?_)
      | (refine kOps ?_; first | (refine LOps.nil ?_) | (refine LOps.ev tT_ok rfl ?_) | (refine kLen ?_; first | (refine LOps.ans (AnsL.lenM tT_ok rfl rfl rfl) ?_)))
      | (refine kWL ?_; first | (refine WL.seq ?_) | (refine WL.region (by kernel_rfl) ?_) | (refine WL.exit ?_) | (refine WL.ret ?_) | (refine kCond ?_; first | (refine WL.condF' rfl ?_ ?_; (focus (first | (simp <;> fail))))))
      | (refine lthen_n ?_)
      | (refine lthen_e ?_)
      | (refine lblock_e ?_)
      | (refine LPost.r1 (r := .tmp 2) (.inl rfl) (Res1.tmp rfl) ?_)
    exact Own2.filled (by rw [List.length_map]) (plainL_of (plain_PExprS xs)) (PExprS_len xs)
theorem szPExprS_r (xs : List PE) (ih : ∀ x ∈ xs, SzC Try.prog 39 (PE.v x)) : SzC Try.prog 91 (.sl 0 (xs.map PE.toV)) := by
  intro left s h0 h1
  rw [PExprS_wgt]
  refine VCalls.wf fun hwf => ?_
  simp only [List.all_cons, List.all_nil, V.wf, Bool.and_true, Bool.and_eq_true, decide_eq_true_eq, List.length_map] at hwf
  have hmx := len_max
  have hln := hwf.1.1
  refine LCalls.pure Try.func91 rfl (by kernel_rfl) (by simp) ?_
  by_cases c0 : left - (xs.length : Int) < 0
  · skip
    repeat' first
      | (refine kOps ?_; first | (refine LOps.nil ?_) | (refine LOps.ev tT_ok rfl ?_) | (refine kLen ?_; first | (refine LOps.ans (AnsL.lenM tT_ok rfl rfl rfl) ?_)) | (refine kBin ?_; first | (refine LOps.ans (AnsL.sub rfl rfl ?_) ?_; (focus (constructor <;> omega)))))
      | (refine kWL ?_; first | (refine WL.seq ?_) | (refine WL.region (by kernel_rfl) ?_) | (refine WL.ret ?_) | (refine kCond ?_; first | (refine WL.condT' rfl ?_ ?_; (focus (first | (exact decide_eq_true (by assumption)))))))
      | (refine lthen_n ?_)
      | (refine lthen_r ?_)
      | (refine LPost.r1 (r := .tmp 4) (.inl rfl) (Res1.tmp rfl) ?_)
      | (refine PureR.mk ?_)
    show V.int .i64 (-1) = _; rw [szI_neg (by simp only [slW]; omega)]
  repeat' first
    | (refine kOps ?_; first | (refine LOps.nil ?_) | (refine LOps.ev tT_ok rfl ?_) | (refine kLen ?_; first | (refine LOps.ans (AnsL.lenM tT_ok rfl rfl rfl) ?_)) | (refine kBin ?_; first | (refine LOps.ans (AnsL.sub rfl rfl ?_) ?_; (focus (constructor <;> omega)))))
    | (refine kWL ?_; first | (refine WL.seq ?_) | (refine WL.region (by kernel_rfl) ?_) | (refine WL.block ?_) | (refine WL.skip ?_) | (refine kCond ?_; first | (refine WL.condF' rfl ?_ ?_; (focus (first | (exact decide_eq_false (by assumption)))))))
    | (refine lthen_n ?_)
  refine WL.loopD (fun i : Nat => xs.length - i) (fun i => [(0, .sl 0 (xs.map PE.toV)), (1, .int .i64 (left - xs.length - (sumW (fun x => wgt (PE.v x)) (xs.take i) : Nat))), (5, .int .i64 (i : Int))]) (fun i => [])
    (fun i => i ≤ xs.length ∧ 0 ≤ left - (xs.length : Int) - (sumW (fun x => wgt (PE.v x)) (xs.take i) : Nat)) 0 0 (by simp [sumW]; omega) (fun _ => rfl) ⟨rfl, by simp [sumW]; rfl, rfl, trivial⟩ rfl (fun i hi => ?_) (fun i hi => ?_)
  · refine ⟨?_, rfl⟩
    simp only [UnderK, List.all_cons, List.all_nil, Bool.and_true, Bool.and_eq_true]
    exact ⟨under_dat (plain_dat _ (plain_PExprS xs)), rfl, rfl⟩
  obtain ⟨hi, hi2⟩ := hi
  rcases Nat.lt_or_ge i xs.length with hlt | hge
  · have hs := sumW_take (f := (fun x => wgt (PE.v x))) hlt
    have hm := sumW_take_le (fun x => wgt (PE.v x)) xs (i + 1)
    have hi' : i < (xs.map PE.toV).length := by simpa using hlt
    have hd : (xs.map PE.toV)[i] = PE.v xs[i] := by rw [List.getElem_map, PE.toV_eq]
    have hg : (xs.map PE.toV)[i]? = some (PE.v xs[i]) := by rw [List.getElem?_eq_getElem hi', hd]
    have hE := ih xs[i] (List.getElem_mem hlt)
    try simp only at hs
    by_cases c : left - (xs.length : Int) - (sumW (fun x => wgt (PE.v x)) (xs.take i) : Nat) - (wgt (PE.v xs[i]) : Nat) < 0
    · skip
      repeat' first
        | (refine kOps ?_; first | (refine LOps.nil ?_) | (refine LOps.ev tT_ok rfl ?_) | (refine kLen ?_; first | (refine LOps.ans (AnsL.lenM tT_ok rfl rfl rfl) ?_)) | (refine kIdx ?_; first | (refine LOps.ans (AnsL.idx tT_ok rfl rfl rfl rfl rfl hg rfl rfl) ?_)) | (refine kCallN 39 ?_; first | (refine LOps.ans (AnsL.callP rfl rfl rfl (ok39) (hE.no ?_ ?_ ?_ _)) ?_; (focus (omega)); (focus (omega)); (focus (omega)))))
        | (refine kWL ?_; first | (refine WL.seq ?_) | (refine WL.region (by kernel_rfl) ?_) | (refine WL.block ?_) | (refine WL.skip ?_) | (refine WL.ret ?_) | (refine kCond ?_; first | (refine WL.condT rfl ?_) | (refine WL.condT' rfl ?_ ?_; (focus (first | (simp only [decide_eq_true_eq, decide_eq_false_iff_not, Bool.not_eq_true', Bool.not_eq_false', Int.ofNat_lt, Int.ofNat_le, Int.ofNat_inj, not_true_eq_false, not_false_eq_true]; omega))))))
        | (refine lthen_n ?_)
        | (refine lthen_r ?_)
        | (refine lblock_r ?_)
        | (refine lbackD_r ?_)
        | (refine LPost.r1 (r := .tmp 4) (.inl rfl) (Res1.tmp rfl) ?_)
        | (refine PureR.mk ?_)
      show V.int .i64 (-1) = _; rw [szI_neg (by simp only [slW]; omega)]
    · skip
      repeat' first
        | (refine kOps ?_; first | (refine LOps.nil ?_) | (refine LOps.ev tT_ok rfl ?_) | (refine kLen ?_; first | (refine LOps.ans (AnsL.lenM tT_ok rfl rfl rfl) ?_)) | (refine kBin ?_; first | (refine LOps.ans (AnsL.add rfl rfl ?_) ?_; (focus (constructor <;> omega)))) | (refine kIdx ?_; first | (refine LOps.ans (AnsL.idx tT_ok rfl rfl rfl rfl rfl hg rfl rfl) ?_)) | (refine kCallN 39 ?_; first | (refine LOps.ans (AnsL.callP rfl rfl rfl (ok39) (hE.ok ?_ ?_ _)) ?_; (focus (omega)); (focus (omega)))))
        | (refine kWL ?_; first | (refine WL.seq ?_) | (refine WL.region (by kernel_rfl) ?_) | (refine WL.block ?_) | (refine WL.skip ?_) | (refine kCond ?_; first | (refine WL.condT' rfl ?_ ?_; (focus (first | (simp only [decide_eq_true_eq, decide_eq_false_iff_not, Bool.not_eq_true', Bool.not_eq_false', Int.ofNat_lt, Int.ofNat_le, Int.ofNat_inj, not_true_eq_false, not_false_eq_true]; omega)))) | (refine WL.condF' rfl ?_ ?_; (focus (first | (exact decide_eq_false (by assumption)))))))
        | (refine lthen_n ?_)
        | (refine lblock_n ?_)
      all_goals
        refine lbackD.of (i + 1) ?_ ?_ ?_ ?_
        · first | omega | (refine ⟨?_, ?_⟩; (focus (first | omega | (simp; omega))); (first | omega | (simp_all [hs] <;> fail) | (simp_all [hs]; omega))) | (simp_all [hs] <;> fail) | (simp_all [hs]; omega)
        · first | omega | (simp; omega) | simp_all
        · repeat' first
            | exact SubL.nil
            | (refine SubL.mk rfl ?_ ?_)
            | rfl
            | (simp only [hs, List.map_append, List.map_cons, List.map_nil]; rfl)
            | (simp only [hs, List.map_append, List.map_cons, List.map_nil]; simp [hs] <;> fail)
            | (simp only [hs, List.map_append, List.map_cons, List.map_nil]; simp [hs]; omega)
            | (simp [hs] <;> fail)
            | (simp [hs]; omega)
        · first | rfl | (simp only [hs, List.map_append, List.map_cons, List.map_nil]; rfl) | (simp only [hs, List.map_append, List.map_cons, List.map_nil]; simp [hs] <;> fail) | (simp only [hs, List.map_append, List.map_cons, List.map_nil]; simp [hs]; omega) | (simp [hs] <;> fail) | (simp [hs]; omega)
  · have hs := sumW_all (f := (fun x => wgt (PE.v x))) hge
    repeat' first
      | (refine kOps ?_; first | (refine LOps.nil ?_) | (refine LOps.ev tT_ok rfl ?_) | (refine kLen ?_; first | (refine LOps.ans (AnsL.lenM tT_ok rfl rfl rfl) ?_)))
      | (refine kWL ?_; first | (refine WL.seq ?_) | (refine WL.region (by kernel_rfl) ?_) | (refine WL.exit ?_) | (refine WL.ret ?_) | (refine kCond ?_; first | (refine WL.condF' rfl ?_ ?_; (focus (first | (simp only [decide_eq_true_eq, decide_eq_false_iff_not, Bool.not_eq_true', Bool.not_eq_false', Int.ofNat_lt, Int.ofNat_le, Int.ofNat_inj, not_true_eq_false, not_false_eq_true]; omega))))))
      | (refine lthen_n ?_)
      | (refine lthen_e ?_)
      | (refine lblock_e ?_)
      | (refine lbackD_e ?_)
      | (refine LPost.r1 (r := .tmp 4) (.inl rfl) (Res1.tmp rfl) ?_)
      | (refine PureR.mk ?_)
    rw [szI_pos (by simp only [slW]; omega)]; simp only [slW]; show V.int .i64 _ = _; first | rfl | (congr 1; omega)
theorem eqPExprS_r (xs : List PE) (hl : xs.length ≤ 4398046511104) (ih : ∀ x ∈ xs, EqC Try.prog 43 (PE.v x)) : EqC Try.prog 47 (.sl 0 (xs.map PE.toV)) := by
  intro s
  refine LCalls.pure Try.func47 rfl (by kernel_rfl) (by simp) ?_
  repeat' first
    | (refine kOps ?_; first | (refine LOps.nil ?_) | (refine LOps.ev tT_ok rfl ?_) | (refine kLen ?_; first | (refine LOps.ans (AnsL.lenM tT_ok rfl rfl rfl) ?_)))
    | (refine kWL ?_; first | (refine WL.seq ?_) | (refine WL.region (by kernel_rfl) ?_) | (refine WL.block ?_) | (refine WL.skip ?_) | (refine kCond ?_; first | (refine WL.condF' rfl ?_ ?_; (focus (first | (simp <;> fail))))))
    | (refine lthen_n ?_)
  refine WL.loopD (fun i : Nat => xs.length - i) (fun i => [(0, .sl 0 (xs.map PE.toV)), (1, .sl 0 (xs.map PE.toV)), (5, .int .i64 (i : Int))]) (fun i => [])
    (fun i => i ≤ xs.length) 0 0 (by simp) (fun _ => rfl) ⟨rfl, rfl, rfl, trivial⟩ rfl (fun i hi => ?_) (fun i hi => ?_)
  · refine ⟨?_, rfl⟩
    simp only [UnderK, List.all_cons, List.all_nil, Bool.and_true, Bool.and_eq_true]
    exact ⟨under_dat (plain_dat _ (plain_PExprS xs)), under_dat (plain_dat _ (plain_PExprS xs)), rfl⟩
  rcases Nat.lt_or_ge i xs.length with hlt | hge
  · have hi' : i < (xs.map PE.toV).length := by simpa using hlt
    have hd : (xs.map PE.toV)[i] = PE.v xs[i] := by rw [List.getElem_map, PE.toV_eq]
    have hg : (xs.map PE.toV)[i]? = some (PE.v xs[i]) := by rw [List.getElem?_eq_getElem hi', hd]
    have hE := ih xs[i] (List.getElem_mem hlt)
    repeat' first
      | (refine kOps ?_; first | (refine LOps.nil ?_) | (refine LOps.ev tT_ok rfl ?_) | (refine kLen ?_; first | (refine LOps.ans (AnsL.lenM tT_ok rfl rfl rfl) ?_)) | (refine kBin ?_; first | (refine LOps.ans (AnsL.add rfl rfl ?_) ?_; (focus (constructor <;> omega)))))
      | (refine kWL ?_; first | (refine WL.seq ?_) | (refine WL.region (by kernel_rfl) ?_) | (refine WL.drawn (id := 6) [0, 1, 2, 3, 4, 5, 6, 7, 8, 9] [] [[], [], [0, 1], [0, 1, 2], [], [], [4, 5], [4, 5, 6], [0, 1, 2, 3, 4, 5, 6, 7], [0, 1, 2, 3, 4, 5, 6, 7, 8]] (by kernel_rfl) (by kernel_rfl) ?_) | (refine WL.block ?_) | (refine WL.skip ?_) | (refine kCond ?_; first | (refine WL.condF rfl ?_) | (refine WL.condT' rfl ?_ ?_; (focus (first | (simp only [decide_eq_true_eq, decide_eq_false_iff_not, Bool.not_eq_true', Bool.not_eq_false', Int.ofNat_lt, Int.ofNat_le, Int.ofNat_inj, not_true_eq_false, not_false_eq_true]; omega))))))
      | (refine kDr ?_; first | (refine LDr.nil ?_) | (refine LDr.fl rfl rfl (.ev tT_ok rfl) ?_) | (refine kDIdx rfl ?_; first | (refine LDr.fl rfl rfl (AnsL.idx tT_ok rfl rfl rfl rfl rfl hg rfl rfl) ?_)) | (refine kDCallN 43 rfl ?_; first | (refine LDr.fl rfl rfl (AnsL.callP rfl rfl rfl (ok43) (hE _)) ?_)))
      | (refine lthen_n ?_)
      | (refine lblock_n ?_)
    all_goals
      refine lbackD.of (i + 1) ?_ ?_ ?_ ?_
      · first | omega | (refine ⟨?_, ?_⟩; (focus (first | omega | (simp; omega))); (first | omega | (simp_all [] <;> fail) | (simp_all []; omega))) | (simp_all [] <;> fail) | (simp_all []; omega)
      · first | omega | (simp; omega) | simp_all
      · repeat' first
          | exact SubL.nil
          | (refine SubL.mk rfl ?_ ?_)
          | rfl
          | (simp [] <;> fail)
          | (simp []; omega)
      · first | rfl | (simp [] <;> fail) | (simp []; omega)
  · skip
    repeat' first
      | (refine kOps ?_; first | (refine LOps.nil ?_) | (refine LOps.ev tT_ok rfl ?_) | (refine kLen ?_; first | (refine LOps.ans (AnsL.lenM tT_ok rfl rfl rfl) ?_)))
      | (refine kWL ?_; first | (refine WL.seq ?_) | (refine WL.region (by kernel_rfl) ?_) | (refine WL.exit ?_) | (refine WL.ret ?_) | (refine kCond ?_; first | (refine WL.condF' rfl ?_ ?_; (focus (first | (simp only [decide_eq_true_eq, decide_eq_false_iff_not, Bool.not_eq_true', Bool.not_eq_false', Int.ofNat_lt, Int.ofNat_le, Int.ofNat_inj, not_true_eq_false, not_false_eq_true]; omega))))))
      | (refine lthen_n ?_)
      | (refine lthen_e ?_)
      | (refine lblock_e ?_)
      | (refine lbackD_e ?_)
      | (refine LPost.r1 (r := .tmp 4) (.inl rfl) (Res1.tmp rfl) ?_)
      | (refine PureR.mk ?_)
    rfl
theorem PExprSS_len (l : List (List PE)) : ∀ x ∈ l.map PE.vS, x.cells.length = 1 := by
  intro v hv
  obtain ⟨x, _, rfl⟩ := List.mem_map.1 hv
  rfl
theorem PExprSS_wgt (l : List (List PE)) : wgt (.sl 0 (l.map PE.vS)) = slW (fun x => wgt (PE.vS x)) l := by
  rw [wgt_sl]
theorem toPExprSS_r (xs : List (List PE)) (hl : xs.length ≤ 1048576) (ih : ∀ x ∈ xs, ToC Try.prog 98 (PE.vS x)) : ToC Try.prog 97 (.sl 0 (xs.map PE.vS)) := by
  intro s
  refine LCalls.body Try.func97 rfl (by kernel_rfl) ?_
  repeat' first
    | (refine kOps ?_; first | (refine LOps.nil ?_) | (refine LOps.ev tT_ok rfl ?_) | (refine kMake ?_; first | (refine LOps.make tT_ok rfl rfl rfl rfl rfl rfl rfl rfl (AppB.of ?_ rfl) ?_; (focus (first | omega)))) | (refine kLen ?_; first | (refine LOps.ans (AnsL.lenM tT_ok rfl rfl rfl) ?_)))
    | (refine kWL ?_; first | (refine WL.seq ?_) | (refine WL.region (by kernel_rfl) ?_) | (refine WL.block ?_))
    | (refine lthen_n ?_)
  refine WL.loopFill (xs.map PE.vS) [.nilsl] (fun i => [(0, .sl 0 (xs.map PE.vS)), (3, .slm true (s.next + 0) 0 xs.length), (4, .int .i64 (i : Int))]) (PExprSS_len xs) (by rw [List.length_map]) ⟨rfl, rfl, rfl, trivial⟩ (fun i hi m B CA CZ hq hm => ?_) ?_
  · have hlt : i < xs.length := by simpa using hi
    have hd : (xs.map PE.vS)[i] = PE.vS xs[i] := List.getElem_map ..
    have hg : (xs.map PE.vS)[i]? = some (PE.vS xs[i]) := by rw [List.getElem?_eq_getElem hi, hd]
    rw [hd]
    have hE := ih xs[i] (List.getElem_mem hlt)
    have hp : (PE.vS xs[i]).plain = true := plain_PExprS _
    generalize xs[i] = y at *
    repeat' first
      | (refine kCallN 98 ?_ ; refine LOps.lendE rfl rfl ok98 ?_ hE hm rfl ?_ ; (focus (exact plainL_cons hp rfl)))
      | (refine kStore ?_ ; refine LOps.storeX tT_ok hq rfl rfl rfl rfl rfl rfl rfl rfl ?_)
      | (refine kOps ?_; first | (refine LOps.nil ?_) | (refine LOps.ev tT_ok rfl ?_) | (refine kLen ?_; first | (refine LOps.ans (AnsL.lenM tT_ok rfl rfl rfl) ?_)) | (refine kBin ?_; first | (refine LOps.ans (AnsL.add rfl rfl ?_) ?_; (focus (constructor <;> omega)))) | (refine kIdx ?_; first | (refine LOps.ans (AnsL.idx tT_ok rfl rfl rfl rfl rfl hg rfl rfl) ?_) | (refine LOps.ans (AnsL.idxM tT_ok rfl rfl rfl rfl rfl ?_) ?_; (focus (omega)))))
      | (refine kWL ?_; first | (refine WL.seq ?_) | (refine WL.region (by kernel_rfl) ?_) | (refine WL.block ?_) | (refine WL.skip ?_) | (refine kCond ?_; first | (refine WL.condT' rfl ?_ ?_; (focus (first | (simp only [decide_eq_true_eq, decide_eq_false_iff_not, Bool.not_eq_true', Bool.not_eq_false', Int.ofNat_lt, Int.ofNat_le, Int.ofNat_inj, not_true_eq_false, not_false_eq_true]; omega))))))
      | (refine lthen_n ?_)
      | (refine lblock_n ?_)
    exact ⟨rfl, ⟨rfl, rfl, rfl, trivial⟩, rfl⟩
  · skip
    repeat' first
      | (refine lfin_e ?_)
      | (refine kOps ?_; first | (refine LOps.nil ?_) | (refine LOps.ev tT_ok rfl ?_) | (refine kLen ?_; first | (refine LOps.ans (AnsL.lenM tT_ok rfl rfl rfl) ?_)))
      | (refine kWL ?_; first | (refine WL.seq ?_) | (refine WL.region (by kernel_rfl) ?_) | (refine WL.exit ?_) | (refine WL.ret ?_) | (refine kCond ?_; first | (refine WL.condF' rfl ?_ ?_; (focus (first | (simp <;> fail))))))
      | (refine lthen_n ?_)
      | (refine lthen_e ?_)
      | (refine lblock_e ?_)
      | (refine LPost.r1 (r := .tmp 2) (.inl rfl) (Res1.tmp rfl) ?_)
    exact Own2.filled (by rw [List.length_map]) (plainL_of (plain_PExprSS xs)) (PExprSS_len xs)
theorem szPExprSS_r (xs : List (List PE)) (ih : ∀ x ∈ xs, SzC Try.prog 91 (PE.vS x)) : SzC Try.prog 90 (.sl 0 (xs.map PE.vS)) := by
  intro left s h0 h1
  rw [PExprSS_wgt]
  refine VCalls.wf fun hwf => ?_
  simp only [List.all_cons, List.all_nil, V.wf, Bool.and_true, Bool.and_eq_true, decide_eq_true_eq, List.length_map] at hwf
  have hmx := len_max
  have hln := hwf.1.1
  refine LCalls.pure Try.func90 rfl (by kernel_rfl) (by simp) ?_
  by_cases c0 : left - (xs.length : Int) < 0
  · skip
    repeat' first
      | (refine kOps ?_; first | (refine LOps.nil ?_) | (refine LOps.ev tT_ok rfl ?_) | (refine kLen ?_; first | (refine LOps.ans (AnsL.lenM tT_ok rfl rfl rfl) ?_)) | (refine kBin ?_; first | (refine LOps.ans (AnsL.sub rfl rfl ?_) ?_; (focus (constructor <;> omega)))))
      | (refine kWL ?_; first | (refine WL.seq ?_) | (refine WL.region (by kernel_rfl) ?_) | (refine WL.ret ?_) | (refine kCond ?_; first | (refine WL.condT' rfl ?_ ?_; (focus (first | (exact decide_eq_true (by assumption)))))))
      | (refine lthen_n ?_)
      | (refine lthen_r ?_)
      | (refine LPost.r1 (r := .tmp 4) (.inl rfl) (Res1.tmp rfl) ?_)
      | (refine PureR.mk ?_)
    show V.int .i64 (-1) = _; rw [szI_neg (by simp only [slW]; omega)]
  repeat' first
    | (refine kOps ?_; first | (refine LOps.nil ?_) | (refine LOps.ev tT_ok rfl ?_) | (refine kLen ?_; first | (refine LOps.ans (AnsL.lenM tT_ok rfl rfl rfl) ?_)) | (refine kBin ?_; first | (refine LOps.ans (AnsL.sub rfl rfl ?_) ?_; (focus (constructor <;> omega)))))
    | (refine kWL ?_; first | (refine WL.seq ?_) | (refine WL.region (by kernel_rfl) ?_) | (refine WL.block ?_) | (refine WL.skip ?_) | (refine kCond ?_; first | (refine WL.condF' rfl ?_ ?_; (focus (first | (exact decide_eq_false (by assumption)))))))
    | (refine lthen_n ?_)
  refine WL.loopD (fun i : Nat => xs.length - i) (fun i => [(0, .sl 0 (xs.map PE.vS)), (1, .int .i64 (left - xs.length - (sumW (fun x => wgt (PE.vS x)) (xs.take i) : Nat))), (5, .int .i64 (i : Int))]) (fun i => [])
    (fun i => i ≤ xs.length ∧ 0 ≤ left - (xs.length : Int) - (sumW (fun x => wgt (PE.vS x)) (xs.take i) : Nat)) 0 0 (by simp [sumW]; omega) (fun _ => rfl) ⟨rfl, by simp [sumW]; rfl, rfl, trivial⟩ rfl (fun i hi => ?_) (fun i hi => ?_)
  · refine ⟨?_, rfl⟩
    simp only [UnderK, List.all_cons, List.all_nil, Bool.and_true, Bool.and_eq_true]
    exact ⟨under_dat (plain_dat _ (plain_PExprSS xs)), rfl, rfl⟩
  obtain ⟨hi, hi2⟩ := hi
  rcases Nat.lt_or_ge i xs.length with hlt | hge
  · have hs := sumW_take (f := (fun x => wgt (PE.vS x))) hlt
    have hm := sumW_take_le (fun x => wgt (PE.vS x)) xs (i + 1)
    have hi' : i < (xs.map PE.vS).length := by simpa using hlt
    have hd : (xs.map PE.vS)[i] = PE.vS xs[i] := List.getElem_map ..
    have hg : (xs.map PE.vS)[i]? = some (PE.vS xs[i]) := by rw [List.getElem?_eq_getElem hi', hd]
    have hE := ih xs[i] (List.getElem_mem hlt)
    try simp only at hs
    by_cases c : left - (xs.length : Int) - (sumW (fun x => wgt (PE.vS x)) (xs.take i) : Nat) - (wgt (PE.vS xs[i]) : Nat) < 0
    · skip
      repeat' first
        | (refine kOps ?_; first | (refine LOps.nil ?_) | (refine LOps.ev tT_ok rfl ?_) | (refine kLen ?_; first | (refine LOps.ans (AnsL.lenM tT_ok rfl rfl rfl) ?_)) | (refine kIdx ?_; first | (refine LOps.ans (AnsL.idx tT_ok rfl rfl rfl rfl rfl hg rfl rfl) ?_)) | (refine kCallN 91 ?_; first | (refine LOps.ans (AnsL.callP rfl rfl rfl (ok91) (hE.no ?_ ?_ ?_ _)) ?_; (focus (omega)); (focus (omega)); (focus (omega)))))
        | (refine kWL ?_; first | (refine WL.seq ?_) | (refine WL.region (by kernel_rfl) ?_) | (refine WL.block ?_) | (refine WL.skip ?_) | (refine WL.ret ?_) | (refine kCond ?_; first | (refine WL.condT rfl ?_) | (refine WL.condT' rfl ?_ ?_; (focus (first | (simp only [decide_eq_true_eq, decide_eq_false_iff_not, Bool.not_eq_true', Bool.not_eq_false', Int.ofNat_lt, Int.ofNat_le, Int.ofNat_inj, not_true_eq_false, not_false_eq_true]; omega))))))
        | (refine lthen_n ?_)
        | (refine lthen_r ?_)
        | (refine lblock_r ?_)
        | (refine lbackD_r ?_)
        | (refine LPost.r1 (r := .tmp 4) (.inl rfl) (Res1.tmp rfl) ?_)
        | (refine PureR.mk ?_)
      show V.int .i64 (-1) = _; rw [szI_neg (by simp only [slW]; omega)]
    · skip
      repeat' first
        | (refine kOps ?_; first | (refine LOps.nil ?_) | (refine LOps.ev tT_ok rfl ?_) | (refine kLen ?_; first | (refine LOps.ans (AnsL.lenM tT_ok rfl rfl rfl) ?_)) | (refine kBin ?_; first | (refine LOps.ans (AnsL.add rfl rfl ?_) ?_; (focus (constructor <;> omega)))) | (refine kIdx ?_; first | (refine LOps.ans (AnsL.idx tT_ok rfl rfl rfl rfl rfl hg rfl rfl) ?_)) | (refine kCallN 91 ?_; first | (refine LOps.ans (AnsL.callP rfl rfl rfl (ok91) (hE.ok ?_ ?_ _)) ?_; (focus (omega)); (focus (omega)))))
        | (refine kWL ?_; first | (refine WL.seq ?_) | (refine WL.region (by kernel_rfl) ?_) | (refine WL.block ?_) | (refine WL.skip ?_) | (refine kCond ?_; first | (refine WL.condT' rfl ?_ ?_; (focus (first | (simp only [decide_eq_true_eq, decide_eq_false_iff_not, Bool.not_eq_true', Bool.not_eq_false', Int.ofNat_lt, Int.ofNat_le, Int.ofNat_inj, not_true_eq_false, not_false_eq_true]; omega)))) | (refine WL.condF' rfl ?_ ?_; (focus (first | (exact decide_eq_false (by assumption)))))))
        | (refine lthen_n ?_)
        | (refine lblock_n ?_)
      all_goals
        refine lbackD.of (i + 1) ?_ ?_ ?_ ?_
        · first | omega | (refine ⟨?_, ?_⟩; (focus (first | omega | (simp; omega))); (first | omega | (simp_all [hs] <;> fail) | (simp_all [hs]; omega))) | (simp_all [hs] <;> fail) | (simp_all [hs]; omega)
        · first | omega | (simp; omega) | simp_all
        · repeat' first
            | exact SubL.nil
            | (refine SubL.mk rfl ?_ ?_)
            | rfl
            | (simp only [hs, List.map_append, List.map_cons, List.map_nil]; rfl)
            | (simp only [hs, List.map_append, List.map_cons, List.map_nil]; simp [hs] <;> fail)
            | (simp only [hs, List.map_append, List.map_cons, List.map_nil]; simp [hs]; omega)
            | (simp [hs] <;> fail)
            | (simp [hs]; omega)
        · first | rfl | (simp only [hs, List.map_append, List.map_cons, List.map_nil]; rfl) | (simp only [hs, List.map_append, List.map_cons, List.map_nil]; simp [hs] <;> fail) | (simp only [hs, List.map_append, List.map_cons, List.map_nil]; simp [hs]; omega) | (simp [hs] <;> fail) | (simp [hs]; omega)
  · have hs := sumW_all (f := (fun x => wgt (PE.vS x))) hge
    repeat' first
      | (refine kOps ?_; first | (refine LOps.nil ?_) | (refine LOps.ev tT_ok rfl ?_) | (refine kLen ?_; first | (refine LOps.ans (AnsL.lenM tT_ok rfl rfl rfl) ?_)))
      | (refine kWL ?_; first | (refine WL.seq ?_) | (refine WL.region (by kernel_rfl) ?_) | (refine WL.exit ?_) | (refine WL.ret ?_) | (refine kCond ?_; first | (refine WL.condF' rfl ?_ ?_; (focus (first | (simp only [decide_eq_true_eq, decide_eq_false_iff_not, Bool.not_eq_true', Bool.not_eq_false', Int.ofNat_lt, Int.ofNat_le, Int.ofNat_inj, not_true_eq_false, not_false_eq_true]; omega))))))
      | (refine lthen_n ?_)
      | (refine lthen_e ?_)
      | (refine lblock_e ?_)
      | (refine lbackD_e ?_)
      | (refine LPost.r1 (r := .tmp 4) (.inl rfl) (Res1.tmp rfl) ?_)
      | (refine PureR.mk ?_)
    rw [szI_pos (by simp only [slW]; omega)]; simp only [slW]; show V.int .i64 _ = _; first | rfl | (congr 1; omega)
theorem eqPExprSS_r (xs : List (List PE)) (hl : xs.length ≤ 4398046511104) (ih : ∀ x ∈ xs, EqC Try.prog 47 (PE.vS x)) : EqC Try.prog 105 (.sl 0 (xs.map PE.vS)) := by
  intro s
  refine LCalls.pure Try.func105 rfl (by kernel_rfl) (by simp) ?_
  repeat' first
    | (refine kOps ?_; first | (refine LOps.nil ?_) | (refine LOps.ev tT_ok rfl ?_) | (refine kLen ?_; first | (refine LOps.ans (AnsL.lenM tT_ok rfl rfl rfl) ?_)))
    | (refine kWL ?_; first | (refine WL.seq ?_) | (refine WL.region (by kernel_rfl) ?_) | (refine WL.block ?_) | (refine WL.skip ?_) | (refine kCond ?_; first | (refine WL.condF' rfl ?_ ?_; (focus (first | (simp <;> fail))))))
    | (refine lthen_n ?_)
  refine WL.loopD (fun i : Nat => xs.length - i) (fun i => [(0, .sl 0 (xs.map PE.vS)), (1, .sl 0 (xs.map PE.vS)), (5, .int .i64 (i : Int))]) (fun i => [])
    (fun i => i ≤ xs.length) 0 0 (by simp) (fun _ => rfl) ⟨rfl, rfl, rfl, trivial⟩ rfl (fun i hi => ?_) (fun i hi => ?_)
  · refine ⟨?_, rfl⟩
    simp only [UnderK, List.all_cons, List.all_nil, Bool.and_true, Bool.and_eq_true]
    exact ⟨under_dat (plain_dat _ (plain_PExprSS xs)), under_dat (plain_dat _ (plain_PExprSS xs)), rfl⟩
  rcases Nat.lt_or_ge i xs.length with hlt | hge
  · have hi' : i < (xs.map PE.vS).length := by simpa using hlt
    have hd : (xs.map PE.vS)[i] = PE.vS xs[i] := List.getElem_map ..
    have hg : (xs.map PE.vS)[i]? = some (PE.vS xs[i]) := by rw [List.getElem?_eq_getElem hi', hd]
    have hE := ih xs[i] (List.getElem_mem hlt)
    repeat' first
      | (refine kOps ?_; first | (refine LOps.nil ?_) | (refine LOps.ev tT_ok rfl ?_) | (refine kLen ?_; first | (refine LOps.ans (AnsL.lenM tT_ok rfl rfl rfl) ?_)) | (refine kBin ?_; first | (refine LOps.ans (AnsL.add rfl rfl ?_) ?_; (focus (constructor <;> omega)))))
      | (refine kWL ?_; first | (refine WL.seq ?_) | (refine WL.region (by kernel_rfl) ?_) | (refine WL.drawn (id := 6) [0, 1, 2, 3, 4, 5, 6, 7, 8, 9] [] [[], [], [0, 1], [0, 1, 2], [], [], [4, 5], [4, 5, 6], [0, 1, 2, 3, 4, 5, 6, 7], [0, 1, 2, 3, 4, 5, 6, 7, 8]] (by kernel_rfl) (by kernel_rfl) ?_) | (refine WL.block ?_) | (refine WL.skip ?_) | (refine kCond ?_; first | (refine WL.condF rfl ?_) | (refine WL.condT' rfl ?_ ?_; (focus (first | (simp only [decide_eq_true_eq, decide_eq_false_iff_not, Bool.not_eq_true', Bool.not_eq_false', Int.ofNat_lt, Int.ofNat_le, Int.ofNat_inj, not_true_eq_false, not_false_eq_true]; omega))))))
      | (refine kDr ?_; first | (refine LDr.nil ?_) | (refine LDr.fl rfl rfl (.ev tT_ok rfl) ?_) | (refine kDIdx rfl ?_; first | (refine LDr.fl rfl rfl (AnsL.idx tT_ok rfl rfl rfl rfl rfl hg rfl rfl) ?_)) | (refine kDCallN 47 rfl ?_; first | (refine LDr.fl rfl rfl (AnsL.callP rfl rfl rfl (ok47) (hE _)) ?_)))
      | (refine lthen_n ?_)
      | (refine lblock_n ?_)
    all_goals
      refine lbackD.of (i + 1) ?_ ?_ ?_ ?_
      · first | omega | (refine ⟨?_, ?_⟩; (focus (first | omega | (simp; omega))); (first | omega | (simp_all [] <;> fail) | (simp_all []; omega))) | (simp_all [] <;> fail) | (simp_all []; omega)
      · first | omega | (simp; omega) | simp_all
      · repeat' first
          | exact SubL.nil
          | (refine SubL.mk rfl ?_ ?_)
          | rfl
          | (simp [] <;> fail)
          | (simp []; omega)
      · first | rfl | (simp [] <;> fail) | (simp []; omega)
  · skip
    repeat' first
      | (refine kOps ?_; first | (refine LOps.nil ?_) | (refine LOps.ev tT_ok rfl ?_) | (refine kLen ?_; first | (refine LOps.ans (AnsL.lenM tT_ok rfl rfl rfl) ?_)))
      | (refine kWL ?_; first | (refine WL.seq ?_) | (refine WL.region (by kernel_rfl) ?_) | (refine WL.exit ?_) | (refine WL.ret ?_) | (refine kCond ?_; first | (refine WL.condF' rfl ?_ ?_; (focus (first | (simp only [decide_eq_true_eq, decide_eq_false_iff_not, Bool.not_eq_true', Bool.not_eq_false', Int.ofNat_lt, Int.ofNat_le, Int.ofNat_inj, not_true_eq_false, not_false_eq_true]; omega))))))
      | (refine lthen_n ?_)
      | (refine lthen_e ?_)
      | (refine lblock_e ?_)
      | (refine lbackD_e ?_)
      | (refine LPost.r1 (r := .tmp 4) (.inl rfl) (Res1.tmp rfl) ?_)
      | (refine PureR.mk ?_)
    rfl
theorem PSortS_len (l : List (PE × Bool)) : ∀ x ∈ l.map PE.sv, x.cells.length = 11 := by
  intro v hv
  obtain ⟨x, _, rfl⟩ := List.mem_map.1 hv
  rfl
theorem PSortS_wgt (l : List (PE × Bool)) : wgt (.sl 0 (l.map PE.sv)) = slW (fun x => wgt (PE.sv x)) l := by
  rw [wgt_sl]
theorem toPSortS_r (xs : List (PE × Bool)) (hl : xs.length ≤ 1048576) (ih : ∀ x ∈ xs, ToC Try.prog 144 (PE.sv x)) : ToC Try.prog 99 (.sl 0 (xs.map PE.sv)) := by
  intro s
  refine LCalls.body Try.func99 rfl (by kernel_rfl) ?_
  repeat' first
    | (refine kOps ?_; first | (refine LOps.nil ?_) | (refine LOps.ev tT_ok rfl ?_) | (refine kMake ?_; first | (refine LOps.make tT_ok rfl rfl rfl rfl rfl rfl rfl rfl (AppB.of ?_ rfl) ?_; (focus (first | omega)))) | (refine kLen ?_; first | (refine LOps.ans (AnsL.lenM tT_ok rfl rfl rfl) ?_)))
    | (refine kWL ?_; first | (refine WL.seq ?_) | (refine WL.region (by kernel_rfl) ?_) | (refine WL.block ?_))
    | (refine lthen_n ?_)
  refine WL.loopFill (xs.map PE.sv) [.int .i64 0, .int .i64 0, .bool false, .int .i64 0, .int .i64 0, .str [], .int .i64 0, .int .i64 0, .nilsl, .nilsl, .bool false] (fun i => [(0, .sl 0 (xs.map PE.sv)), (3, .slm true (s.next + 0) 0 xs.length), (4, .int .i64 (i : Int))]) (PSortS_len xs) (by rw [List.length_map]) ⟨rfl, rfl, rfl, trivial⟩ (fun i hi m B CA CZ hq hm => ?_) ?_
  · have hlt : i < xs.length := by simpa using hi
    have hd : (xs.map PE.sv)[i] = PE.sv xs[i] := List.getElem_map ..
    have hg : (xs.map PE.sv)[i]? = some (PE.sv xs[i]) := by rw [List.getElem?_eq_getElem hi, hd]
    rw [hd]
    have hE := ih xs[i] (List.getElem_mem hlt)
    have hp : (PE.sv xs[i]).plain = true := PE.plains _
    generalize xs[i] = y at *
    repeat' first
      | (refine kCallN 144 ?_ ; refine LOps.lendE rfl rfl ok144 ?_ hE hm rfl ?_ ; (focus (exact plainL_cons hp rfl)))
      | (refine kStore ?_ ; refine LOps.storeX tT_ok hq rfl rfl rfl rfl rfl rfl rfl rfl ?_)
      | (refine kOps ?_; first | (refine LOps.nil ?_) | (refine LOps.ev tT_ok rfl ?_) | (refine kLen ?_; first | (refine LOps.ans (AnsL.lenM tT_ok rfl rfl rfl) ?_)) | (refine kBin ?_; first | (refine LOps.ans (AnsL.add rfl rfl ?_) ?_; (focus (constructor <;> omega)))) | (refine kIdx ?_; first | (refine LOps.ans (AnsL.idx tT_ok rfl rfl rfl rfl rfl hg rfl rfl) ?_) | (refine LOps.ans (AnsL.idxM tT_ok rfl rfl rfl rfl rfl ?_) ?_; (focus (omega)))))
      | (refine kWL ?_; first | (refine WL.seq ?_) | (refine WL.region (by kernel_rfl) ?_) | (refine WL.block ?_) | (refine WL.skip ?_) | (refine kCond ?_; first | (refine WL.condT' rfl ?_ ?_; (focus (first | (simp only [decide_eq_true_eq, decide_eq_false_iff_not, Bool.not_eq_true', Bool.not_eq_false', Int.ofNat_lt, Int.ofNat_le, Int.ofNat_inj, not_true_eq_false, not_false_eq_true]; omega))))))
      | (refine lthen_n ?_)
      | (refine lblock_n ?_)
    exact ⟨rfl, ⟨rfl, rfl, rfl, trivial⟩, rfl⟩
  · skip
    repeat' first
      | (refine lfin_e ?_)
      | (refine kOps ?_; first | (refine LOps.nil ?_) | (refine LOps.ev tT_ok rfl ?_) | (refine kLen ?_; first | (refine LOps.ans (AnsL.lenM tT_ok rfl rfl rfl) ?_)))
      | (refine kWL ?_; first | (refine WL.seq ?_) | (refine WL.region (by kernel_rfl) ?_) | (refine WL.exit ?_) | (refine WL.ret ?_) | (refine kCond ?_; first | (refine WL.condF' rfl ?_ ?_; (focus (first | (simp <;> fail))))))
      | (refine lthen_n ?_)
      | (refine lthen_e ?_)
      | (refine lblock_e ?_)
      | (refine LPost.r1 (r := .tmp 2) (.inl rfl) (Res1.tmp rfl) ?_)
    exact Own2.filled (by rw [List.length_map]) (plainL_of (plain_PSortS xs)) (PSortS_len xs)
theorem szPSortS_r (xs : List (PE × Bool)) (ih : ∀ x ∈ xs, SzC Try.prog 143 (PE.sv x)) : SzC Try.prog 92 (.sl 0 (xs.map PE.sv)) := by
  intro left s h0 h1
  rw [PSortS_wgt]
  refine VCalls.wf fun hwf => ?_
  simp only [List.all_cons, List.all_nil, V.wf, Bool.and_true, Bool.and_eq_true, decide_eq_true_eq, List.length_map] at hwf
  have hmx := len_max
  have hln := hwf.1.1
  refine LCalls.pure Try.func92 rfl (by kernel_rfl) (by simp) ?_
  by_cases c0 : left - (xs.length : Int) < 0
  · skip
    repeat' first
      | (refine kOps ?_; first | (refine LOps.nil ?_) | (refine LOps.ev tT_ok rfl ?_) | (refine kLen ?_; first | (refine LOps.ans (AnsL.lenM tT_ok rfl rfl rfl) ?_)) | (refine kBin ?_; first | (refine LOps.ans (AnsL.sub rfl rfl ?_) ?_; (focus (constructor <;> omega)))))
      | (refine kWL ?_; first | (refine WL.seq ?_) | (refine WL.region (by kernel_rfl) ?_) | (refine WL.ret ?_) | (refine kCond ?_; first | (refine WL.condT' rfl ?_ ?_; (focus (first | (exact decide_eq_true (by assumption)))))))
      | (refine lthen_n ?_)
      | (refine lthen_r ?_)
      | (refine LPost.r1 (r := .tmp 4) (.inl rfl) (Res1.tmp rfl) ?_)
      | (refine PureR.mk ?_)
    show V.int .i64 (-1) = _; rw [szI_neg (by simp only [slW]; omega)]
  repeat' first
    | (refine kOps ?_; first | (refine LOps.nil ?_) | (refine LOps.ev tT_ok rfl ?_) | (refine kLen ?_; first | (refine LOps.ans (AnsL.lenM tT_ok rfl rfl rfl) ?_)) | (refine kBin ?_; first | (refine LOps.ans (AnsL.sub rfl rfl ?_) ?_; (focus (constructor <;> omega)))))
    | (refine kWL ?_; first | (refine WL.seq ?_) | (refine WL.region (by kernel_rfl) ?_) | (refine WL.block ?_) | (refine WL.skip ?_) | (refine kCond ?_; first | (refine WL.condF' rfl ?_ ?_; (focus (first | (exact decide_eq_false (by assumption)))))))
    | (refine lthen_n ?_)
  refine WL.loopD (fun i : Nat => xs.length - i) (fun i => [(0, .sl 0 (xs.map PE.sv)), (1, .int .i64 (left - xs.length - (sumW (fun x => wgt (PE.sv x)) (xs.take i) : Nat))), (5, .int .i64 (i : Int))]) (fun i => [])
    (fun i => i ≤ xs.length ∧ 0 ≤ left - (xs.length : Int) - (sumW (fun x => wgt (PE.sv x)) (xs.take i) : Nat)) 0 0 (by simp [sumW]; omega) (fun _ => rfl) ⟨rfl, by simp [sumW]; rfl, rfl, trivial⟩ rfl (fun i hi => ?_) (fun i hi => ?_)
  · refine ⟨?_, rfl⟩
    simp only [UnderK, List.all_cons, List.all_nil, Bool.and_true, Bool.and_eq_true]
    exact ⟨under_dat (plain_dat _ (plain_PSortS xs)), rfl, rfl⟩
  obtain ⟨hi, hi2⟩ := hi
  rcases Nat.lt_or_ge i xs.length with hlt | hge
  · have hs := sumW_take (f := (fun x => wgt (PE.sv x))) hlt
    have hm := sumW_take_le (fun x => wgt (PE.sv x)) xs (i + 1)
    have hi' : i < (xs.map PE.sv).length := by simpa using hlt
    have hd : (xs.map PE.sv)[i] = PE.sv xs[i] := List.getElem_map ..
    have hg : (xs.map PE.sv)[i]? = some (PE.sv xs[i]) := by rw [List.getElem?_eq_getElem hi', hd]
    have hE := ih xs[i] (List.getElem_mem hlt)
    try simp only at hs
    by_cases c : left - (xs.length : Int) - (sumW (fun x => wgt (PE.sv x)) (xs.take i) : Nat) - (wgt (PE.sv xs[i]) : Nat) < 0
    · skip
      repeat' first
        | (refine kOps ?_; first | (refine LOps.nil ?_) | (refine LOps.ev tT_ok rfl ?_) | (refine kLen ?_; first | (refine LOps.ans (AnsL.lenM tT_ok rfl rfl rfl) ?_)) | (refine kIdx ?_; first | (refine LOps.ans (AnsL.idx tT_ok rfl rfl rfl rfl rfl hg rfl rfl) ?_)) | (refine kCallN 143 ?_; first | (refine LOps.ans (AnsL.callP rfl rfl rfl (ok143) (hE.no ?_ ?_ ?_ _)) ?_; (focus (omega)); (focus (omega)); (focus (omega)))))
        | (refine kWL ?_; first | (refine WL.seq ?_) | (refine WL.region (by kernel_rfl) ?_) | (refine WL.block ?_) | (refine WL.skip ?_) | (refine WL.ret ?_) | (refine kCond ?_; first | (refine WL.condT rfl ?_) | (refine WL.condT' rfl ?_ ?_; (focus (first | (simp only [decide_eq_true_eq, decide_eq_false_iff_not, Bool.not_eq_true', Bool.not_eq_false', Int.ofNat_lt, Int.ofNat_le, Int.ofNat_inj, not_true_eq_false, not_false_eq_true]; omega))))))
        | (refine lthen_n ?_)
        | (refine lthen_r ?_)
        | (refine lblock_r ?_)
        | (refine lbackD_r ?_)
        | (refine LPost.r1 (r := .tmp 4) (.inl rfl) (Res1.tmp rfl) ?_)
        | (refine PureR.mk ?_)
      show V.int .i64 (-1) = _; rw [szI_neg (by simp only [slW]; omega)]
    · skip
      repeat' first
        | (refine kOps ?_; first | (refine LOps.nil ?_) | (refine LOps.ev tT_ok rfl ?_) | (refine kLen ?_; first | (refine LOps.ans (AnsL.lenM tT_ok rfl rfl rfl) ?_)) | (refine kBin ?_; first | (refine LOps.ans (AnsL.add rfl rfl ?_) ?_; (focus (constructor <;> omega)))) | (refine kIdx ?_; first | (refine LOps.ans (AnsL.idx tT_ok rfl rfl rfl rfl rfl hg rfl rfl) ?_)) | (refine kCallN 143 ?_; first | (refine LOps.ans (AnsL.callP rfl rfl rfl (ok143) (hE.ok ?_ ?_ _)) ?_; (focus (omega)); (focus (omega)))))
        | (refine kWL ?_; first | (refine WL.seq ?_) | (refine WL.region (by kernel_rfl) ?_) | (refine WL.block ?_) | (refine WL.skip ?_) | (refine kCond ?_; first | (refine WL.condT' rfl ?_ ?_; (focus (first | (simp only [decide_eq_true_eq, decide_eq_false_iff_not, Bool.not_eq_true', Bool.not_eq_false', Int.ofNat_lt, Int.ofNat_le, Int.ofNat_inj, not_true_eq_false, not_false_eq_true]; omega)))) | (refine WL.condF' rfl ?_ ?_; (focus (first | (exact decide_eq_false (by assumption)))))))
        | (refine lthen_n ?_)
        | (refine lblock_n ?_)
      all_goals
        refine lbackD.of (i + 1) ?_ ?_ ?_ ?_
        · first | omega | (refine ⟨?_, ?_⟩; (focus (first | omega | (simp; omega))); (first | omega | (simp_all [hs] <;> fail) | (simp_all [hs]; omega))) | (simp_all [hs] <;> fail) | (simp_all [hs]; omega)
        · first | omega | (simp; omega) | simp_all
        · repeat' first
            | exact SubL.nil
            | (refine SubL.mk rfl ?_ ?_)
            | rfl
            | (simp only [hs, List.map_append, List.map_cons, List.map_nil]; rfl)
            | (simp only [hs, List.map_append, List.map_cons, List.map_nil]; simp [hs] <;> fail)
            | (simp only [hs, List.map_append, List.map_cons, List.map_nil]; simp [hs]; omega)
            | (simp [hs] <;> fail)
            | (simp [hs]; omega)
        · first | rfl | (simp only [hs, List.map_append, List.map_cons, List.map_nil]; rfl) | (simp only [hs, List.map_append, List.map_cons, List.map_nil]; simp [hs] <;> fail) | (simp only [hs, List.map_append, List.map_cons, List.map_nil]; simp [hs]; omega) | (simp [hs] <;> fail) | (simp [hs]; omega)
  · have hs := sumW_all (f := (fun x => wgt (PE.sv x))) hge
    repeat' first
      | (refine kOps ?_; first | (refine LOps.nil ?_) | (refine LOps.ev tT_ok rfl ?_) | (refine kLen ?_; first | (refine LOps.ans (AnsL.lenM tT_ok rfl rfl rfl) ?_)))
      | (refine kWL ?_; first | (refine WL.seq ?_) | (refine WL.region (by kernel_rfl) ?_) | (refine WL.exit ?_) | (refine WL.ret ?_) | (refine kCond ?_; first | (refine WL.condF' rfl ?_ ?_; (focus (first | (simp only [decide_eq_true_eq, decide_eq_false_iff_not, Bool.not_eq_true', Bool.not_eq_false', Int.ofNat_lt, Int.ofNat_le, Int.ofNat_inj, not_true_eq_false, not_false_eq_true]; omega))))))
      | (refine lthen_n ?_)
      | (refine lthen_e ?_)
      | (refine lblock_e ?_)
      | (refine lbackD_e ?_)
      | (refine LPost.r1 (r := .tmp 4) (.inl rfl) (Res1.tmp rfl) ?_)
      | (refine PureR.mk ?_)
    rw [szI_pos (by simp only [slW]; omega)]; simp only [slW]; show V.int .i64 _ = _; first | rfl | (congr 1; omega)
theorem eqPSortS_r (xs : List (PE × Bool)) (hl : xs.length ≤ 4398046511104) (ih : ∀ x ∈ xs, EqC Try.prog 145 (PE.sv x)) : EqC Try.prog 106 (.sl 0 (xs.map PE.sv)) := by
  intro s
  refine LCalls.pure Try.func106 rfl (by kernel_rfl) (by simp) ?_
  repeat' first
    | (refine kOps ?_; first | (refine LOps.nil ?_) | (refine LOps.ev tT_ok rfl ?_) | (refine kLen ?_; first | (refine LOps.ans (AnsL.lenM tT_ok rfl rfl rfl) ?_)))
    | (refine kWL ?_; first | (refine WL.seq ?_) | (refine WL.region (by kernel_rfl) ?_) | (refine WL.block ?_) | (refine WL.skip ?_) | (refine kCond ?_; first | (refine WL.condF' rfl ?_ ?_; (focus (first | (simp <;> fail))))))
    | (refine lthen_n ?_)
  refine WL.loopD (fun i : Nat => xs.length - i) (fun i => [(0, .sl 0 (xs.map PE.sv)), (1, .sl 0 (xs.map PE.sv)), (5, .int .i64 (i : Int))]) (fun i => [])
    (fun i => i ≤ xs.length) 0 0 (by simp) (fun _ => rfl) ⟨rfl, rfl, rfl, trivial⟩ rfl (fun i hi => ?_) (fun i hi => ?_)
  · refine ⟨?_, rfl⟩
    simp only [UnderK, List.all_cons, List.all_nil, Bool.and_true, Bool.and_eq_true]
    exact ⟨under_dat (plain_dat _ (plain_PSortS xs)), under_dat (plain_dat _ (plain_PSortS xs)), rfl⟩
  rcases Nat.lt_or_ge i xs.length with hlt | hge
  · have hi' : i < (xs.map PE.sv).length := by simpa using hlt
    have hd : (xs.map PE.sv)[i] = PE.sv xs[i] := List.getElem_map ..
    have hg : (xs.map PE.sv)[i]? = some (PE.sv xs[i]) := by rw [List.getElem?_eq_getElem hi', hd]
    have hE := ih xs[i] (List.getElem_mem hlt)
    repeat' first
      | (refine kOps ?_; first | (refine LOps.nil ?_) | (refine LOps.ev tT_ok rfl ?_) | (refine kLen ?_; first | (refine LOps.ans (AnsL.lenM tT_ok rfl rfl rfl) ?_)) | (refine kBin ?_; first | (refine LOps.ans (AnsL.add rfl rfl ?_) ?_; (focus (constructor <;> omega)))))
      | (refine kWL ?_; first | (refine WL.seq ?_) | (refine WL.region (by kernel_rfl) ?_) | (refine WL.drawn (id := 6) [0, 1, 2, 3, 4, 5, 6, 7, 8, 9] [] [[], [], [0, 1], [0, 1, 2], [], [], [4, 5], [4, 5, 6], [0, 1, 2, 3, 4, 5, 6, 7], [0, 1, 2, 3, 4, 5, 6, 7, 8]] (by kernel_rfl) (by kernel_rfl) ?_) | (refine WL.block ?_) | (refine WL.skip ?_) | (refine kCond ?_; first | (refine WL.condF rfl ?_) | (refine WL.condT' rfl ?_ ?_; (focus (first | (simp only [decide_eq_true_eq, decide_eq_false_iff_not, Bool.not_eq_true', Bool.not_eq_false', Int.ofNat_lt, Int.ofNat_le, Int.ofNat_inj, not_true_eq_false, not_false_eq_true]; omega))))))
      | (refine kDr ?_; first | (refine LDr.nil ?_) | (refine LDr.fl rfl rfl (.ev tT_ok rfl) ?_) | (refine kDIdx rfl ?_; first | (refine LDr.fl rfl rfl (AnsL.idx tT_ok rfl rfl rfl rfl rfl hg rfl rfl) ?_)) | (refine kDCallN 145 rfl ?_; first | (refine LDr.fl rfl rfl (AnsL.callP rfl rfl rfl (ok145) (hE _)) ?_)))
      | (refine lthen_n ?_)
      | (refine lblock_n ?_)
    all_goals
      refine lbackD.of (i + 1) ?_ ?_ ?_ ?_
      · first | omega | (refine ⟨?_, ?_⟩; (focus (first | omega | (simp; omega))); (first | omega | (simp_all [] <;> fail) | (simp_all []; omega))) | (simp_all [] <;> fail) | (simp_all []; omega)
      · first | omega | (simp; omega) | simp_all
      · repeat' first
          | exact SubL.nil
          | (refine SubL.mk rfl ?_ ?_)
          | rfl
          | (simp [] <;> fail)
          | (simp []; omega)
      · first | rfl | (simp [] <;> fail) | (simp []; omega)
  · skip
    repeat' first
      | (refine kOps ?_; first | (refine LOps.nil ?_) | (refine LOps.ev tT_ok rfl ?_) | (refine kLen ?_; first | (refine LOps.ans (AnsL.lenM tT_ok rfl rfl rfl) ?_)))
      | (refine kWL ?_; first | (refine WL.seq ?_) | (refine WL.region (by kernel_rfl) ?_) | (refine WL.exit ?_) | (refine WL.ret ?_) | (refine kCond ?_; first | (refine WL.condF' rfl ?_ ?_; (focus (first | (simp only [decide_eq_true_eq, decide_eq_false_iff_not, Bool.not_eq_true', Bool.not_eq_false', Int.ofNat_lt, Int.ofNat_le, Int.ofNat_inj, not_true_eq_false, not_false_eq_true]; omega))))))
      | (refine lthen_n ?_)
      | (refine lthen_e ?_)
      | (refine lblock_e ?_)
      | (refine lbackD_e ?_)
      | (refine LPost.r1 (r := .tmp 4) (.inl rfl) (Res1.tmp rfl) ?_)
      | (refine PureR.mk ?_)
    rfl
theorem PlanS_len (l : List PL) : ∀ x ∈ l.map PE.planV, x.cells.length = 8 := by
  intro v hv
  obtain ⟨x, _, rfl⟩ := List.mem_map.1 hv
  rw [PE.planV_eq]; rfl
theorem PlanS_wgt (l : List PL) : wgt (.sl 0 (l.map PE.planV)) = slW (fun x => wgt (PL.v x)) l := by
  rw [wgt_sl]
  simp only [PE.planV_eq]
theorem toPlanS_r (xs : List PL) (hl : xs.length ≤ 1048576) (ih : ∀ x ∈ xs, ToC Try.prog 32 (PL.v x)) : ToC Try.prog 116 (.sl 0 (xs.map PE.planV)) := by
  intro s
  refine LCalls.body Try.func116 rfl (by kernel_rfl) ?_
  repeat' first
    | (refine kOps ?_; first | (refine LOps.nil ?_) | (refine LOps.ev tT_ok rfl ?_) | (refine kMake ?_; first | (refine LOps.make tT_ok rfl rfl rfl rfl rfl rfl rfl rfl (AppB.ofW ?_ rfl) ?_; (focus (first | omega)))) | (refine kLen ?_; first | (refine LOps.ans (AnsL.lenM tT_ok rfl rfl rfl) ?_)))
    | (refine kWL ?_; first | (refine WL.seq ?_) | (refine WL.region (by kernel_rfl) ?_) | (refine WL.block ?_))
    | (refine lthen_n ?_)
  refine WL.loopFill (xs.map PE.planV) [.nilsl, .nilsl, .nilsl, .nilsl, .nilsl, .nilsl, .bool false, .int .i64 0] (fun i => [(0, .sl 0 (xs.map PE.planV)), (3, .slm true (s.next + 0) 0 xs.length), (4, .int .i64 (i : Int))]) (PlanS_len xs) (by rw [List.length_map]) ⟨rfl, rfl, rfl, trivial⟩ (fun i hi m B CA CZ hq hm => ?_) ?_
  · have hlt : i < xs.length := by simpa using hi
    have hd : (xs.map PE.planV)[i] = PL.v xs[i] := by rw [List.getElem_map, PE.planV_eq]
    have hg : (xs.map PE.planV)[i]? = some (PL.v xs[i]) := by rw [List.getElem?_eq_getElem hi, hd]
    rw [hd]
    have hE := ih xs[i] (List.getElem_mem hlt)
    have hp : (PL.v xs[i]).plain = true := PL.plain _
    generalize xs[i] = y at *
    repeat' first
      | (refine kCallN 32 ?_ ; refine LOps.lendE rfl rfl ok32 ?_ hE hm rfl ?_ ; (focus (exact plainL_cons hp rfl)))
      | (refine kStore ?_ ; refine LOps.storeX tT_ok hq rfl rfl rfl rfl rfl rfl rfl rfl ?_)
      | (refine kOps ?_; first | (refine LOps.nil ?_) | (refine LOps.ev tT_ok rfl ?_) | (refine kLen ?_; first | (refine LOps.ans (AnsL.lenM tT_ok rfl rfl rfl) ?_)) | (refine kBin ?_; first | (refine LOps.ans (AnsL.add rfl rfl ?_) ?_; (focus (constructor <;> omega)))) | (refine kIdx ?_; first | (refine LOps.ans (AnsL.idx tT_ok rfl rfl rfl rfl rfl hg rfl rfl) ?_) | (refine LOps.ans (AnsL.idxM tT_ok rfl rfl rfl rfl rfl ?_) ?_; (focus (omega)))))
      | (refine kWL ?_; first | (refine WL.seq ?_) | (refine WL.region (by kernel_rfl) ?_) | (refine WL.block ?_) | (refine WL.skip ?_) | (refine kCond ?_; first | (refine WL.condT' rfl ?_ ?_; (focus (first | (simp only [decide_eq_true_eq, decide_eq_false_iff_not, Bool.not_eq_true', Bool.not_eq_false', Int.ofNat_lt, Int.ofNat_le, Int.ofNat_inj, not_true_eq_false, not_false_eq_true]; omega))))))
      | (refine lthen_n ?_)
      | (refine lblock_n ?_)
    exact ⟨rfl, ⟨rfl, rfl, rfl, trivial⟩, rfl⟩
  · skip
    repeat' first
      | (refine lfin_e ?_)
      | (refine kOps ?_; first | (refine LOps.nil ?_) | (refine LOps.ev tT_ok rfl ?_) | (refine kLen ?_; first | (refine LOps.ans (AnsL.lenM tT_ok rfl rfl rfl) ?_)))
      | (refine kWL ?_; first | (refine WL.seq ?_) | (refine WL.region (by kernel_rfl) ?_) | (refine WL.exit ?_) | (refine WL.ret ?_) | (refine kCond ?_; first | (refine WL.condF' rfl ?_ ?_; (focus (first | (simp <;> fail))))))
      | (refine lthen_n ?_)
      | (refine lthen_e ?_)
      | (refine lblock_e ?_)
      | (refine LPost.r1 (r := .tmp 2) (.inl rfl) (Res1.tmp rfl) ?_)
    exact Own2.filled (by rw [List.length_map]) (plainL_of (plain_PlanS xs)) (PlanS_len xs)
theorem szPlanS_r (xs : List PL) (ih : ∀ x ∈ xs, SzC Try.prog 30 (PL.v x)) : SzC Try.prog 113 (.sl 0 (xs.map PE.planV)) := by
  intro left s h0 h1
  rw [PlanS_wgt]
  refine VCalls.wf fun hwf => ?_
  simp only [List.all_cons, List.all_nil, V.wf, Bool.and_true, Bool.and_eq_true, decide_eq_true_eq, List.length_map] at hwf
  have hmx := len_max
  have hln := hwf.1.1
  refine LCalls.pure Try.func113 rfl (by kernel_rfl) (by simp) ?_
  by_cases c0 : left - (xs.length : Int) < 0
  · skip
    repeat' first
      | (refine kOps ?_; first | (refine LOps.nil ?_) | (refine LOps.ev tT_ok rfl ?_) | (refine kLen ?_; first | (refine LOps.ans (AnsL.lenM tT_ok rfl rfl rfl) ?_)) | (refine kBin ?_; first | (refine LOps.ans (AnsL.sub rfl rfl ?_) ?_; (focus (constructor <;> omega)))))
      | (refine kWL ?_; first | (refine WL.seq ?_) | (refine WL.region (by kernel_rfl) ?_) | (refine WL.ret ?_) | (refine kCond ?_; first | (refine WL.condT' rfl ?_ ?_; (focus (first | (exact decide_eq_true (by assumption)))))))
      | (refine lthen_n ?_)
      | (refine lthen_r ?_)
      | (refine LPost.r1 (r := .tmp 4) (.inl rfl) (Res1.tmp rfl) ?_)
      | (refine PureR.mk ?_)
    show V.int .i64 (-1) = _; rw [szI_neg (by simp only [slW]; omega)]
  repeat' first
    | (refine kOps ?_; first | (refine LOps.nil ?_) | (refine LOps.ev tT_ok rfl ?_) | (refine kLen ?_; first | (refine LOps.ans (AnsL.lenM tT_ok rfl rfl rfl) ?_)) | (refine kBin ?_; first | (refine LOps.ans (AnsL.sub rfl rfl ?_) ?_; (focus (constructor <;> omega)))))
    | (refine kWL ?_; first | (refine WL.seq ?_) | (refine WL.region (by kernel_rfl) ?_) | (refine WL.block ?_) | (refine WL.skip ?_) | (refine kCond ?_; first | (refine WL.condF' rfl ?_ ?_; (focus (first | (exact decide_eq_false (by assumption)))))))
    | (refine lthen_n ?_)
  refine WL.loopD (fun i : Nat => xs.length - i) (fun i => [(0, .sl 0 (xs.map PE.planV)), (1, .int .i64 (left - xs.length - (sumW (fun x => wgt (PL.v x)) (xs.take i) : Nat))), (5, .int .i64 (i : Int))]) (fun i => [])
    (fun i => i ≤ xs.length ∧ 0 ≤ left - (xs.length : Int) - (sumW (fun x => wgt (PL.v x)) (xs.take i) : Nat)) 0 0 (by simp [sumW]; omega) (fun _ => rfl) ⟨rfl, by simp [sumW]; rfl, rfl, trivial⟩ rfl (fun i hi => ?_) (fun i hi => ?_)
  · refine ⟨?_, rfl⟩
    simp only [UnderK, List.all_cons, List.all_nil, Bool.and_true, Bool.and_eq_true]
    exact ⟨under_dat (plain_dat _ (plain_PlanS xs)), rfl, rfl⟩
  obtain ⟨hi, hi2⟩ := hi
  rcases Nat.lt_or_ge i xs.length with hlt | hge
  · have hs := sumW_take (f := (fun x => wgt (PL.v x))) hlt
    have hm := sumW_take_le (fun x => wgt (PL.v x)) xs (i + 1)
    have hi' : i < (xs.map PE.planV).length := by simpa using hlt
    have hd : (xs.map PE.planV)[i] = PL.v xs[i] := by rw [List.getElem_map, PE.planV_eq]
    have hg : (xs.map PE.planV)[i]? = some (PL.v xs[i]) := by rw [List.getElem?_eq_getElem hi', hd]
    have hE := ih xs[i] (List.getElem_mem hlt)
    try simp only at hs
    by_cases c : left - (xs.length : Int) - (sumW (fun x => wgt (PL.v x)) (xs.take i) : Nat) - (wgt (PL.v xs[i]) : Nat) < 0
    · skip
      repeat' first
        | (refine kOps ?_; first | (refine LOps.nil ?_) | (refine LOps.ev tT_ok rfl ?_) | (refine kLen ?_; first | (refine LOps.ans (AnsL.lenM tT_ok rfl rfl rfl) ?_)) | (refine kIdx ?_; first | (refine LOps.ans (AnsL.idx tT_ok rfl rfl rfl rfl rfl hg rfl rfl) ?_)) | (refine kCallN 30 ?_; first | (refine LOps.ans (AnsL.callP rfl rfl rfl (ok30) (hE.no ?_ ?_ ?_ _)) ?_; (focus (omega)); (focus (omega)); (focus (omega)))))
        | (refine kWL ?_; first | (refine WL.seq ?_) | (refine WL.region (by kernel_rfl) ?_) | (refine WL.block ?_) | (refine WL.skip ?_) | (refine WL.ret ?_) | (refine kCond ?_; first | (refine WL.condT rfl ?_) | (refine WL.condT' rfl ?_ ?_; (focus (first | (simp only [decide_eq_true_eq, decide_eq_false_iff_not, Bool.not_eq_true', Bool.not_eq_false', Int.ofNat_lt, Int.ofNat_le, Int.ofNat_inj, not_true_eq_false, not_false_eq_true]; omega))))))
        | (refine lthen_n ?_)
        | (refine lthen_r ?_)
        | (refine lblock_r ?_)
        | (refine lbackD_r ?_)
        | (refine LPost.r1 (r := .tmp 4) (.inl rfl) (Res1.tmp rfl) ?_)
        | (refine PureR.mk ?_)
      show V.int .i64 (-1) = _; rw [szI_neg (by simp only [slW]; omega)]
    · skip
      repeat' first
        | (refine kOps ?_; first | (refine LOps.nil ?_) | (refine LOps.ev tT_ok rfl ?_) | (refine kLen ?_; first | (refine LOps.ans (AnsL.lenM tT_ok rfl rfl rfl) ?_)) | (refine kBin ?_; first | (refine LOps.ans (AnsL.add rfl rfl ?_) ?_; (focus (constructor <;> omega)))) | (refine kIdx ?_; first | (refine LOps.ans (AnsL.idx tT_ok rfl rfl rfl rfl rfl hg rfl rfl) ?_)) | (refine kCallN 30 ?_; first | (refine LOps.ans (AnsL.callP rfl rfl rfl (ok30) (hE.ok ?_ ?_ _)) ?_; (focus (omega)); (focus (omega)))))
        | (refine kWL ?_; first | (refine WL.seq ?_) | (refine WL.region (by kernel_rfl) ?_) | (refine WL.block ?_) | (refine WL.skip ?_) | (refine kCond ?_; first | (refine WL.condT' rfl ?_ ?_; (focus (first | (simp only [decide_eq_true_eq, decide_eq_false_iff_not, Bool.not_eq_true', Bool.not_eq_false', Int.ofNat_lt, Int.ofNat_le, Int.ofNat_inj, not_true_eq_false, not_false_eq_true]; omega)))) | (refine WL.condF' rfl ?_ ?_; (focus (first | (exact decide_eq_false (by assumption)))))))
        | (refine lthen_n ?_)
        | (refine lblock_n ?_)
      all_goals
        refine lbackD.of (i + 1) ?_ ?_ ?_ ?_
        · first | omega | (refine ⟨?_, ?_⟩; (focus (first | omega | (simp; omega))); (first | omega | (simp_all [hs] <;> fail) | (simp_all [hs]; omega))) | (simp_all [hs] <;> fail) | (simp_all [hs]; omega)
        · first | omega | (simp; omega) | simp_all
        · repeat' first
            | exact SubL.nil
            | (refine SubL.mk rfl ?_ ?_)
            | rfl
            | (simp only [hs, List.map_append, List.map_cons, List.map_nil]; rfl)
            | (simp only [hs, List.map_append, List.map_cons, List.map_nil]; simp [hs] <;> fail)
            | (simp only [hs, List.map_append, List.map_cons, List.map_nil]; simp [hs]; omega)
            | (simp [hs] <;> fail)
            | (simp [hs]; omega)
        · first | rfl | (simp only [hs, List.map_append, List.map_cons, List.map_nil]; rfl) | (simp only [hs, List.map_append, List.map_cons, List.map_nil]; simp [hs] <;> fail) | (simp only [hs, List.map_append, List.map_cons, List.map_nil]; simp [hs]; omega) | (simp [hs] <;> fail) | (simp [hs]; omega)
  · have hs := sumW_all (f := (fun x => wgt (PL.v x))) hge
    repeat' first
      | (refine kOps ?_; first | (refine LOps.nil ?_) | (refine LOps.ev tT_ok rfl ?_) | (refine kLen ?_; first | (refine LOps.ans (AnsL.lenM tT_ok rfl rfl rfl) ?_)))
      | (refine kWL ?_; first | (refine WL.seq ?_) | (refine WL.region (by kernel_rfl) ?_) | (refine WL.exit ?_) | (refine WL.ret ?_) | (refine kCond ?_; first | (refine WL.condF' rfl ?_ ?_; (focus (first | (simp only [decide_eq_true_eq, decide_eq_false_iff_not, Bool.not_eq_true', Bool.not_eq_false', Int.ofNat_lt, Int.ofNat_le, Int.ofNat_inj, not_true_eq_false, not_false_eq_true]; omega))))))
      | (refine lthen_n ?_)
      | (refine lthen_e ?_)
      | (refine lblock_e ?_)
      | (refine lbackD_e ?_)
      | (refine LPost.r1 (r := .tmp 4) (.inl rfl) (Res1.tmp rfl) ?_)
      | (refine PureR.mk ?_)
    rw [szI_pos (by simp only [slW]; omega)]; simp only [slW]; show V.int .i64 _ = _; first | rfl | (congr 1; omega)
theorem eqPlanS_r (xs : List PL) (hl : xs.length ≤ 4398046511104) (ih : ∀ x ∈ xs, EqC Try.prog 35 (PL.v x)) : EqC Try.prog 119 (.sl 0 (xs.map PE.planV)) := by
  intro s
  refine LCalls.pure Try.func119 rfl (by kernel_rfl) (by simp) ?_
  repeat' first
    | (refine kOps ?_; first | (refine LOps.nil ?_) | (refine LOps.ev tT_ok rfl ?_) | (refine kLen ?_; first | (refine LOps.ans (AnsL.lenM tT_ok rfl rfl rfl) ?_)))
    | (refine kWL ?_; first | (refine WL.seq ?_) | (refine WL.region (by kernel_rfl) ?_) | (refine WL.block ?_) | (refine WL.skip ?_) | (refine kCond ?_; first | (refine WL.condF' rfl ?_ ?_; (focus (first | (simp <;> fail))))))
    | (refine lthen_n ?_)
  refine WL.loopD (fun i : Nat => xs.length - i) (fun i => [(0, .sl 0 (xs.map PE.planV)), (1, .sl 0 (xs.map PE.planV)), (5, .int .i64 (i : Int))]) (fun i => [])
    (fun i => i ≤ xs.length) 0 0 (by simp) (fun _ => rfl) ⟨rfl, rfl, rfl, trivial⟩ rfl (fun i hi => ?_) (fun i hi => ?_)
  · refine ⟨?_, rfl⟩
    simp only [UnderK, List.all_cons, List.all_nil, Bool.and_true, Bool.and_eq_true]
    exact ⟨under_dat (plain_dat _ (plain_PlanS xs)), under_dat (plain_dat _ (plain_PlanS xs)), rfl⟩
  rcases Nat.lt_or_ge i xs.length with hlt | hge
  · have hi' : i < (xs.map PE.planV).length := by simpa using hlt
    have hd : (xs.map PE.planV)[i] = PL.v xs[i] := by rw [List.getElem_map, PE.planV_eq]
    have hg : (xs.map PE.planV)[i]? = some (PL.v xs[i]) := by rw [List.getElem?_eq_getElem hi', hd]
    have hE := ih xs[i] (List.getElem_mem hlt)
    repeat' first
      | (refine kOps ?_; first | (refine LOps.nil ?_) | (refine LOps.ev tT_ok rfl ?_) | (refine kLen ?_; first | (refine LOps.ans (AnsL.lenM tT_ok rfl rfl rfl) ?_)) | (refine kBin ?_; first | (refine LOps.ans (AnsL.add rfl rfl ?_) ?_; (focus (constructor <;> omega)))))
      | (refine kWL ?_; first | (refine WL.seq ?_) | (refine WL.region (by kernel_rfl) ?_) | (refine WL.drawn (id := 6) [0, 1, 2, 3, 4, 5, 6, 7, 8, 9] [] [[], [], [0, 1], [0, 1, 2], [], [], [4, 5], [4, 5, 6], [0, 1, 2, 3, 4, 5, 6, 7], [0, 1, 2, 3, 4, 5, 6, 7, 8]] (by kernel_rfl) (by kernel_rfl) ?_) | (refine WL.block ?_) | (refine WL.skip ?_) | (refine kCond ?_; first | (refine WL.condF rfl ?_) | (refine WL.condT' rfl ?_ ?_; (focus (first | (simp only [decide_eq_true_eq, decide_eq_false_iff_not, Bool.not_eq_true', Bool.not_eq_false', Int.ofNat_lt, Int.ofNat_le, Int.ofNat_inj, not_true_eq_false, not_false_eq_true]; omega))))))
      | (refine kDr ?_; first | (refine LDr.nil ?_) | (refine LDr.fl rfl rfl (.ev tT_ok rfl) ?_) | (refine kDIdx rfl ?_; first | (refine LDr.fl rfl rfl (AnsL.idx tT_ok rfl rfl rfl rfl rfl hg rfl rfl) ?_)) | (refine kDCallN 35 rfl ?_; first | (refine LDr.fl rfl rfl (AnsL.callP rfl rfl rfl (ok35) (hE _)) ?_)))
      | (refine lthen_n ?_)
      | (refine lblock_n ?_)
    all_goals
      refine lbackD.of (i + 1) ?_ ?_ ?_ ?_
      · first | omega | (refine ⟨?_, ?_⟩; (focus (first | omega | (simp; omega))); (first | omega | (simp_all [] <;> fail) | (simp_all []; omega))) | (simp_all [] <;> fail) | (simp_all []; omega)
      · first | omega | (simp; omega) | simp_all
      · repeat' first
          | exact SubL.nil
          | (refine SubL.mk rfl ?_ ?_)
          | rfl
          | (simp [] <;> fail)
          | (simp []; omega)
      · first | rfl | (simp [] <;> fail) | (simp []; omega)
  · skip
    repeat' first
      | (refine kOps ?_; first | (refine LOps.nil ?_) | (refine LOps.ev tT_ok rfl ?_) | (refine kLen ?_; first | (refine LOps.ans (AnsL.lenM tT_ok rfl rfl rfl) ?_)))
      | (refine kWL ?_; first | (refine WL.seq ?_) | (refine WL.region (by kernel_rfl) ?_) | (refine WL.exit ?_) | (refine WL.ret ?_) | (refine kCond ?_; first | (refine WL.condF' rfl ?_ ?_; (focus (first | (simp only [decide_eq_true_eq, decide_eq_false_iff_not, Bool.not_eq_true', Bool.not_eq_false', Int.ofNat_lt, Int.ofNat_le, Int.ofNat_inj, not_true_eq_false, not_false_eq_true]; omega))))))
      | (refine lthen_n ?_)
      | (refine lthen_e ?_)
      | (refine lblock_e ?_)
      | (refine lbackD_e ?_)
      | (refine LPost.r1 (r := .tmp 4) (.inl rfl) (Res1.tmp rfl) ?_)
      | (refine PureR.mk ?_)
    rfl
theorem PE.thw_v (m : Nat) (e : PE) : (thw m (PE.v e)).1 = .agg [.int .i64 e.kind, .int .i64 e.op, .bool e.nt, .int .i64 e.value.kind, .int .i64 e.value.num, .str e.value.text, .int .i64 e.up, .int .i64 e.pos, (thw m (.sl 0 (e.kids.map PE.toV))).1, (thw (m + cv (.sl 0 (e.kids.map PE.toV))) (.sl 0 (e.sub.map PE.planV))).1] := by
  simp only [PE.v, thw_agg, thwL_nil, thwL_int, thwL_str, thwL_bool, thwL_sl]
theorem PE.thaw_v (m : Nat) (e : PE) : thawed m (PE.v e) = thawed m (.sl 0 (e.kids.map PE.toV)) ++ thawed (m + cv (.sl 0 (e.kids.map PE.toV))) (.sl 0 (e.sub.map PE.planV)) := by
  simp only [thawed, PE.v, thw_agg, thwL_nil, thwL_int, thwL_str, thwL_bool, thwL_sl, List.map_append, List.append_nil]
theorem toPExpr_r (x : PE) (hvl : x.value.wt ≤ 1048576) (h0 : ToC Try.prog 98 (.sl 0 (x.kids.map PE.toV))) (h1 : ToC Try.prog 116 (.sl 0 (x.sub.map PE.planV))) : ToC Try.prog 41 (PE.v x) := by
  intro s
  refine LCalls.body Try.func41 rfl (by kernel_rfl) ?_
  repeat' first
    | (refine kCallN 98 ?_ ; refine LOps.lendE (m := s.next + 3) rfl rfl ok98 ?_ h0 ?_ (rfl) ?_ ; (focus (exact plainL_cons (plain_PExprS _) rfl)) ; (focus (first | rfl)))
    | (refine kCallN 116 ?_ ; refine LOps.lendE (m := s.next + 3 + cv (.sl 0 (x.kids.map PE.toV))) rfl rfl ok116 ?_ h1 ?_ (rfl) ?_ ; (focus (exact plainL_cons (plain_PlanS _) rfl)) ; (focus (first | rfl | (simp only [List.append_eq, List.nil_append, List.length_append, List.length_cons, List.length_nil, thawed_length] ; omega))))
    | (refine kStore ?_ ; first | (refine LOps.storeP tT_ok rfl rfl rfl rfl rfl rfl rfl rfl rfl ?_) | (refine LOps.storeP tT_ok rfl rfl rfl rfl (thw_cellsO _ _ _) (thw_onesO _ _ _) rfl rfl rfl ?_) | (refine LOps.storeP tT_ok rfl rfl rfl rfl rfl ?_ rfl rfl rfl ?_ ; (focus (repeat' first | exact rfl | (refine ones_cons (thw_one _ _ _) ?_) | (refine ones_cons rfl ?_)))))
    | (refine kOps ?_; first | (refine LOps.nil ?_) | (refine LOps.ev tT_ok rfl ?_) | (refine kBox ?_; refine LOps.box rfl rfl rfl rfl ?_) | (refine kAlloc ?_; refine LOps.alloc tT_ok rfl rfl rfl rfl ?_) | (refine kLoad ?_; first | (refine LOps.ans (AnsL.loadP tT_ok rfl rfl rfl rfl) ?_)) | (refine kCallN 115 ?_; first | (refine LOps.ans (AnsL.callP rfl rfl rfl (ok115) (toVal_v _ ?_ _)) ?_; (focus (omega)))))
    | (refine kWL ?_; first | (refine WL.seq ?_) | (refine WL.region (by kernel_rfl) ?_) | (refine WL.ret ?_))
    | (refine lthen_n ?_)
    | (refine LPost.r1 (r := .cell 2 82) (.inl rfl) (Res1.cell tT_ok rfl rfl rfl rfl) ?_)
  have hth : thawed (s.next + 3) (PE.v x) = thawed (s.next + 3) (.sl 0 (x.kids.map PE.toV)) ++ thawed (s.next + 3 + cv (.sl 0 (x.kids.map PE.toV))) (.sl 0 (x.sub.map PE.planV)) := by simp only [thawed, PE.v, thw_agg, thwL_nil, thwL_int, thwL_str, thwL_bool, thwL_sl, List.map_append, List.append_assoc, List.append_nil, List.nil_append, cv, cvL, Nat.add_zero, Nat.zero_add, Nat.add_assoc]
  refine Own2.thwK 3 (m := s.next + 3) (PE.plainv x) ?_ rfl (by simp only [List.length_cons]; omega) ?_
  · simp only [PE.v, thw_agg, thwL_nil, thwL_int, thwL_str, thwL_bool, thwL_sl, cv, cvL, Nat.add_zero, Nat.zero_add, Nat.add_assoc]
  · rw [hth]; rfl
theorem szPExpr_r (x : PE) (h0 : SzC Try.prog 91 (.sl 0 (x.kids.map PE.toV))) (h1 : SzC Try.prog 113 (.sl 0 (x.sub.map PE.planV))) : SzC Try.prog 39 (PE.v x) := by
  intro left s g0 g1
  refine VCalls.wf fun hwf => ?_
  have hmx := len_max
  have hw := PE.wgt_eq2 x
  skip
  refine LCalls.pure Try.func39 rfl (by kernel_rfl) (by simp) ?_
  by_cases c0 : left - (x.value.wt : Nat) < 0
  · skip
    repeat' first
      | (refine kOps ?_; first | (refine LOps.nil ?_) | (refine LOps.ev tT_ok rfl ?_) | (refine kBox ?_; refine LOps.box rfl rfl rfl rfl ?_) | (refine kLoad ?_; first | (refine LOps.ans (AnsL.loadP tT_ok rfl rfl rfl rfl) ?_)) | (refine kCallN 112 ?_; first | (refine LOps.ans (AnsL.callP rfl rfl rfl (ok112) (szVal_no _ _ ?_ ?_ ?_ _)) ?_; (focus (omega)); (focus (omega)); (focus (omega)))))
      | (refine kWL ?_; first | (refine WL.seq ?_) | (refine WL.region (by kernel_rfl) ?_) | (refine WL.ret ?_) | (refine kCond ?_; first | (refine WL.condT rfl ?_)))
      | (refine lthen_n ?_)
      | (refine lthen_r ?_)
      | (refine LPost.r1 (r := .tmp 4) (.inl rfl) (Res1.tmp rfl) ?_)
      | (refine PureR.mk ?_)
    show V.int .i64 (-1) = _; rw [szI_neg (by omega)]
  by_cases c1 : left - (x.value.wt : Nat) - (wgt (.sl 0 (x.kids.map PE.toV)) : Nat) < 0
  · skip
    repeat' first
      | (refine kOps ?_; first | (refine LOps.nil ?_) | (refine LOps.ev tT_ok rfl ?_) | (refine kBox ?_; refine LOps.box rfl rfl rfl rfl ?_) | (refine kLoad ?_; first | (refine LOps.ans (AnsL.loadP tT_ok rfl rfl rfl rfl) ?_)) | (refine kCallN 112 ?_; first | (refine LOps.ans (AnsL.callP rfl rfl rfl (ok112) (szVal_ok _ _ ?_ ?_ _)) ?_; (focus (omega)); (focus (omega)))) | (refine kCallN 91 ?_; first | (refine LOps.ans (AnsL.callP rfl rfl rfl (ok91) (h0.no ?_ ?_ ?_ _)) ?_; (focus (omega)); (focus (omega)); (focus (omega)))))
      | (refine kWL ?_; first | (refine WL.seq ?_) | (refine WL.region (by kernel_rfl) ?_) | (refine WL.skip ?_) | (refine WL.ret ?_) | (refine kCond ?_; first | (refine WL.condT rfl ?_) | (refine WL.condF' rfl ?_ ?_; (focus (first | (exact decide_eq_false (by assumption)))))))
      | (refine lthen_n ?_)
      | (refine lthen_r ?_)
      | (refine LPost.r1 (r := .tmp 4) (.inl rfl) (Res1.tmp rfl) ?_)
      | (refine PureR.mk ?_)
    show V.int .i64 (-1) = _; rw [szI_neg (by omega)]
  by_cases c2 : left - (x.value.wt : Nat) - (wgt (.sl 0 (x.kids.map PE.toV)) : Nat) - (wgt (.sl 0 (x.sub.map PE.planV)) : Nat) < 0
  · skip
    repeat' first
      | (refine kOps ?_; first | (refine LOps.nil ?_) | (refine LOps.ev tT_ok rfl ?_) | (refine kBox ?_; refine LOps.box rfl rfl rfl rfl ?_) | (refine kLoad ?_; first | (refine LOps.ans (AnsL.loadP tT_ok rfl rfl rfl rfl) ?_)) | (refine kCallN 112 ?_; first | (refine LOps.ans (AnsL.callP rfl rfl rfl (ok112) (szVal_ok _ _ ?_ ?_ _)) ?_; (focus (omega)); (focus (omega)))) | (refine kCallN 113 ?_; first | (refine LOps.ans (AnsL.callP rfl rfl rfl (ok113) (h1.no ?_ ?_ ?_ _)) ?_; (focus (omega)); (focus (omega)); (focus (omega)))) | (refine kCallN 91 ?_; first | (refine LOps.ans (AnsL.callP rfl rfl rfl (ok91) (h0.ok ?_ ?_ _)) ?_; (focus (omega)); (focus (omega)))))
      | (refine kWL ?_; first | (refine WL.seq ?_) | (refine WL.region (by kernel_rfl) ?_) | (refine WL.skip ?_) | (refine WL.ret ?_) | (refine kCond ?_; first | (refine WL.condT rfl ?_) | (refine WL.condF' rfl ?_ ?_; (focus (first | (exact decide_eq_false (by assumption)))))))
      | (refine lthen_n ?_)
      | (refine lthen_r ?_)
      | (refine LPost.r1 (r := .tmp 4) (.inl rfl) (Res1.tmp rfl) ?_)
      | (refine PureR.mk ?_)
    show V.int .i64 (-1) = _; rw [szI_neg (by omega)]
  repeat' first
    | (refine kOps ?_; first | (refine LOps.nil ?_) | (refine LOps.ev tT_ok rfl ?_) | (refine kBox ?_; refine LOps.box rfl rfl rfl rfl ?_) | (refine kLoad ?_; first | (refine LOps.ans (AnsL.loadP tT_ok rfl rfl rfl rfl) ?_)) | (refine kCallN 112 ?_; first | (refine LOps.ans (AnsL.callP rfl rfl rfl (ok112) (szVal_ok _ _ ?_ ?_ _)) ?_; (focus (omega)); (focus (omega)))) | (refine kCallN 113 ?_; first | (refine LOps.ans (AnsL.callP rfl rfl rfl (ok113) (h1.ok ?_ ?_ _)) ?_; (focus (omega)); (focus (omega)))) | (refine kCallN 91 ?_; first | (refine LOps.ans (AnsL.callP rfl rfl rfl (ok91) (h0.ok ?_ ?_ _)) ?_; (focus (omega)); (focus (omega)))))
    | (refine kWL ?_; first | (refine WL.seq ?_) | (refine WL.region (by kernel_rfl) ?_) | (refine WL.skip ?_) | (refine WL.ret ?_) | (refine kCond ?_; first | (refine WL.condF' rfl ?_ ?_; (focus (first | (exact decide_eq_false (by assumption)))))))
    | (refine lthen_n ?_)
    | (refine LPost.r1 (r := .tmp 4) (.inl rfl) (Res1.tmp rfl) ?_)
    | (refine PureR.mk ?_)
  rw [szI_pos (by omega)]; show V.int .i64 _ = _; first | rfl | (congr 1; omega)
theorem eqPExpr_r (x : PE) (hvl : x.value.wt ≤ 1048576) (h0 : EqC Try.prog 47 (.sl 0 (x.kids.map PE.toV))) (h1 : EqC Try.prog 119 (.sl 0 (x.sub.map PE.planV))) : EqC Try.prog 43 (PE.v x) := by
  intro s
  refine LCalls.pure Try.func43 rfl (by kernel_rfl) (by simp) ?_
  repeat' first
    | (refine kOps ?_; first | (refine LOps.nil ?_) | (refine LOps.ev tT_ok rfl ?_) | (refine kBox ?_; refine LOps.box rfl rfl rfl rfl ?_) | (refine kLoad ?_; first | (refine LOps.ans (AnsL.loadP tT_ok rfl rfl rfl rfl) ?_)) | (refine kCallN 118 ?_; first | (refine LOps.ans (AnsL.callP rfl rfl rfl (ok118) (eqVal_v _ ?_ _)) ?_; (focus (omega)))) | (refine kCallN 119 ?_; first | (refine LOps.ans (AnsL.callP rfl rfl rfl (ok119) (h1 _)) ?_)) | (refine kCallN 47 ?_; first | (refine LOps.ans (AnsL.callP rfl rfl rfl (ok47) (h0 _)) ?_)))
    | (refine kWL ?_; first | (refine WL.seq ?_) | (refine WL.region (by kernel_rfl) ?_) | (refine WL.skip ?_) | (refine WL.ret ?_) | (refine kCond ?_; first | (refine WL.condF rfl ?_) | (refine WL.condF' rfl ?_ ?_; (focus (first | (simp <;> fail))))))
    | (refine lthen_n ?_)
    | (refine LPost.r1 (r := .tmp 4) (.inl rfl) (Res1.tmp rfl) ?_)
    | (refine PureR.mk ?_)
  rfl
theorem toPlan_r (x : PL) (h0 : ToC Try.prog 96 (.sl 0 (x.tables.map iV))) (h1 : ToC Try.prog 97 (.sl 0 (x.on.map PE.vS))) (h2 : ToC Try.prog 98 (.sl 0 (x.wher.map PE.toV))) (h3 : ToC Try.prog 99 (.sl 0 (x.order.map PE.sv))) (h4 : ToC Try.prog 98 (.sl 0 (x.items.map PE.toV))) (h5 : ToC Try.prog 100 (.sl 0 (x.names.map sV))) : ToC Try.prog 32 (PL.v x) := by
  intro s
  refine LCalls.body Try.func32 rfl (by kernel_rfl) ?_
  repeat' first
    | (refine kCallN 96 ?_ ; refine LOps.lendE (m := s.next + 3) rfl rfl ok96 ?_ h0 ?_ (rfl) ?_ ; (focus (exact plainL_cons (plain_IntS _) rfl)) ; (focus (first | rfl)))
    | (refine kCallN 97 ?_ ; refine LOps.lendE (m := s.next + 3 + cv (.sl 0 (x.tables.map iV))) rfl rfl ok97 ?_ h1 ?_ (rfl) ?_ ; (focus (exact plainL_cons (plain_PExprSS _) rfl)) ; (focus (first | rfl | (simp only [List.append_eq, List.nil_append, List.length_append, List.length_cons, List.length_nil, thawed_length] ; omega))))
    | (refine kCallN 98 ?_ ; refine LOps.lendE (m := s.next + 3 + cv (.sl 0 (x.tables.map iV)) + cv (.sl 0 (x.on.map PE.vS))) rfl rfl ok98 ?_ h2 ?_ (rfl) ?_ ; (focus (exact plainL_cons (plain_PExprS _) rfl)) ; (focus (first | rfl | (simp only [List.append_eq, List.nil_append, List.length_append, List.length_cons, List.length_nil, thawed_length] ; omega))))
    | (refine kCallN 99 ?_ ; refine LOps.lendE (m := s.next + 3 + cv (.sl 0 (x.tables.map iV)) + cv (.sl 0 (x.on.map PE.vS)) + cv (.sl 0 (x.wher.map PE.toV))) rfl rfl ok99 ?_ h3 ?_ (rfl) ?_ ; (focus (exact plainL_cons (plain_PSortS _) rfl)) ; (focus (first | rfl | (simp only [List.append_eq, List.nil_append, List.length_append, List.length_cons, List.length_nil, thawed_length] ; omega))))
    | (refine kCallN 98 ?_ ; refine LOps.lendE (m := s.next + 3 + cv (.sl 0 (x.tables.map iV)) + cv (.sl 0 (x.on.map PE.vS)) + cv (.sl 0 (x.wher.map PE.toV)) + cv (.sl 0 (x.order.map PE.sv))) rfl rfl ok98 ?_ h4 ?_ (rfl) ?_ ; (focus (exact plainL_cons (plain_PExprS _) rfl)) ; (focus (first | rfl | (simp only [List.append_eq, List.nil_append, List.length_append, List.length_cons, List.length_nil, thawed_length] ; omega))))
    | (refine kCallN 100 ?_ ; refine LOps.lendE (m := s.next + 3 + cv (.sl 0 (x.tables.map iV)) + cv (.sl 0 (x.on.map PE.vS)) + cv (.sl 0 (x.wher.map PE.toV)) + cv (.sl 0 (x.order.map PE.sv)) + cv (.sl 0 (x.items.map PE.toV))) rfl rfl ok100 ?_ h5 ?_ (rfl) ?_ ; (focus (exact plainL_cons (plain_StringS _) rfl)) ; (focus (first | rfl | (simp only [List.append_eq, List.nil_append, List.length_append, List.length_cons, List.length_nil, thawed_length] ; omega))))
    | (refine kStore ?_ ; first | (refine LOps.storeP tT_ok rfl rfl rfl rfl rfl rfl rfl rfl rfl ?_) | (refine LOps.storeP tT_ok rfl rfl rfl rfl (thw_cellsO _ _ _) (thw_onesO _ _ _) rfl rfl rfl ?_) | (refine LOps.storeP tT_ok rfl rfl rfl rfl rfl ?_ rfl rfl rfl ?_ ; (focus (repeat' first | exact rfl | (refine ones_cons (thw_one _ _ _) ?_)))))
    | (refine kOps ?_; first | (refine LOps.nil ?_) | (refine LOps.ev tT_ok rfl ?_) | (refine kBox ?_; refine LOps.box rfl rfl rfl rfl ?_) | (refine kAlloc ?_; refine LOps.alloc tT_ok rfl rfl rfl rfl ?_) | (refine kLoad ?_; first | (refine LOps.ans (AnsL.loadP tT_ok rfl rfl rfl rfl) ?_)))
    | (refine kWL ?_; first | (refine WL.seq ?_) | (refine WL.region (by kernel_rfl) ?_) | (refine WL.ret ?_))
    | (refine lthen_n ?_)
    | (refine LPost.r1 (r := .cell 2 67) (.inl rfl) (Res1.cell tT_ok rfl rfl rfl rfl) ?_)
  have hth : thawed (s.next + 3) (PL.v x) = thawed (s.next + 3) (.sl 0 (x.tables.map iV)) ++ thawed (s.next + 3 + cv (.sl 0 (x.tables.map iV))) (.sl 0 (x.on.map PE.vS)) ++ thawed (s.next + 3 + cv (.sl 0 (x.tables.map iV)) + cv (.sl 0 (x.on.map PE.vS))) (.sl 0 (x.wher.map PE.toV)) ++ thawed (s.next + 3 + cv (.sl 0 (x.tables.map iV)) + cv (.sl 0 (x.on.map PE.vS)) + cv (.sl 0 (x.wher.map PE.toV))) (.sl 0 (x.order.map PE.sv)) ++ thawed (s.next + 3 + cv (.sl 0 (x.tables.map iV)) + cv (.sl 0 (x.on.map PE.vS)) + cv (.sl 0 (x.wher.map PE.toV)) + cv (.sl 0 (x.order.map PE.sv))) (.sl 0 (x.items.map PE.toV)) ++ thawed (s.next + 3 + cv (.sl 0 (x.tables.map iV)) + cv (.sl 0 (x.on.map PE.vS)) + cv (.sl 0 (x.wher.map PE.toV)) + cv (.sl 0 (x.order.map PE.sv)) + cv (.sl 0 (x.items.map PE.toV))) (.sl 0 (x.names.map sV)) := by simp only [thawed, PL.v, thw_agg, thwL_nil, thwL_int, thwL_str, thwL_bool, thwL_sl, List.map_append, List.append_assoc, List.append_nil, List.nil_append, cv, cvL, Nat.add_zero, Nat.zero_add, Nat.add_assoc]
  refine Own2.thwK 3 (m := s.next + 3) (PL.plain x) ?_ rfl (by simp only [List.length_cons]; omega) ?_
  · simp only [PL.v, thw_agg, thwL_nil, thwL_int, thwL_str, thwL_bool, thwL_sl, cv, cvL, Nat.add_zero, Nat.zero_add, Nat.add_assoc]
  · rw [hth]; rfl
theorem szPlan_r (x : PL) (h0 : SzC Try.prog 89 (.sl 0 (x.tables.map iV))) (h1 : SzC Try.prog 90 (.sl 0 (x.on.map PE.vS))) (h2 : SzC Try.prog 91 (.sl 0 (x.wher.map PE.toV))) (h3 : SzC Try.prog 92 (.sl 0 (x.order.map PE.sv))) (h4 : SzC Try.prog 91 (.sl 0 (x.items.map PE.toV))) (h5 : SzC Try.prog 93 (.sl 0 (x.names.map sV))) : SzC Try.prog 30 (PL.v x) := by
  intro left s g0 g1
  refine VCalls.wf fun hwf => ?_
  have hmx := len_max
  have hw := PL.wgt_eq x
  skip
  refine LCalls.pure Try.func30 rfl (by kernel_rfl) (by simp) ?_
  by_cases c0 : left - (wgt (.sl 0 (x.tables.map iV)) : Nat) < 0
  · skip
    repeat' first
      | (refine kOps ?_; first | (refine LOps.nil ?_) | (refine LOps.ev tT_ok rfl ?_) | (refine kBox ?_; refine LOps.box rfl rfl rfl rfl ?_) | (refine kLoad ?_; first | (refine LOps.ans (AnsL.loadP tT_ok rfl rfl rfl rfl) ?_)) | (refine kCallN 89 ?_; first | (refine LOps.ans (AnsL.callP rfl rfl rfl (ok89) (h0.no ?_ ?_ ?_ _)) ?_; (focus (omega)); (focus (omega)); (focus (omega)))))
      | (refine kWL ?_; first | (refine WL.seq ?_) | (refine WL.region (by kernel_rfl) ?_) | (refine WL.ret ?_) | (refine kCond ?_; first | (refine WL.condT rfl ?_)))
      | (refine lthen_n ?_)
      | (refine lthen_r ?_)
      | (refine LPost.r1 (r := .tmp 4) (.inl rfl) (Res1.tmp rfl) ?_)
      | (refine PureR.mk ?_)
    show V.int .i64 (-1) = _; rw [szI_neg (by omega)]
  by_cases c1 : left - (wgt (.sl 0 (x.tables.map iV)) : Nat) - (wgt (.sl 0 (x.on.map PE.vS)) : Nat) < 0
  · skip
    repeat' first
      | (refine kOps ?_; first | (refine LOps.nil ?_) | (refine LOps.ev tT_ok rfl ?_) | (refine kBox ?_; refine LOps.box rfl rfl rfl rfl ?_) | (refine kLoad ?_; first | (refine LOps.ans (AnsL.loadP tT_ok rfl rfl rfl rfl) ?_)) | (refine kCallN 89 ?_; first | (refine LOps.ans (AnsL.callP rfl rfl rfl (ok89) (h0.ok ?_ ?_ _)) ?_; (focus (omega)); (focus (omega)))) | (refine kCallN 90 ?_; first | (refine LOps.ans (AnsL.callP rfl rfl rfl (ok90) (h1.no ?_ ?_ ?_ _)) ?_; (focus (omega)); (focus (omega)); (focus (omega)))))
      | (refine kWL ?_; first | (refine WL.seq ?_) | (refine WL.region (by kernel_rfl) ?_) | (refine WL.skip ?_) | (refine WL.ret ?_) | (refine kCond ?_; first | (refine WL.condT rfl ?_) | (refine WL.condF' rfl ?_ ?_; (focus (first | (exact decide_eq_false (by assumption)))))))
      | (refine lthen_n ?_)
      | (refine lthen_r ?_)
      | (refine LPost.r1 (r := .tmp 4) (.inl rfl) (Res1.tmp rfl) ?_)
      | (refine PureR.mk ?_)
    show V.int .i64 (-1) = _; rw [szI_neg (by omega)]
  by_cases c2 : left - (wgt (.sl 0 (x.tables.map iV)) : Nat) - (wgt (.sl 0 (x.on.map PE.vS)) : Nat) - (wgt (.sl 0 (x.wher.map PE.toV)) : Nat) < 0
  · skip
    repeat' first
      | (refine kOps ?_; first | (refine LOps.nil ?_) | (refine LOps.ev tT_ok rfl ?_) | (refine kBox ?_; refine LOps.box rfl rfl rfl rfl ?_) | (refine kLoad ?_; first | (refine LOps.ans (AnsL.loadP tT_ok rfl rfl rfl rfl) ?_)) | (refine kCallN 89 ?_; first | (refine LOps.ans (AnsL.callP rfl rfl rfl (ok89) (h0.ok ?_ ?_ _)) ?_; (focus (omega)); (focus (omega)))) | (refine kCallN 90 ?_; first | (refine LOps.ans (AnsL.callP rfl rfl rfl (ok90) (h1.ok ?_ ?_ _)) ?_; (focus (omega)); (focus (omega)))) | (refine kCallN 91 ?_; first | (refine LOps.ans (AnsL.callP rfl rfl rfl (ok91) (h2.no ?_ ?_ ?_ _)) ?_; (focus (omega)); (focus (omega)); (focus (omega)))))
      | (refine kWL ?_; first | (refine WL.seq ?_) | (refine WL.region (by kernel_rfl) ?_) | (refine WL.skip ?_) | (refine WL.ret ?_) | (refine kCond ?_; first | (refine WL.condT rfl ?_) | (refine WL.condF' rfl ?_ ?_; (focus (first | (exact decide_eq_false (by assumption)))))))
      | (refine lthen_n ?_)
      | (refine lthen_r ?_)
      | (refine LPost.r1 (r := .tmp 4) (.inl rfl) (Res1.tmp rfl) ?_)
      | (refine PureR.mk ?_)
    show V.int .i64 (-1) = _; rw [szI_neg (by omega)]
  by_cases c3 : left - (wgt (.sl 0 (x.tables.map iV)) : Nat) - (wgt (.sl 0 (x.on.map PE.vS)) : Nat) - (wgt (.sl 0 (x.wher.map PE.toV)) : Nat) - (wgt (.sl 0 (x.order.map PE.sv)) : Nat) < 0
  · skip
    repeat' first
      | (refine kOps ?_; first | (refine LOps.nil ?_) | (refine LOps.ev tT_ok rfl ?_) | (refine kBox ?_; refine LOps.box rfl rfl rfl rfl ?_) | (refine kLoad ?_; first | (refine LOps.ans (AnsL.loadP tT_ok rfl rfl rfl rfl) ?_)) | (refine kCallN 89 ?_; first | (refine LOps.ans (AnsL.callP rfl rfl rfl (ok89) (h0.ok ?_ ?_ _)) ?_; (focus (omega)); (focus (omega)))) | (refine kCallN 90 ?_; first | (refine LOps.ans (AnsL.callP rfl rfl rfl (ok90) (h1.ok ?_ ?_ _)) ?_; (focus (omega)); (focus (omega)))) | (refine kCallN 91 ?_; first | (refine LOps.ans (AnsL.callP rfl rfl rfl (ok91) (h2.ok ?_ ?_ _)) ?_; (focus (omega)); (focus (omega)))) | (refine kCallN 92 ?_; first | (refine LOps.ans (AnsL.callP rfl rfl rfl (ok92) (h3.no ?_ ?_ ?_ _)) ?_; (focus (omega)); (focus (omega)); (focus (omega)))))
      | (refine kWL ?_; first | (refine WL.seq ?_) | (refine WL.region (by kernel_rfl) ?_) | (refine WL.skip ?_) | (refine WL.ret ?_) | (refine kCond ?_; first | (refine WL.condT rfl ?_) | (refine WL.condF' rfl ?_ ?_; (focus (first | (exact decide_eq_false (by assumption)))))))
      | (refine lthen_n ?_)
      | (refine lthen_r ?_)
      | (refine LPost.r1 (r := .tmp 4) (.inl rfl) (Res1.tmp rfl) ?_)
      | (refine PureR.mk ?_)
    show V.int .i64 (-1) = _; rw [szI_neg (by omega)]
  by_cases c4 : left - (wgt (.sl 0 (x.tables.map iV)) : Nat) - (wgt (.sl 0 (x.on.map PE.vS)) : Nat) - (wgt (.sl 0 (x.wher.map PE.toV)) : Nat) - (wgt (.sl 0 (x.order.map PE.sv)) : Nat) - (wgt (.sl 0 (x.items.map PE.toV)) : Nat) < 0
  · skip
    repeat' first
      | (refine kOps ?_; first | (refine LOps.nil ?_) | (refine LOps.ev tT_ok rfl ?_) | (refine kBox ?_; refine LOps.box rfl rfl rfl rfl ?_) | (refine kLoad ?_; first | (refine LOps.ans (AnsL.loadP tT_ok rfl rfl rfl rfl) ?_)) | (refine kCallN 89 ?_; first | (refine LOps.ans (AnsL.callP rfl rfl rfl (ok89) (h0.ok ?_ ?_ _)) ?_; (focus (omega)); (focus (omega)))) | (refine kCallN 90 ?_; first | (refine LOps.ans (AnsL.callP rfl rfl rfl (ok90) (h1.ok ?_ ?_ _)) ?_; (focus (omega)); (focus (omega)))) | (refine kCallN 91 ?_; first | (refine LOps.ans (AnsL.callP rfl rfl rfl (ok91) (h2.ok ?_ ?_ _)) ?_; (focus (omega)); (focus (omega))) | (refine LOps.ans (AnsL.callP rfl rfl rfl (ok91) (h4.no ?_ ?_ ?_ _)) ?_; (focus (omega)); (focus (omega)); (focus (omega)))) | (refine kCallN 92 ?_; first | (refine LOps.ans (AnsL.callP rfl rfl rfl (ok92) (h3.ok ?_ ?_ _)) ?_; (focus (omega)); (focus (omega)))))
      | (refine kWL ?_; first | (refine WL.seq ?_) | (refine WL.region (by kernel_rfl) ?_) | (refine WL.skip ?_) | (refine WL.ret ?_) | (refine kCond ?_; first | (refine WL.condT rfl ?_) | (refine WL.condF' rfl ?_ ?_; (focus (first | (exact decide_eq_false (by assumption)))))))
      | (refine lthen_n ?_)
      | (refine lthen_r ?_)
      | (refine LPost.r1 (r := .tmp 4) (.inl rfl) (Res1.tmp rfl) ?_)
      | (refine PureR.mk ?_)
    show V.int .i64 (-1) = _; rw [szI_neg (by omega)]
  by_cases c5 : left - (wgt (.sl 0 (x.tables.map iV)) : Nat) - (wgt (.sl 0 (x.on.map PE.vS)) : Nat) - (wgt (.sl 0 (x.wher.map PE.toV)) : Nat) - (wgt (.sl 0 (x.order.map PE.sv)) : Nat) - (wgt (.sl 0 (x.items.map PE.toV)) : Nat) - (wgt (.sl 0 (x.names.map sV)) : Nat) < 0
  · skip
    repeat' first
      | (refine kOps ?_; first | (refine LOps.nil ?_) | (refine LOps.ev tT_ok rfl ?_) | (refine kBox ?_; refine LOps.box rfl rfl rfl rfl ?_) | (refine kLoad ?_; first | (refine LOps.ans (AnsL.loadP tT_ok rfl rfl rfl rfl) ?_)) | (refine kCallN 89 ?_; first | (refine LOps.ans (AnsL.callP rfl rfl rfl (ok89) (h0.ok ?_ ?_ _)) ?_; (focus (omega)); (focus (omega)))) | (refine kCallN 90 ?_; first | (refine LOps.ans (AnsL.callP rfl rfl rfl (ok90) (h1.ok ?_ ?_ _)) ?_; (focus (omega)); (focus (omega)))) | (refine kCallN 91 ?_; first | (refine LOps.ans (AnsL.callP rfl rfl rfl (ok91) (h2.ok ?_ ?_ _)) ?_; (focus (omega)); (focus (omega))) | (refine LOps.ans (AnsL.callP rfl rfl rfl (ok91) (h4.ok ?_ ?_ _)) ?_; (focus (omega)); (focus (omega)))) | (refine kCallN 92 ?_; first | (refine LOps.ans (AnsL.callP rfl rfl rfl (ok92) (h3.ok ?_ ?_ _)) ?_; (focus (omega)); (focus (omega)))) | (refine kCallN 93 ?_; first | (refine LOps.ans (AnsL.callP rfl rfl rfl (ok93) (h5.no ?_ ?_ ?_ _)) ?_; (focus (omega)); (focus (omega)); (focus (omega)))))
      | (refine kWL ?_; first | (refine WL.seq ?_) | (refine WL.region (by kernel_rfl) ?_) | (refine WL.skip ?_) | (refine WL.ret ?_) | (refine kCond ?_; first | (refine WL.condT rfl ?_) | (refine WL.condF' rfl ?_ ?_; (focus (first | (exact decide_eq_false (by assumption)))))))
      | (refine lthen_n ?_)
      | (refine lthen_r ?_)
      | (refine LPost.r1 (r := .tmp 4) (.inl rfl) (Res1.tmp rfl) ?_)
      | (refine PureR.mk ?_)
    show V.int .i64 (-1) = _; rw [szI_neg (by omega)]
  repeat' first
    | (refine kOps ?_; first | (refine LOps.nil ?_) | (refine LOps.ev tT_ok rfl ?_) | (refine kBox ?_; refine LOps.box rfl rfl rfl rfl ?_) | (refine kLoad ?_; first | (refine LOps.ans (AnsL.loadP tT_ok rfl rfl rfl rfl) ?_)) | (refine kCallN 89 ?_; first | (refine LOps.ans (AnsL.callP rfl rfl rfl (ok89) (h0.ok ?_ ?_ _)) ?_; (focus (omega)); (focus (omega)))) | (refine kCallN 90 ?_; first | (refine LOps.ans (AnsL.callP rfl rfl rfl (ok90) (h1.ok ?_ ?_ _)) ?_; (focus (omega)); (focus (omega)))) | (refine kCallN 91 ?_; first | (refine LOps.ans (AnsL.callP rfl rfl rfl (ok91) (h2.ok ?_ ?_ _)) ?_; (focus (omega)); (focus (omega))) | (refine LOps.ans (AnsL.callP rfl rfl rfl (ok91) (h4.ok ?_ ?_ _)) ?_; (focus (omega)); (focus (omega)))) | (refine kCallN 92 ?_; first | (refine LOps.ans (AnsL.callP rfl rfl rfl (ok92) (h3.ok ?_ ?_ _)) ?_; (focus (omega)); (focus (omega)))) | (refine kCallN 93 ?_; first | (refine LOps.ans (AnsL.callP rfl rfl rfl (ok93) (h5.ok ?_ ?_ _)) ?_; (focus (omega)); (focus (omega)))))
    | (refine kWL ?_; first | (refine WL.seq ?_) | (refine WL.region (by kernel_rfl) ?_) | (refine WL.skip ?_) | (refine WL.ret ?_) | (refine kCond ?_; first | (refine WL.condF' rfl ?_ ?_; (focus (first | (exact decide_eq_false (by assumption)))))))
    | (refine lthen_n ?_)
    | (refine LPost.r1 (r := .tmp 4) (.inl rfl) (Res1.tmp rfl) ?_)
    | (refine PureR.mk ?_)
  rw [szI_pos (by omega)]; show V.int .i64 _ = _; first | rfl | (congr 1; omega)
theorem eqPlan_r (x : PL) (h0 : EqC Try.prog 104 (.sl 0 (x.tables.map iV))) (h1 : EqC Try.prog 105 (.sl 0 (x.on.map PE.vS))) (h2 : EqC Try.prog 47 (.sl 0 (x.wher.map PE.toV))) (h3 : EqC Try.prog 106 (.sl 0 (x.order.map PE.sv))) (h4 : EqC Try.prog 47 (.sl 0 (x.items.map PE.toV))) (h5 : EqC Try.prog 107 (.sl 0 (x.names.map sV))) : EqC Try.prog 35 (PL.v x) := by
  intro s
  refine LCalls.pure Try.func35 rfl (by kernel_rfl) (by simp) ?_
  repeat' first
    | (refine kOps ?_; first | (refine LOps.nil ?_) | (refine LOps.ev tT_ok rfl ?_) | (refine kBox ?_; refine LOps.box rfl rfl rfl rfl ?_) | (refine kLoad ?_; first | (refine LOps.ans (AnsL.loadP tT_ok rfl rfl rfl rfl) ?_)) | (refine kCallN 104 ?_; first | (refine LOps.ans (AnsL.callP rfl rfl rfl (ok104) (h0 _)) ?_)) | (refine kCallN 105 ?_; first | (refine LOps.ans (AnsL.callP rfl rfl rfl (ok105) (h1 _)) ?_)) | (refine kCallN 106 ?_; first | (refine LOps.ans (AnsL.callP rfl rfl rfl (ok106) (h3 _)) ?_)) | (refine kCallN 107 ?_; first | (refine LOps.ans (AnsL.callP rfl rfl rfl (ok107) (h5 _)) ?_)) | (refine kCallN 47 ?_; first | (refine LOps.ans (AnsL.callP rfl rfl rfl (ok47) (h2 _)) ?_) | (refine LOps.ans (AnsL.callP rfl rfl rfl (ok47) (h4 _)) ?_)))
    | (refine kWL ?_; first | (refine WL.seq ?_) | (refine WL.region (by kernel_rfl) ?_) | (refine WL.skip ?_) | (refine WL.ret ?_) | (refine kCond ?_; first | (refine WL.condF rfl ?_) | (refine WL.condF' rfl ?_ ?_; (focus (first | (simp <;> fail))))))
    | (refine lthen_n ?_)
    | (refine LPost.r1 (r := .tmp 4) (.inl rfl) (Res1.tmp rfl) ?_)
    | (refine PureR.mk ?_)
  rfl
theorem toPSort_r (x : (PE × Bool)) (h0 : ToC Try.prog 41 (PE.v x.1)) : ToC Try.prog 144 (PE.sv x) := by
  intro s
  refine LCalls.body Try.func144 rfl (by kernel_rfl) ?_
  repeat' first
    | (refine kCallN 41 ?_ ; refine LOps.lendE (m := s.next + 3) rfl rfl ok41 ?_ h0 ?_ (PE.thw_v _ _) ?_ ; (focus (exact plainL_cons (PE.plainv _) rfl)) ; (focus (first | rfl)))
    | (refine kStore ?_ ; first | (refine LOps.storeP tT_ok rfl rfl rfl rfl rfl rfl rfl rfl rfl ?_) | (refine LOps.storeP tT_ok rfl rfl rfl rfl rfl ?_ rfl rfl rfl ?_ ; (focus (repeat' first | exact rfl | (refine ones_cons (thw_one _ _ _) ?_) | (refine ones_cons rfl ?_)))))
    | (refine kOps ?_; first | (refine LOps.nil ?_) | (refine LOps.ev tT_ok rfl ?_) | (refine kBox ?_; refine LOps.box rfl rfl rfl rfl ?_) | (refine kAlloc ?_; refine LOps.alloc tT_ok rfl rfl rfl rfl ?_) | (refine kLoad ?_; first | (refine LOps.ans (AnsL.loadP tT_ok rfl rfl rfl rfl) ?_)))
    | (refine kWL ?_; first | (refine WL.seq ?_) | (refine WL.region (by kernel_rfl) ?_) | (refine WL.ret ?_))
    | (refine lthen_n ?_)
    | (refine LPost.r1 (r := .cell 2 164) (.inl rfl) (Res1.cell tT_ok rfl rfl rfl rfl) ?_)
  have hth : thawed (s.next + 3) (PE.sv x) = thawed (s.next + 3) (PE.v x.1) := by simp only [thawed, PE.sv, PE.v, thw_agg, thwL_nil, thwL_int, thwL_str, thwL_bool, thwL_sl, List.map_append, List.append_assoc, List.append_nil, List.nil_append, cv, cvL, Nat.add_zero, Nat.zero_add, Nat.add_assoc]
  refine Own2.thwK 3 (m := s.next + 3) (PE.plains x) ?_ rfl (by simp only [List.length_cons]; omega) ?_
  · simp only [PE.sv, thw_agg, thwL_nil, thwL_int, thwL_str, thwL_bool, thwL_sl, cv, cvL, Nat.add_zero, Nat.zero_add, Nat.add_assoc]
  · rw [hth]; rfl
theorem szPSort_r (x : (PE × Bool)) (h0 : SzC Try.prog 39 (PE.v x.1)) : SzC Try.prog 143 (PE.sv x) := by
  intro left s g0 g1
  refine VCalls.wf fun hwf => ?_
  have hmx := len_max
  have hw := PE.wgt_eqs x
  skip
  refine LCalls.pure Try.func143 rfl (by kernel_rfl) (by simp) ?_
  by_cases c0 : left - (wgt (PE.v x.1) : Nat) < 0
  · skip
    repeat' first
      | (refine kOps ?_; first | (refine LOps.nil ?_) | (refine LOps.ev tT_ok rfl ?_) | (refine kBox ?_; refine LOps.box rfl rfl rfl rfl ?_) | (refine kLoad ?_; first | (refine LOps.ans (AnsL.loadP tT_ok rfl rfl rfl rfl) ?_)) | (refine kCallN 39 ?_; first | (refine LOps.ans (AnsL.callP rfl rfl rfl (ok39) (h0.no ?_ ?_ ?_ _)) ?_; (focus (omega)); (focus (omega)); (focus (omega)))))
      | (refine kWL ?_; first | (refine WL.seq ?_) | (refine WL.region (by kernel_rfl) ?_) | (refine WL.ret ?_) | (refine kCond ?_; first | (refine WL.condT rfl ?_)))
      | (refine lthen_n ?_)
      | (refine lthen_r ?_)
      | (refine LPost.r1 (r := .tmp 4) (.inl rfl) (Res1.tmp rfl) ?_)
      | (refine PureR.mk ?_)
    show V.int .i64 (-1) = _; rw [szI_neg (by omega)]
  repeat' first
    | (refine kOps ?_; first | (refine LOps.nil ?_) | (refine LOps.ev tT_ok rfl ?_) | (refine kBox ?_; refine LOps.box rfl rfl rfl rfl ?_) | (refine kLoad ?_; first | (refine LOps.ans (AnsL.loadP tT_ok rfl rfl rfl rfl) ?_)) | (refine kCallN 39 ?_; first | (refine LOps.ans (AnsL.callP rfl rfl rfl (ok39) (h0.ok ?_ ?_ _)) ?_; (focus (omega)); (focus (omega)))))
    | (refine kWL ?_; first | (refine WL.seq ?_) | (refine WL.region (by kernel_rfl) ?_) | (refine WL.skip ?_) | (refine WL.ret ?_) | (refine kCond ?_; first | (refine WL.condF' rfl ?_ ?_; (focus (first | (exact decide_eq_false (by assumption)))))))
    | (refine lthen_n ?_)
    | (refine LPost.r1 (r := .tmp 4) (.inl rfl) (Res1.tmp rfl) ?_)
    | (refine PureR.mk ?_)
  rw [szI_pos (by omega)]; show V.int .i64 _ = _; first | rfl | (congr 1; omega)
theorem eqPSort_r (x : (PE × Bool)) (h0 : EqC Try.prog 43 (PE.v x.1)) : EqC Try.prog 145 (PE.sv x) := by
  intro s
  refine LCalls.pure Try.func145 rfl (by kernel_rfl) (by simp) ?_
  repeat' first
    | (refine kOps ?_; first | (refine LOps.nil ?_) | (refine LOps.ev tT_ok rfl ?_) | (refine kBox ?_; refine LOps.box rfl rfl rfl rfl ?_) | (refine kLoad ?_; first | (refine LOps.ans (AnsL.loadP tT_ok rfl rfl rfl rfl) ?_)) | (refine kCallN 43 ?_; first | (refine LOps.ans (AnsL.callP rfl rfl rfl (ok43) (h0 _)) ?_)))
    | (refine kWL ?_; first | (refine WL.seq ?_) | (refine WL.region (by kernel_rfl) ?_) | (refine WL.skip ?_) | (refine WL.ret ?_) | (refine kCond ?_; first | (refine WL.condF rfl ?_) | (refine WL.condF' rfl ?_ ?_; (focus (first | (simp <;> fail))))))
    | (refine lthen_n ?_)
    | (refine LPost.r1 (r := .tmp 4) (.inl rfl) (Res1.tmp rfl) ?_)
    | (refine PureR.mk ?_)
  rfl
theorem PE.wgt_kid {e k : PE} (h : k ∈ e.kids) : wgt k.v ≤ wgt e.v := by
  have h1 := wgt_mem (f := PE.toV) h
  rw [PE.toV_eq] at h1
  have := PE.wgt_eq2 e
  omega
theorem PE.wgt_sub {e : PE} {p : PL} (h : p ∈ e.sub) : wgt p.v ≤ wgt e.v := by
  have h1 := wgt_mem (f := PE.planV) h
  rw [PE.planV_eq] at h1
  have := PE.wgt_eq2 e
  omega
theorem PL.wgt_part2 {p : PL} {k : PE} (h : k ∈ p.parts) : wgt k.v ≤ wgt p.v := by
  have := PL.wgt_part h
  rwa [PE.toV_eq] at this
theorem PL.wgt_on {p : PL} {l : List PE} (h : l ∈ p.on) : wgt (.sl 0 (l.map PE.toV)) ≤ wgt p.v := by
  have h1 := wgt_mem (f := PE.vS) h
  have := PL.wgt_eq p
  simp only [PE.vS] at h1
  omega

theorem toPlan_q (p : PL) (hw : wgt p.v ≤ 1048576) (ih : ∀ k ∈ p.parts, wgt k.v ≤ 1048576 → ToC Try.prog 41 k.v) : ToC Try.prog 32 p.v :=
  toPlan_r p (toIntS_r p.tables (by have h1 := wgt_len iV p.tables; have h2 := PL.wgt_eq p; omega))
    (toPExprSS_r p.on (by have h1 := wgt_len PE.vS p.on; have h2 := PL.wgt_eq p; omega) (fun l hl => (toPExprS_r l (by have h1 := wgt_len PE.toV l; have h2 := PL.wgt_on hl; omega) (fun k hk => ih k (PlanOf.mem_on hl hk) (Nat.le_trans (PL.wgt_part2 (PlanOf.mem_on hl hk)) hw)))))
    (toPExprS_r p.wher (by have h1 := wgt_len PE.toV p.wher; have h2 := PL.wgt_eq p; omega) (fun k hk => ih k (PlanOf.mem_wher hk) (Nat.le_trans (PL.wgt_part2 (PlanOf.mem_wher hk)) hw)))
    (toPSortS_r p.order (by have h1 := wgt_len PE.sv p.order; have h2 := PL.wgt_eq p; omega) (fun x hx => toPSort_r x (ih x.1 (PlanOf.mem_order hx) (Nat.le_trans (PL.wgt_part2 (PlanOf.mem_order hx)) hw))))
    (toPExprS_r p.items (by have h1 := wgt_len PE.toV p.items; have h2 := PL.wgt_eq p; omega) (fun k hk => ih k (PlanOf.mem_items hk) (Nat.le_trans (PL.wgt_part2 (PlanOf.mem_items hk)) hw)))
    (toStringS_r p.names (by have h1 := wgt_len sV p.names; have h2 := PL.wgt_eq p; omega))
theorem toPExpr_c (e : PE) : wgt e.v ≤ 1048576 → ToC Try.prog 41 e.v := by
  induction e using PE.ind with
  | h e ih1 ih2 =>
    intro hw
    exact toPExpr_r e (by have := PE.wgt_eq2 e; omega) (toPExprS_r e.kids (by have h1 := wgt_len PE.toV e.kids; have h2 := PE.wgt_eq2 e; omega) (fun k hk => ih1 k hk (Nat.le_trans (PE.wgt_kid hk) hw)))
      (toPlanS_r e.sub (by have h1 := wgt_len PE.planV e.sub; have h2 := PE.wgt_eq2 e; omega) (fun p hp => toPlan_q p (Nat.le_trans (PE.wgt_sub hp) hw) fun k hk h => ih2 p hp k hk h))
theorem toPlan_c (p : PL) (hw : wgt p.v ≤ 1048576) : ToC Try.prog 32 p.v := toPlan_q p hw fun k _ h => toPExpr_c k h
theorem toPExprS_c (l : List PE) (hw : wgt (.sl 0 (l.map PE.toV)) ≤ 1048576) : ToC Try.prog 98 (.sl 0 (l.map PE.toV)) :=
  (toPExprS_r l (by have h1 := wgt_len PE.toV l; skip; omega) (fun k hk => toPExpr_c k (by have h1 := wgt_mem (f := PE.toV) hk; rw [PE.toV_eq] at h1; omega)))
theorem szPlan_q (p : PL) (ih : ∀ k ∈ p.parts, SzC Try.prog 39 k.v) : SzC Try.prog 30 p.v :=
  szPlan_r p (szIntS_r p.tables)
    (szPExprSS_r p.on (fun l hl => (szPExprS_r l (fun k hk => ih k (PlanOf.mem_on hl hk)))))
    (szPExprS_r p.wher (fun k hk => ih k (PlanOf.mem_wher hk)))
    (szPSortS_r p.order (fun x hx => szPSort_r x (ih x.1 (PlanOf.mem_order hx))))
    (szPExprS_r p.items (fun k hk => ih k (PlanOf.mem_items hk)))
    (szStringS_r p.names)
theorem szPExpr_c (e : PE) : SzC Try.prog 39 e.v := by
  induction e using PE.ind with
  | h e ih1 ih2 =>
    exact szPExpr_r e (szPExprS_r e.kids (fun k hk => ih1 k hk))
      (szPlanS_r e.sub (fun p hp => szPlan_q p fun k hk => ih2 p hp k hk))
theorem szPlan_c (p : PL) : SzC Try.prog 30 p.v := szPlan_q p fun k _ => szPExpr_c k
theorem szPExprS_c (l : List PE) : SzC Try.prog 91 (.sl 0 (l.map PE.toV)) :=
  (szPExprS_r l (fun k hk => szPExpr_c k))
theorem eqPlan_q (p : PL) (hw : wgt p.v ≤ 1048576) (ih : ∀ k ∈ p.parts, wgt k.v ≤ 1048576 → EqC Try.prog 43 k.v) : EqC Try.prog 35 p.v :=
  eqPlan_r p (eqIntS_r p.tables (by have h1 := wgt_len iV p.tables; have h2 := PL.wgt_eq p; omega))
    (eqPExprSS_r p.on (by have h1 := wgt_len PE.vS p.on; have h2 := PL.wgt_eq p; omega) (fun l hl => (eqPExprS_r l (by have h1 := wgt_len PE.toV l; have h2 := PL.wgt_on hl; omega) (fun k hk => ih k (PlanOf.mem_on hl hk) (Nat.le_trans (PL.wgt_part2 (PlanOf.mem_on hl hk)) hw)))))
    (eqPExprS_r p.wher (by have h1 := wgt_len PE.toV p.wher; have h2 := PL.wgt_eq p; omega) (fun k hk => ih k (PlanOf.mem_wher hk) (Nat.le_trans (PL.wgt_part2 (PlanOf.mem_wher hk)) hw)))
    (eqPSortS_r p.order (by have h1 := wgt_len PE.sv p.order; have h2 := PL.wgt_eq p; omega) (fun x hx => eqPSort_r x (ih x.1 (PlanOf.mem_order hx) (Nat.le_trans (PL.wgt_part2 (PlanOf.mem_order hx)) hw))))
    (eqPExprS_r p.items (by have h1 := wgt_len PE.toV p.items; have h2 := PL.wgt_eq p; omega) (fun k hk => ih k (PlanOf.mem_items hk) (Nat.le_trans (PL.wgt_part2 (PlanOf.mem_items hk)) hw)))
    (eqStringS_r p.names (by have h1 := wgt_len sV p.names; have h2 := PL.wgt_eq p; omega))
theorem eqPExpr_c (e : PE) : wgt e.v ≤ 1048576 → EqC Try.prog 43 e.v := by
  induction e using PE.ind with
  | h e ih1 ih2 =>
    intro hw
    exact eqPExpr_r e (by have := PE.wgt_eq2 e; omega) (eqPExprS_r e.kids (by have h1 := wgt_len PE.toV e.kids; have h2 := PE.wgt_eq2 e; omega) (fun k hk => ih1 k hk (Nat.le_trans (PE.wgt_kid hk) hw)))
      (eqPlanS_r e.sub (by have h1 := wgt_len PE.planV e.sub; have h2 := PE.wgt_eq2 e; omega) (fun p hp => eqPlan_q p (Nat.le_trans (PE.wgt_sub hp) hw) fun k hk h => ih2 p hp k hk h))
theorem eqPlan_c (p : PL) (hw : wgt p.v ≤ 1048576) : EqC Try.prog 35 p.v := eqPlan_q p hw fun k _ h => eqPExpr_c k h
theorem eqPExprS_c (l : List PE) (hw : wgt (.sl 0 (l.map PE.toV)) ≤ 1048576) : EqC Try.prog 47 (.sl 0 (l.map PE.toV)) :=
  (eqPExprS_r l (by have h1 := wgt_len PE.toV l; skip; omega) (fun k hk => eqPExpr_c k (by have h1 := wgt_mem (f := PE.toV) hk; rw [PE.toV_eq] at h1; omega)))

end Go.Proofs.Ytehmlklfbllgcaa
