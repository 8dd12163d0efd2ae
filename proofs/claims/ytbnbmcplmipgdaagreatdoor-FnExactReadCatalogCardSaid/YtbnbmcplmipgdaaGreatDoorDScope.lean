/-
  Tables, columns and scopes looked up by name, of the program and of the reference. Own work; no condition.
-/
import Derived.Test.YtbnbmcplmipgdaaGreatDoorMg8
namespace Go.Proofs.YtbnbmcplmipgdaaGreatDoor
open Go
set_option linter.unusedSimpArgs false
set_option linter.unusedVariables false
def ints (l : List Int) : V := .sl 0 (l.map iV)
@[simp] theorem ints_dat (l : List Int) : (ints l).dat = true := by simp [ints]
@[simp] theorem ints_forget (l : List Int) : (ints l).forget = ints l := by simp [ints]
/-- The first that has it, or -1. -/
def findI {α : Type} (p : α → Bool) : List α → Int → Int
  | [], _ => -1
  | x :: xs, i => if p x then i else findI p xs (i + 1)
theorem findI_drop {α : Type} {p : α → Bool} {xs : List α} {i : Nat} (h : i < xs.length) : findI p (xs.drop i) i = if p xs[i] then (i : Int) else findI p (xs.drop (i + 1)) ((i + 1 : Nat) : Int) := by
  rw [List.drop_eq_getElem_cons h, findI]; rfl
theorem findI_end {α : Type} {p : α → Bool} {xs : List α} {i : Nat} (h : xs.length ≤ i) (n : Int) : findI p (xs.drop i) n = -1 := by rw [List.drop_of_length_le h]; rfl
/-- The places of those that have it. -/
def hits {α : Type} (p : α → Bool) (xs : List α) : Nat → List Int
  | 0 => []
  | i + 1 => hits p xs i ++ (match xs[i]? with | some x => if p x then [(i : Int)] else [] | none => [])
theorem hits_succ {α : Type} {p : α → Bool} {xs : List α} {i : Nat} (h : i < xs.length) : hits p xs (i + 1) = hits p xs i ++ (if p xs[i] then [(i : Int)] else []) := by
  rw [hits, List.getElem?_eq_getElem h]
def tableP (name : List UInt8) (t : Tab) : Bool := decide (t.name = name)
def colP (name : List UInt8) (t : Col) : Bool := decide (t.name = name)
def Cat.at (c : Cat) (name : List UInt8) : Int := findI (tableP name) c.tables 0
def Tab.at (t : Tab) (name : List UInt8) : Int := findI (colP name) t.cols 0
def starP (qual : List UInt8) (x : Named) : Bool := decide (qual = []) || decide (x.qual = qual)
def matchP (qual name : List UInt8) (x : Named) : Bool := decide (x.name = name) && starP qual x
def Scope.star (s : Scope) (qual : List UInt8) : List Int := hits (starP qual) s.names s.names.length
def Scope.matches (s : Scope) (qual name : List UInt8) : List Int := hits (matchP qual name) s.names s.names.length
theorem specTableAt_v (c : Cat) (name : List UInt8) (h : c.wt ≤ 1048576) (s : S) : VCalls Tryz.prog 33 [c.toV, .str name] s (fun v s' => v = .int .i64 (c.at name) ∧ s' = s) := by
  simp only [Cat.wt] at h
  have hl := len_slW Tab.wt c.tables
  refine LCalls.pure Tryz.func33 rfl (by kernel_rfl) (by simp) ?_
  repeat' first
    | (refine kOps ?_; first | (refine LOps.nil ?_) | (refine LOps.ev tT_ok rfl ?_) | (refine kBox ?_; refine LOps.box rfl rfl rfl rfl ?_))
    | (refine kWL ?_; first | (refine WL.seq ?_) | (refine WL.region (by kernel_rfl) ?_) | (refine WL.block ?_))
    | (refine lthen_n ?_)
  refine WL.loopD (fun i : Nat => c.tables.length - i) (fun i => [(1, .str name), (2, .ptr (s.next + 0) 0), (5, .int .i64 (i : Int))]) (fun i => [.var [.sl 0 (c.tables.map Tab.toV)]])
    (fun i => i ≤ c.tables.length ∧ c.at name = findI (tableP name) (c.tables.drop i) i) 1 0 ⟨by simp, rfl⟩ (fun _ => rfl) ⟨rfl, rfl, rfl, trivial⟩ rfl (fun i hi => ?_) (fun i hi => ?_)
  · simp [UnderK, UnderX, Own.under, V.under, V.underL]
  obtain ⟨hi, hc⟩ := hi
  rcases Nat.lt_or_ge i c.tables.length with hlt | hge
  · rw [findI_drop hlt] at hc
    by_cases hp : c.tables[i].name = name
    · skip
      repeat' first
        | (refine kOps ?_; first | (refine LOps.nil ?_) | (refine LOps.ev tT_ok rfl ?_) | (refine kLoad ?_; first | (refine LOps.ans (AnsL.loadP tT_ok rfl rfl rfl rfl) ?_)) | (refine kLen ?_; first | (refine LOps.ans (AnsL.lenM tT_ok rfl rfl rfl) ?_)) | (refine kIdx ?_; first | (refine LOps.ans (AnsL.idxA tT_ok rfl rfl rfl rfl rfl (by omega) rfl rfl) ?_)))
        | (refine kWL ?_; first | (refine WL.seq ?_) | (refine WL.region (by kernel_rfl) ?_) | (refine WL.block ?_) | (refine WL.skip ?_) | (refine WL.ret ?_) | (refine kCond ?_; first | (refine WL.condT' rfl ?_ ?_; (focus (first | (exact decide_eq_true (by assumption)) | (simp only [decide_eq_true_eq, decide_eq_false_iff_not, Bool.not_eq_true', Bool.not_eq_false', Int.ofNat_lt, Int.ofNat_le, Int.ofNat_inj, not_true_eq_false, not_false_eq_true]; omega))))))
        | (refine lthen_n ?_)
        | (refine lthen_r ?_)
        | (refine lblock_r ?_)
        | (refine lbackD_r ?_)
        | (refine LPost.r1 (r := .tmp 4) (.inl rfl) (Res1.tmp rfl) ?_)
        | (refine PureR.mk ?_)
      simp [hc, tableP, hp]
    · skip
      repeat' first
        | (refine kOps ?_; first | (refine LOps.nil ?_) | (refine LOps.ev tT_ok rfl ?_) | (refine kLoad ?_; first | (refine LOps.ans (AnsL.loadP tT_ok rfl rfl rfl rfl) ?_)) | (refine kLen ?_; first | (refine LOps.ans (AnsL.lenM tT_ok rfl rfl rfl) ?_)) | (refine kBin ?_; first | (refine LOps.ans (AnsL.add rfl rfl ?_) ?_; (focus (constructor <;> omega)))) | (refine kIdx ?_; first | (refine LOps.ans (AnsL.idxA tT_ok rfl rfl rfl rfl rfl (by omega) rfl rfl) ?_)))
        | (refine kWL ?_; first | (refine WL.seq ?_) | (refine WL.region (by kernel_rfl) ?_) | (refine WL.block ?_) | (refine WL.skip ?_) | (refine kCond ?_; first | (refine WL.condT' rfl ?_ ?_; (focus (first | (simp only [decide_eq_true_eq, decide_eq_false_iff_not, Bool.not_eq_true', Bool.not_eq_false', Int.ofNat_lt, Int.ofNat_le, Int.ofNat_inj, not_true_eq_false, not_false_eq_true]; omega)))) | (refine WL.condF' rfl ?_ ?_; (focus (first | (exact decide_eq_false (by assumption)))))))
        | (refine lthen_n ?_)
        | (refine lblock_n ?_)
      all_goals
        refine lbackD.of (i + 1) ?_ ?_ ?_ ?_
        · first | omega | (refine ⟨?_, ?_⟩; (focus (first | omega | (simp; omega))); (first | omega | (simp_all [hc, tableP, hp] <;> fail) | (simp_all [hc, tableP, hp]; omega))) | (simp_all [hc, tableP, hp] <;> fail) | (simp_all [hc, tableP, hp]; omega)
        · first | omega | (simp; omega) | simp_all
        · repeat' first
            | exact SubL.nil
            | (refine SubL.mk rfl ?_ ?_)
            | rfl
            | (simp [hc, tableP, hp] <;> fail)
            | (simp [hc, tableP, hp]; omega)
        · first | rfl | (simp [hc, tableP, hp] <;> fail) | (simp [hc, tableP, hp]; omega)
  · rw [findI_end hge] at hc
    repeat' first
      | (refine kOps ?_; first | (refine LOps.nil ?_) | (refine LOps.ev tT_ok rfl ?_) | (refine kLoad ?_; first | (refine LOps.ans (AnsL.loadP tT_ok rfl rfl rfl rfl) ?_)) | (refine kLen ?_; first | (refine LOps.ans (AnsL.lenM tT_ok rfl rfl rfl) ?_)))
      | (refine kWL ?_; first | (refine WL.seq ?_) | (refine WL.region (by kernel_rfl) ?_) | (refine WL.exit ?_) | (refine WL.ret ?_) | (refine kCond ?_; first | (refine WL.condF' rfl ?_ ?_; (focus (first | (simp only [decide_eq_true_eq, decide_eq_false_iff_not, Bool.not_eq_true', Bool.not_eq_false', Int.ofNat_lt, Int.ofNat_le, Int.ofNat_inj, not_true_eq_false, not_false_eq_true]; omega))))))
      | (refine lthen_n ?_)
      | (refine lthen_e ?_)
      | (refine lblock_e ?_)
      | (refine lbackD_e ?_)
      | (refine LPost.r1 (r := .tmp 4) (.inl rfl) (Res1.tmp rfl) ?_)
      | (refine PureR.mk ?_)
    simp [hc]
theorem specColAt_v (c : Tab) (name : List UInt8) (h : c.wt ≤ 1048576) (s : S) : VCalls Tryz.prog 35 [c.toV, .str name] s (fun v s' => v = .int .i64 (c.at name) ∧ s' = s) := by
  simp only [Tab.wt] at h
  have hl := len_slW Col.wt c.cols
  refine LCalls.pure Tryz.func35 rfl (by kernel_rfl) (by simp) ?_
  repeat' first
    | (refine kOps ?_; first | (refine LOps.nil ?_) | (refine LOps.ev tT_ok rfl ?_) | (refine kBox ?_; refine LOps.box rfl rfl rfl rfl ?_))
    | (refine kWL ?_; first | (refine WL.seq ?_) | (refine WL.region (by kernel_rfl) ?_) | (refine WL.block ?_))
    | (refine lthen_n ?_)
  refine WL.loopD (fun i : Nat => c.cols.length - i) (fun i => [(1, .str name), (2, .ptr (s.next + 0) 0), (5, .int .i64 (i : Int))]) (fun i => [.var [.str c.name, .sl 0 (c.cols.map Col.toV)]])
    (fun i => i ≤ c.cols.length ∧ c.at name = findI (colP name) (c.cols.drop i) i) 1 0 ⟨by simp, rfl⟩ (fun _ => rfl) ⟨rfl, rfl, rfl, trivial⟩ rfl (fun i hi => ?_) (fun i hi => ?_)
  · simp [UnderK, UnderX, Own.under, V.under, V.underL]
  obtain ⟨hi, hc⟩ := hi
  rcases Nat.lt_or_ge i c.cols.length with hlt | hge
  · rw [findI_drop hlt] at hc
    by_cases hp : c.cols[i].name = name
    · skip
      repeat' first
        | (refine kOps ?_; first | (refine LOps.nil ?_) | (refine LOps.ev tT_ok rfl ?_) | (refine kLoad ?_; first | (refine LOps.ans (AnsL.loadP tT_ok rfl rfl rfl rfl) ?_)) | (refine kLen ?_; first | (refine LOps.ans (AnsL.lenM tT_ok rfl rfl rfl) ?_)) | (refine kIdx ?_; first | (refine LOps.ans (AnsL.idxA tT_ok rfl rfl rfl rfl rfl (by omega) rfl rfl) ?_)))
        | (refine kWL ?_; first | (refine WL.seq ?_) | (refine WL.region (by kernel_rfl) ?_) | (refine WL.block ?_) | (refine WL.skip ?_) | (refine WL.ret ?_) | (refine kCond ?_; first | (refine WL.condT' rfl ?_ ?_; (focus (first | (exact decide_eq_true (by assumption)) | (simp only [decide_eq_true_eq, decide_eq_false_iff_not, Bool.not_eq_true', Bool.not_eq_false', Int.ofNat_lt, Int.ofNat_le, Int.ofNat_inj, not_true_eq_false, not_false_eq_true]; omega))))))
        | (refine lthen_n ?_)
        | (refine lthen_r ?_)
        | (refine lblock_r ?_)
        | (refine lbackD_r ?_)
        | (refine LPost.r1 (r := .tmp 4) (.inl rfl) (Res1.tmp rfl) ?_)
        | (refine PureR.mk ?_)
      simp [hc, colP, hp]
    · skip
      repeat' first
        | (refine kOps ?_; first | (refine LOps.nil ?_) | (refine LOps.ev tT_ok rfl ?_) | (refine kLoad ?_; first | (refine LOps.ans (AnsL.loadP tT_ok rfl rfl rfl rfl) ?_)) | (refine kLen ?_; first | (refine LOps.ans (AnsL.lenM tT_ok rfl rfl rfl) ?_)) | (refine kBin ?_; first | (refine LOps.ans (AnsL.add rfl rfl ?_) ?_; (focus (constructor <;> omega)))) | (refine kIdx ?_; first | (refine LOps.ans (AnsL.idxA tT_ok rfl rfl rfl rfl rfl (by omega) rfl rfl) ?_)))
        | (refine kWL ?_; first | (refine WL.seq ?_) | (refine WL.region (by kernel_rfl) ?_) | (refine WL.block ?_) | (refine WL.skip ?_) | (refine kCond ?_; first | (refine WL.condT' rfl ?_ ?_; (focus (first | (simp only [decide_eq_true_eq, decide_eq_false_iff_not, Bool.not_eq_true', Bool.not_eq_false', Int.ofNat_lt, Int.ofNat_le, Int.ofNat_inj, not_true_eq_false, not_false_eq_true]; omega)))) | (refine WL.condF' rfl ?_ ?_; (focus (first | (exact decide_eq_false (by assumption)))))))
        | (refine lthen_n ?_)
        | (refine lblock_n ?_)
      all_goals
        refine lbackD.of (i + 1) ?_ ?_ ?_ ?_
        · first | omega | (refine ⟨?_, ?_⟩; (focus (first | omega | (simp; omega))); (first | omega | (simp_all [hc, colP, hp] <;> fail) | (simp_all [hc, colP, hp]; omega))) | (simp_all [hc, colP, hp] <;> fail) | (simp_all [hc, colP, hp]; omega)
        · first | omega | (simp; omega) | simp_all
        · repeat' first
            | exact SubL.nil
            | (refine SubL.mk rfl ?_ ?_)
            | rfl
            | (simp [hc, colP, hp] <;> fail)
            | (simp [hc, colP, hp]; omega)
        · first | rfl | (simp [hc, colP, hp] <;> fail) | (simp [hc, colP, hp]; omega)
  · rw [findI_end hge] at hc
    repeat' first
      | (refine kOps ?_; first | (refine LOps.nil ?_) | (refine LOps.ev tT_ok rfl ?_) | (refine kLoad ?_; first | (refine LOps.ans (AnsL.loadP tT_ok rfl rfl rfl rfl) ?_)) | (refine kLen ?_; first | (refine LOps.ans (AnsL.lenM tT_ok rfl rfl rfl) ?_)))
      | (refine kWL ?_; first | (refine WL.seq ?_) | (refine WL.region (by kernel_rfl) ?_) | (refine WL.exit ?_) | (refine WL.ret ?_) | (refine kCond ?_; first | (refine WL.condF' rfl ?_ ?_; (focus (first | (simp only [decide_eq_true_eq, decide_eq_false_iff_not, Bool.not_eq_true', Bool.not_eq_false', Int.ofNat_lt, Int.ofNat_le, Int.ofNat_inj, not_true_eq_false, not_false_eq_true]; omega))))))
      | (refine lthen_n ?_)
      | (refine lthen_e ?_)
      | (refine lblock_e ?_)
      | (refine lbackD_e ?_)
      | (refine LPost.r1 (r := .tmp 4) (.inl rfl) (Res1.tmp rfl) ?_)
      | (refine PureR.mk ?_)
    simp [hc]
theorem indexFuncTable_v (xs : List Tab) (p : Tab → Bool) (g : FuncId) (caps : List V) (hxs : xs.length ≤ 1048576) (s : S) (hg : CallOk Tryz.prog g) (hcd : V.underL s.next caps = true)
    (hp : ∀ x ys, VCalls Tryz.prog g (x.toV :: caps) (s.ext ys) (fun v s' => v = .bool (p x) ∧ s' = s.ext ys)) :
    VCalls Tryz.prog 78 [.sl 0 (xs.map Tab.toV), .fn g caps] s (fun v s' => v = .int .i64 (findI p xs 0) ∧ s' = s) := by
  refine LCalls.pure Tryz.func78 rfl (by kernel_rfl) (by simp) ?_
  repeat' first
    | (refine kOps ?_; first | (refine LOps.nil ?_) | (refine LOps.ev tT_ok rfl ?_) | (refine kLen ?_; first | (refine LOps.ans (AnsL.lenM tT_ok rfl rfl rfl) ?_)))
    | (refine kWL ?_; first | (refine WL.seq ?_) | (refine WL.region (by kernel_rfl) ?_) | (refine WL.block ?_))
    | (refine lthen_n ?_)
  refine WL.loopD (fun i : Nat => xs.length - i) (fun i => [(0, .sl 0 (xs.map Tab.toV)), (1, .fn g caps), (7, .int .i64 xs.length), (8, .int .i64 (i : Int))]) (fun i => [])
    (fun i => i ≤ xs.length ∧ findI p xs 0 = findI p (xs.drop i) i) 0 0 ⟨by simp, rfl⟩ (fun _ => rfl) ⟨rfl, rfl, rfl, rfl, trivial⟩ rfl (fun i hi => ?_) (fun i hi => ?_)
  · simp [UnderK, UnderX, Own.under, V.under, V.underL, hcd]
  obtain ⟨hi, hc⟩ := hi
  rcases Nat.lt_or_ge i xs.length with hlt | hge
  · rw [findI_drop hlt] at hc
    cases hpx : p xs[i]
    · skip
      repeat' first
        | (refine kOps ?_; first | (refine LOps.nil ?_) | (refine LOps.ev tT_ok rfl ?_) | (refine kBin ?_; first | (refine LOps.ans (AnsL.add rfl rfl ?_) ?_; (focus (constructor <;> omega)))) | (refine kIdx ?_; first | (refine LOps.ans (AnsL.idxA tT_ok rfl rfl rfl rfl rfl (by omega) rfl rfl) ?_)) | (refine kCall ?_; first | (refine LOps.ans (AnsL.callP rfl rfl rfl (hg) (hp _ _)) ?_)))
        | (refine kWL ?_; first | (refine WL.seq ?_) | (refine WL.region (by kernel_rfl) ?_) | (refine WL.block ?_) | (refine WL.skip ?_) | (refine kCond ?_; first | (refine WL.condT' rfl ?_ ?_; (focus (first | (simp only [decide_eq_true_eq, decide_eq_false_iff_not, Bool.not_eq_true', Bool.not_eq_false', Int.ofNat_lt, Int.ofNat_le, Int.ofNat_inj, not_true_eq_false, not_false_eq_true]; omega)))) | (refine WL.condF' rfl ?_ ?_; (focus (first | (assumption))))))
        | (refine lthen_n ?_)
        | (refine lblock_n ?_)
      all_goals
        refine lbackD.of (i + 1) ?_ ?_ ?_ ?_
        · first | omega | (refine ⟨?_, ?_⟩; (focus (first | omega | (simp; omega))); (first | omega | (simp_all [hc, hpx] <;> fail) | (simp_all [hc, hpx]; omega))) | (simp_all [hc, hpx] <;> fail) | (simp_all [hc, hpx]; omega)
        · first | omega | (simp; omega) | simp_all
        · repeat' first
            | exact SubL.nil
            | (refine SubL.mk rfl ?_ ?_)
            | rfl
            | (simp [hc, hpx] <;> fail)
            | (simp [hc, hpx]; omega)
        · first | rfl | (simp [hc, hpx] <;> fail) | (simp [hc, hpx]; omega)
    · skip
      repeat' first
        | (refine kOps ?_; first | (refine LOps.nil ?_) | (refine LOps.ev tT_ok rfl ?_) | (refine kIdx ?_; first | (refine LOps.ans (AnsL.idxA tT_ok rfl rfl rfl rfl rfl (by omega) rfl rfl) ?_)) | (refine kCall ?_; first | (refine LOps.ans (AnsL.callP rfl rfl rfl (hg) (hp _ _)) ?_)))
        | (refine kWL ?_; first | (refine WL.seq ?_) | (refine WL.region (by kernel_rfl) ?_) | (refine WL.block ?_) | (refine WL.skip ?_) | (refine WL.ret ?_) | (refine kCond ?_; first | (refine WL.condT' rfl ?_ ?_; (focus (first | (assumption) | (simp only [decide_eq_true_eq, decide_eq_false_iff_not, Bool.not_eq_true', Bool.not_eq_false', Int.ofNat_lt, Int.ofNat_le, Int.ofNat_inj, not_true_eq_false, not_false_eq_true]; omega))))))
        | (refine lthen_n ?_)
        | (refine lthen_r ?_)
        | (refine lblock_r ?_)
        | (refine lbackD_r ?_)
        | (refine LPost.r1 (r := .tmp 4) (.inl rfl) (Res1.tmp rfl) ?_)
        | (refine PureR.mk ?_)
      simp [hc, hpx]
  · rw [findI_end hge] at hc
    repeat' first
      | (refine kOps ?_; first | (refine LOps.nil ?_) | (refine LOps.ev tT_ok rfl ?_))
      | (refine kWL ?_; first | (refine WL.seq ?_) | (refine WL.region (by kernel_rfl) ?_) | (refine WL.exit ?_) | (refine WL.ret ?_) | (refine kCond ?_; first | (refine WL.condF' rfl ?_ ?_; (focus (first | (simp only [decide_eq_true_eq, decide_eq_false_iff_not, Bool.not_eq_true', Bool.not_eq_false', Int.ofNat_lt, Int.ofNat_le, Int.ofNat_inj, not_true_eq_false, not_false_eq_true]; omega))))))
      | (refine lthen_n ?_)
      | (refine lthen_e ?_)
      | (refine lblock_e ?_)
      | (refine lbackD_e ?_)
      | (refine LPost.r1 (r := .tmp 4) (.inl rfl) (Res1.tmp rfl) ?_)
      | (refine PureR.mk ?_)
    simp [hc]
theorem implTableAt1_v (x : Tab) (name : List UInt8) (l : Nat) (s : S) (hl : l < s.next) (hv : s.vars l = some [.str name]) : VCalls Tryz.prog 79 [x.toV, .ptr l 0] s (fun v s' => v = .bool (tableP name x) ∧ s' = s) := by
  refine LCalls.pure Tryz.func79 rfl (by kernel_rfl) (by simp) ?_
  repeat' first
    | (refine kOps ?_; first | (refine LOps.nil ?_) | (refine LOps.ev tT_ok rfl ?_) | (refine kBox ?_; refine LOps.box rfl rfl rfl rfl ?_) | (refine kLoad ?_; first | (refine LOps.ans (AnsL.loadO tT_ok rfl hl hv rfl rfl) ?_) | (refine LOps.ans (AnsL.loadP tT_ok rfl rfl rfl rfl) ?_)))
    | (refine kWL ?_; first | (refine WL.seq ?_) | (refine WL.region (by kernel_rfl) ?_) | (refine WL.ret ?_))
    | (refine lthen_n ?_)
    | (refine LPost.r1 (r := .tmp 3) (.inl rfl) (Res1.tmp rfl) ?_)
    | (refine PureR.mk ?_)
  simp [tableP]
theorem implTableAt_v (c : Cat) (name : List UInt8) (h : c.wt ≤ 1048576) (s : S) : VCalls Tryz.prog 44 [c.toV, .str name] s (fun v s' => v = .int .i64 (c.at name) ∧ s' = s) := by
  simp only [Cat.wt] at h
  have hl := len_slW Tab.wt c.tables
  refine LCalls.pure Tryz.func44 rfl (by kernel_rfl) (by simp) ?_
  repeat' first
    | (refine kOps ?_; first | (refine LOps.nil ?_) | (refine LOps.ev tT_ok rfl ?_) | (refine kBox ?_; refine LOps.box rfl rfl rfl rfl ?_) | (refine kLoad ?_; first | (refine LOps.ans (AnsL.loadP tT_ok rfl rfl rfl rfl) ?_)) | (refine kCallN 78 ?_; first | (refine LOps.ans (AnsL.callP rfl rfl rfl (ok78) (indexFuncTable_v _ (tableP name) _ _ ?_ _ ok79 ?_ ?_)) ?_; (focus (omega)); (focus (simp [V.underL, V.under])); (focus (exact fun x ys => implTableAt1_v x name _ _ (by simp) (by simp))))))
    | (refine kWL ?_; first | (refine WL.seq ?_) | (refine WL.region (by kernel_rfl) ?_) | (refine WL.ret ?_))
    | (refine lthen_n ?_)
    | (refine LPost.r1 (r := .tmp 4) (.inl rfl) (Res1.tmp rfl) ?_)
    | (refine PureR.mk ?_)
  rfl
theorem indexFuncCol_v (xs : List Col) (p : Col → Bool) (g : FuncId) (caps : List V) (hxs : xs.length ≤ 1048576) (s : S) (hg : CallOk Tryz.prog g) (hcd : V.underL s.next caps = true)
    (hp : ∀ x ys, VCalls Tryz.prog g (x.toV :: caps) (s.ext ys) (fun v s' => v = .bool (p x) ∧ s' = s.ext ys)) :
    VCalls Tryz.prog 91 [.sl 0 (xs.map Col.toV), .fn g caps] s (fun v s' => v = .int .i64 (findI p xs 0) ∧ s' = s) := by
  refine LCalls.pure Tryz.func91 rfl (by kernel_rfl) (by simp) ?_
  repeat' first
    | (refine kOps ?_; first | (refine LOps.nil ?_) | (refine LOps.ev tT_ok rfl ?_) | (refine kLen ?_; first | (refine LOps.ans (AnsL.lenM tT_ok rfl rfl rfl) ?_)))
    | (refine kWL ?_; first | (refine WL.seq ?_) | (refine WL.region (by kernel_rfl) ?_) | (refine WL.block ?_))
    | (refine lthen_n ?_)
  refine WL.loopD (fun i : Nat => xs.length - i) (fun i => [(0, .sl 0 (xs.map Col.toV)), (1, .fn g caps), (7, .int .i64 xs.length), (8, .int .i64 (i : Int))]) (fun i => [])
    (fun i => i ≤ xs.length ∧ findI p xs 0 = findI p (xs.drop i) i) 0 0 ⟨by simp, rfl⟩ (fun _ => rfl) ⟨rfl, rfl, rfl, rfl, trivial⟩ rfl (fun i hi => ?_) (fun i hi => ?_)
  · simp [UnderK, UnderX, Own.under, V.under, V.underL, hcd]
  obtain ⟨hi, hc⟩ := hi
  rcases Nat.lt_or_ge i xs.length with hlt | hge
  · rw [findI_drop hlt] at hc
    cases hpx : p xs[i]
    · skip
      repeat' first
        | (refine kOps ?_; first | (refine LOps.nil ?_) | (refine LOps.ev tT_ok rfl ?_) | (refine kBin ?_; first | (refine LOps.ans (AnsL.add rfl rfl ?_) ?_; (focus (constructor <;> omega)))) | (refine kIdx ?_; first | (refine LOps.ans (AnsL.idxA tT_ok rfl rfl rfl rfl rfl (by omega) rfl rfl) ?_)) | (refine kCall ?_; first | (refine LOps.ans (AnsL.callP rfl rfl rfl (hg) (hp _ _)) ?_)))
        | (refine kWL ?_; first | (refine WL.seq ?_) | (refine WL.region (by kernel_rfl) ?_) | (refine WL.block ?_) | (refine WL.skip ?_) | (refine kCond ?_; first | (refine WL.condT' rfl ?_ ?_; (focus (first | (simp only [decide_eq_true_eq, decide_eq_false_iff_not, Bool.not_eq_true', Bool.not_eq_false', Int.ofNat_lt, Int.ofNat_le, Int.ofNat_inj, not_true_eq_false, not_false_eq_true]; omega)))) | (refine WL.condF' rfl ?_ ?_; (focus (first | (assumption))))))
        | (refine lthen_n ?_)
        | (refine lblock_n ?_)
      all_goals
        refine lbackD.of (i + 1) ?_ ?_ ?_ ?_
        · first | omega | (refine ⟨?_, ?_⟩; (focus (first | omega | (simp; omega))); (first | omega | (simp_all [hc, hpx] <;> fail) | (simp_all [hc, hpx]; omega))) | (simp_all [hc, hpx] <;> fail) | (simp_all [hc, hpx]; omega)
        · first | omega | (simp; omega) | simp_all
        · repeat' first
            | exact SubL.nil
            | (refine SubL.mk rfl ?_ ?_)
            | rfl
            | (simp [hc, hpx] <;> fail)
            | (simp [hc, hpx]; omega)
        · first | rfl | (simp [hc, hpx] <;> fail) | (simp [hc, hpx]; omega)
    · skip
      repeat' first
        | (refine kOps ?_; first | (refine LOps.nil ?_) | (refine LOps.ev tT_ok rfl ?_) | (refine kIdx ?_; first | (refine LOps.ans (AnsL.idxA tT_ok rfl rfl rfl rfl rfl (by omega) rfl rfl) ?_)) | (refine kCall ?_; first | (refine LOps.ans (AnsL.callP rfl rfl rfl (hg) (hp _ _)) ?_)))
        | (refine kWL ?_; first | (refine WL.seq ?_) | (refine WL.region (by kernel_rfl) ?_) | (refine WL.block ?_) | (refine WL.skip ?_) | (refine WL.ret ?_) | (refine kCond ?_; first | (refine WL.condT' rfl ?_ ?_; (focus (first | (assumption) | (simp only [decide_eq_true_eq, decide_eq_false_iff_not, Bool.not_eq_true', Bool.not_eq_false', Int.ofNat_lt, Int.ofNat_le, Int.ofNat_inj, not_true_eq_false, not_false_eq_true]; omega))))))
        | (refine lthen_n ?_)
        | (refine lthen_r ?_)
        | (refine lblock_r ?_)
        | (refine lbackD_r ?_)
        | (refine LPost.r1 (r := .tmp 4) (.inl rfl) (Res1.tmp rfl) ?_)
        | (refine PureR.mk ?_)
      simp [hc, hpx]
  · rw [findI_end hge] at hc
    repeat' first
      | (refine kOps ?_; first | (refine LOps.nil ?_) | (refine LOps.ev tT_ok rfl ?_))
      | (refine kWL ?_; first | (refine WL.seq ?_) | (refine WL.region (by kernel_rfl) ?_) | (refine WL.exit ?_) | (refine WL.ret ?_) | (refine kCond ?_; first | (refine WL.condF' rfl ?_ ?_; (focus (first | (simp only [decide_eq_true_eq, decide_eq_false_iff_not, Bool.not_eq_true', Bool.not_eq_false', Int.ofNat_lt, Int.ofNat_le, Int.ofNat_inj, not_true_eq_false, not_false_eq_true]; omega))))))
      | (refine lthen_n ?_)
      | (refine lthen_e ?_)
      | (refine lblock_e ?_)
      | (refine lbackD_e ?_)
      | (refine LPost.r1 (r := .tmp 4) (.inl rfl) (Res1.tmp rfl) ?_)
      | (refine PureR.mk ?_)
    simp [hc]
theorem implColAt1_v (x : Col) (name : List UInt8) (l : Nat) (s : S) (hl : l < s.next) (hv : s.vars l = some [.str name]) : VCalls Tryz.prog 92 [x.toV, .ptr l 0] s (fun v s' => v = .bool (colP name x) ∧ s' = s) := by
  refine LCalls.pure Tryz.func92 rfl (by kernel_rfl) (by simp) ?_
  repeat' first
    | (refine kOps ?_; first | (refine LOps.nil ?_) | (refine LOps.ev tT_ok rfl ?_) | (refine kBox ?_; refine LOps.box rfl rfl rfl rfl ?_) | (refine kLoad ?_; first | (refine LOps.ans (AnsL.loadO tT_ok rfl hl hv rfl rfl) ?_) | (refine LOps.ans (AnsL.loadP tT_ok rfl rfl rfl rfl) ?_)))
    | (refine kWL ?_; first | (refine WL.seq ?_) | (refine WL.region (by kernel_rfl) ?_) | (refine WL.ret ?_))
    | (refine lthen_n ?_)
    | (refine LPost.r1 (r := .tmp 3) (.inl rfl) (Res1.tmp rfl) ?_)
    | (refine PureR.mk ?_)
  simp [colP]
theorem implColAt_v (c : Tab) (name : List UInt8) (h : c.wt ≤ 1048576) (s : S) : VCalls Tryz.prog 77 [c.toV, .str name] s (fun v s' => v = .int .i64 (c.at name) ∧ s' = s) := by
  simp only [Tab.wt] at h
  have hl := len_slW Col.wt c.cols
  refine LCalls.pure Tryz.func77 rfl (by kernel_rfl) (by simp) ?_
  repeat' first
    | (refine kOps ?_; first | (refine LOps.nil ?_) | (refine LOps.ev tT_ok rfl ?_) | (refine kBox ?_; refine LOps.box rfl rfl rfl rfl ?_) | (refine kLoad ?_; first | (refine LOps.ans (AnsL.loadP tT_ok rfl rfl rfl rfl) ?_)) | (refine kCallN 91 ?_; first | (refine LOps.ans (AnsL.callP rfl rfl rfl (ok91) (indexFuncCol_v _ (colP name) _ _ ?_ _ ok92 ?_ ?_)) ?_; (focus (omega)); (focus (simp [V.underL, V.under])); (focus (exact fun x ys => implColAt1_v x name _ _ (by simp) (by simp))))))
    | (refine kWL ?_; first | (refine WL.seq ?_) | (refine WL.region (by kernel_rfl) ?_) | (refine WL.ret ?_))
    | (refine lthen_n ?_)
    | (refine LPost.r1 (r := .tmp 4) (.inl rfl) (Res1.tmp rfl) ?_)
    | (refine PureR.mk ?_)
  rfl
end Go.Proofs.YtbnbmcplmipgdaaGreatDoor
