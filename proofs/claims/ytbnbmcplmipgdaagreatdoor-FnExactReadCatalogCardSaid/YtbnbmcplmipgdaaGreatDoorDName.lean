/-
  Names: their letters, keywords, plain names. Own work; no condition.
-/
import Derived.Test.YtbnbmcplmipgdaaGreatDoorDFold
import Derived.Test.YtbnbmcplmipgdaaGreatDoorMg17
namespace Go.Proofs.YtbnbmcplmipgdaaGreatDoor
open Go Go.RowKit
set_option linter.unusedSimpArgs false
set_option linter.unusedVariables false

def figI (n : Int) : Bool := decide (48 ≤ n) && decide (n ≤ 57)
def ltrI (n : Int) : Bool := (decide (97 ≤ n) && decide (n ≤ 122)) || (decide (65 ≤ n) && decide (n ≤ 90)) || decide (n = 95)
def partI (n : Int) : Bool := ltrI n || figI n
theorem specl2Figure_v (n : Int) (s : S) : VCalls Tryz.prog 60 [.int .u8 n] s (fun v s' => v = .bool (figI n) ∧ s' = s) := by
  refine LCalls.pure Tryz.func60 rfl (by kernel_rfl) (by simp) ?_
  repeat' first
    | (refine kOps ?_; first | (refine LOps.nil ?_) | (refine kG ?_; first | (refine LOps.gT rfl rfl rfl ?_) | (refine LOps.gF rfl rfl rfl ?_) | (refine LOps.gC rfl rfl rfl (fun h => ?_) (fun h => ?_))) | (refine LOps.ev tT_ok rfl ?_))
    | (refine kWL ?_; first | (refine WL.seq ?_) | (refine WL.region (by kernel_rfl) ?_) | (refine WL.ret ?_))
    | (refine lthen_n ?_)
    | (refine LPost.r1 (r := .tmp 2) (.inl rfl) (Res1.tmp rfl) ?_)
    | (refine PureR.mk ?_)
  all_goals (simp_all [figI] <;> omega)
theorem implisDigit_v (n : Int) (s : S) : VCalls Tryz.prog 69 [.int .u8 n] s (fun v s' => v = .bool (figI n) ∧ s' = s) := by
  refine LCalls.pure Tryz.func69 rfl (by kernel_rfl) (by simp) ?_
  repeat' first
    | (refine kOps ?_; first | (refine LOps.nil ?_) | (refine kG ?_; first | (refine LOps.gT rfl rfl rfl ?_) | (refine LOps.gF rfl rfl rfl ?_) | (refine LOps.gC rfl rfl rfl (fun h => ?_) (fun h => ?_))) | (refine LOps.ev tT_ok rfl ?_))
    | (refine kWL ?_; first | (refine WL.seq ?_) | (refine WL.region (by kernel_rfl) ?_) | (refine WL.ret ?_))
    | (refine lthen_n ?_)
    | (refine LPost.r1 (r := .tmp 2) (.inl rfl) (Res1.tmp rfl) ?_)
    | (refine PureR.mk ?_)
  all_goals (simp_all [figI] <;> omega)
theorem specl2Letter_v (n : Int) (s : S) : VCalls Tryz.prog 56 [.int .u8 n] s (fun v s' => v = .bool (ltrI n) ∧ s' = s) := by
  by_cases h1 : n ≥ 97
  all_goals by_cases h2 : n ≤ 122
  all_goals by_cases h3 : n ≥ 65
  all_goals by_cases h4 : n ≤ 90
  all_goals by_cases h5 : n = 95
  all_goals
    refine LCalls.pure Tryz.func56 rfl (by kernel_rfl) (by simp) ?_
    repeat' first
      | (refine kOps ?_; first | (refine LOps.nil ?_) | (refine kG ?_; first | (refine LOps.gT rfl rfl rfl ?_) | (refine LOps.gF rfl rfl rfl ?_) | (refine LOps.gU rfl rfl ?_) | (refine LOps.gD true rfl rfl rfl ?_ ?_; (focus (first | (exact decide_eq_true (by assumption)) | (simp only [decide_eq_true_eq, decide_eq_false_iff_not, Bool.not_eq_true', Bool.not_eq_false', Int.ofNat_lt, Int.ofNat_le, Int.ofNat_inj, not_true_eq_false, not_false_eq_true]; omega)))) | (refine LOps.gD false rfl rfl rfl ?_ ?_; (focus (first | (exact decide_eq_false (by assumption)))))) | (refine LOps.ev tT_ok rfl ?_))
      | (refine kWL ?_; first | (refine WL.seq ?_) | (refine WL.region (by kernel_rfl) ?_) | (refine WL.ret ?_))
      | (refine lthen_n ?_)
      | (refine LPost.r1 (r := .tmp 2) (.inl rfl) (Res1.tmp rfl) ?_)
      | (refine PureR.mk ?_)
    (simp_all [ltrI] <;> omega)
theorem implisStart_v (n : Int) (s : S) : VCalls Tryz.prog 87 [.int .u8 n] s (fun v s' => v = .bool (ltrI n) ∧ s' = s) := by
  by_cases h1 : n ≥ 97
  all_goals by_cases h2 : n ≤ 122
  all_goals by_cases h3 : n ≥ 65
  all_goals by_cases h4 : n ≤ 90
  all_goals by_cases h5 : n = 95
  all_goals
    refine LCalls.pure Tryz.func87 rfl (by kernel_rfl) (by simp) ?_
    repeat' first
      | (refine kOps ?_; first | (refine LOps.nil ?_) | (refine kG ?_; first | (refine LOps.gT rfl rfl rfl ?_) | (refine LOps.gF rfl rfl rfl ?_) | (refine LOps.gU rfl rfl ?_) | (refine LOps.gD true rfl rfl rfl ?_ ?_; (focus (first | (exact decide_eq_true (by assumption)) | (simp only [decide_eq_true_eq, decide_eq_false_iff_not, Bool.not_eq_true', Bool.not_eq_false', Int.ofNat_lt, Int.ofNat_le, Int.ofNat_inj, not_true_eq_false, not_false_eq_true]; omega)))) | (refine LOps.gD false rfl rfl rfl ?_ ?_; (focus (first | (exact decide_eq_false (by assumption)))))) | (refine LOps.ev tT_ok rfl ?_))
      | (refine kWL ?_; first | (refine WL.seq ?_) | (refine WL.region (by kernel_rfl) ?_) | (refine WL.ret ?_))
      | (refine lthen_n ?_)
      | (refine LPost.r1 (r := .tmp 2) (.inl rfl) (Res1.tmp rfl) ?_)
      | (refine PureR.mk ?_)
    (simp_all [ltrI] <;> omega)
theorem implisPart_v (n : Int) (s : S) : VCalls Tryz.prog 68 [.int .u8 n] s (fun v s' => v = .bool (partI n) ∧ s' = s) := by
  have hL := fun t => implisStart_v n t
  have hF := fun t => implisDigit_v n t
  unfold partI
  cases hq : ltrI n
  all_goals
    rw [hq] at hL
    refine LCalls.pure Tryz.func68 rfl (by kernel_rfl) (by simp) ?_
    repeat' first
      | (refine kOps ?_; first | (refine LOps.nil ?_) | (refine kG ?_; first | (refine LOps.gT rfl rfl rfl ?_) | (refine LOps.gF rfl rfl rfl ?_)) | (refine LOps.ev tT_ok rfl ?_) | (refine kCallN 69 ?_; first | (refine LOps.ans (AnsL.callP rfl rfl rfl (ok69) (hF _)) ?_)) | (refine kCallN 87 ?_; first | (refine LOps.ans (AnsL.callP rfl rfl rfl (ok87) (hL _)) ?_)))
      | (refine kWL ?_; first | (refine WL.seq ?_) | (refine WL.region (by kernel_rfl) ?_) | (refine WL.ret ?_))
      | (refine lthen_n ?_)
      | (refine LPost.r1 (r := .tmp 2) (.inl rfl) (Res1.tmp rfl) ?_)
      | (refine PureR.mk ?_)
    simp

/-! ### The keywords -/
def keyI (x : List UInt8) : Int := match kwords.findIdx? (fun w => decide (w = x)) with
  | some k => (k : Int) + 1
  | none => 0
def idxI (ws : List (List UInt8)) (x : List UInt8) : Int := match ws.findIdx? (fun w => decide (w = x)) with
  | some k => (k : Int)
  | none => -1
theorem idx_hit {ws : List (List UInt8)} {x : List UInt8} {i : Nat} (h : i < ws.length) (e : ws[i] = x) (hn : ∀ j (hj : j < ws.length), j < i → ws[j] ≠ x) : ws.findIdx? (fun w => decide (w = x)) = some i := by
  rw [List.findIdx?_eq_some_iff_getElem]
  exact ⟨h, by simp [e], fun j hji => by simp [hn j (by omega) hji]⟩
theorem idx_miss {ws : List (List UInt8)} {x : List UInt8} (hn : ∀ j (hj : j < ws.length), ws[j] ≠ x) : ws.findIdx? (fun w => decide (w = x)) = none := by
  rw [List.findIdx?_eq_none_iff]
  intro w hw
  obtain ⟨j, hj, rfl⟩ := List.getElem_of_mem hw
  simp [hn j hj]
theorem plain_strs (l : List (List UInt8)) : V.plain (.sl 0 (l.map V.str)) = true := plain_map (f := V.str) 1 (fun _ => rfl) (fun _ => rfl) l
@[simp] theorem datL_strs : ∀ ws : List (List UInt8), V.datL (ws.map V.str) = true
  | [] => rfl
  | w :: ws => by simp only [List.map_cons, V.datL, V.dat, datL_strs ws, Bool.and_self]
@[simp] theorem forgetL_strs : ∀ ws : List (List UInt8), V.forgetL (ws.map V.str) = ws.map V.str
  | [] => rfl
  | w :: ws => by simp only [List.map_cons, V.forgetL, V.forget, forgetL_strs ws]
theorem idxI_bnd (ws : List (List UInt8)) (x : List UInt8) : -1 ≤ idxI ws x ∧ idxI ws x ≤ ws.length := by
  unfold idxI
  cases h : ws.findIdx? (fun w => decide (w = x)) with
  | none => dsimp only; omega
  | some k =>
    obtain ⟨hk, _⟩ := List.findIdx?_eq_some_iff_getElem.1 h
    dsimp only; omega
theorem slicesIndex_v (ws : List (List UInt8)) (hw : ws.length ≤ 1048576) (x : List UInt8) (s : S) : VCalls Tryz.prog 19 [.sl 0 (ws.map V.str), .str x] s (fun v s' => v = .int .i64 (idxI ws x) ∧ s' = s) := by
  refine VCalls.pureOf (by rw [V.plainL, plain_strs]; rfl) rfl (fun s => ?_) s
  have hh : Hold s s.next [] := .start _ _
  refine LCalls.body Tryz.func19 rfl (by kernel_rfl) ?_
  repeat' first
    | (refine kOps ?_; first | (refine LOps.nil ?_) | (refine LOps.ev tT_ok rfl ?_) | (refine kLen ?_; first | (refine LOps.ans (AnsL.lenM tT_ok rfl rfl rfl) ?_)))
    | (refine kWL ?_; first | (refine WL.seq ?_) | (refine WL.region (by kernel_rfl) ?_) | (refine WL.block ?_))
    | (refine lthen_n ?_)
  refine WL.loopH (fun i : Nat => ws.length - i) (fun i => [(0, .sl 0 (ws.map V.str)), (1, .str x), (7, .int .i64 (ws.length : Int)), (8, .int .i64 (i : Int))])
    (fun i => []) (fun i => i ≤ ws.length ∧ ∀ j (hj : j < ws.length), j < i → ws[j] ≠ x) 0 ⟨Nat.zero_le _, fun j _ h => by omega⟩ ⟨rfl, rfl, rfl, rfl, trivial⟩ hh (Sel.refl _) (fun i s hI hh => ?_)
  obtain ⟨hi, hn⟩ := hI
  rcases Nat.lt_or_ge i ws.length with hlt | hge
  · have hg : (ws.map V.str)[i]? = some (.str ws[i]) := by simp [hlt]
    by_cases he : ws[i] = x
    · have he2 : x = ws[i] := he.symm
      have hr := idx_hit hlt he hn
      have hr2 : idxI ws x = (i : Int) := by unfold idxI; rw [hr]
      rw [hr2]
      generalize ws[i] = y at hg he2
      repeat' first
        | (refine kOps ?_; first | (refine LOps.nil ?_) | (refine LOps.ev tT_ok rfl ?_) | (refine kIdx ?_; first | (refine LOps.ans (AnsL.idx tT_ok rfl rfl rfl rfl rfl hg rfl rfl) ?_)))
        | (refine kWL ?_; first | (refine WL.seq ?_) | (refine WL.region (by kernel_rfl) ?_) | (refine WL.block ?_) | (refine WL.skip ?_) | (refine WL.ret ?_) | (refine kCond ?_; first | (refine WL.condT' rfl ?_ ?_; (focus (first | (exact decide_eq_true (by assumption)) | (simp only [decide_eq_true_eq, decide_eq_false_iff_not, Bool.not_eq_true', Bool.not_eq_false', Int.ofNat_lt, Int.ofNat_le, Int.ofNat_inj, not_true_eq_false, not_false_eq_true]; omega))))))
        | (refine lthen_n ?_)
        | (refine lthen_r ?_)
        | (refine lblock_r ?_)
        | (refine lbackH_r ?_)
        | (refine LPost.r1 (r := .tmp 4) (.inl rfl) (Res1.tmp rfl) ?_)
      exact ⟨[], .scal rfl, List.nodup_nil⟩
    · have he2 : ¬ x = ws[i] := fun e => he e.symm
      have hn' : ∀ j (hj : j < ws.length), j < i + 1 → ws[j] ≠ x := fun j hj hji => by
        rcases Nat.lt_or_ge j i with h | h
        · exact hn j hj h
        · have e : j = i := by omega
          subst e; exact he
      clear he
      generalize ws[i] = y at hg he2
      repeat' first
        | (refine kOps ?_; first | (refine LOps.nil ?_) | (refine LOps.ev tT_ok rfl ?_) | (refine kBin ?_; first | (refine LOps.ans (AnsL.add rfl rfl ?_) ?_; (focus (constructor <;> omega)))) | (refine kIdx ?_; first | (refine LOps.ans (AnsL.idx tT_ok rfl rfl rfl rfl rfl hg rfl rfl) ?_)))
        | (refine kWL ?_; first | (refine WL.seq ?_) | (refine WL.region (by kernel_rfl) ?_) | (refine WL.block ?_) | (refine WL.skip ?_) | (refine kCond ?_; first | (refine WL.condT' rfl ?_ ?_; (focus (first | (simp only [decide_eq_true_eq, decide_eq_false_iff_not, Bool.not_eq_true', Bool.not_eq_false', Int.ofNat_lt, Int.ofNat_le, Int.ofNat_inj, not_true_eq_false, not_false_eq_true]; omega)))) | (refine WL.condF' rfl ?_ ?_; (focus (first | (exact decide_eq_false (by assumption)))))))
        | (refine lthen_n ?_)
        | (refine lblock_n ?_)
      exact lbackH.of (i + 1) ⟨rfl, rfl, rfl, rfl, trivial⟩ hh (Sel.refl _) ⟨hlt, hn'⟩ (by omega)
  · have hr : idxI ws x = -1 := by unfold idxI; rw [idx_miss (fun j hj => hn j hj (by omega))]
    rw [hr]
    repeat' first
      | (refine kOps ?_; first | (refine LOps.nil ?_) | (refine LOps.ev tT_ok rfl ?_))
      | (refine kWL ?_; first | (refine WL.seq ?_) | (refine WL.region (by kernel_rfl) ?_) | (refine WL.exit ?_) | (refine WL.ret ?_) | (refine kCond ?_; first | (refine WL.condF' rfl ?_ ?_; (focus (first | (simp only [decide_eq_true_eq, decide_eq_false_iff_not, Bool.not_eq_true', Bool.not_eq_false', Int.ofNat_lt, Int.ofNat_le, Int.ofNat_inj, not_true_eq_false, not_false_eq_true]; omega))))))
      | (refine lthen_n ?_)
      | (refine lthen_e ?_)
      | (refine lblock_e ?_)
      | (refine lbackH_e ?_)
      | (refine LPost.r1 (r := .tmp 4) (.inl rfl) (Res1.tmp rfl) ?_)
    exact ⟨[], .scal rfl, List.nodup_nil⟩

theorem splitAt_v {a b : List UInt8} (ha : a = kwText) (hb : b = [32]) (s : S) : VCalls Tryz.prog 99 [.str a, .str b] s (fun v s' => v = .sl 0 (kwords.map V.str) ∧ s' = s) := by
  subst ha hb
  exact stringsSplit_v s
set_option maxRecDepth 100000 in
theorem implkeywords_v (s : S) : VCalls Tryz.prog 88 [] s (fun v s' => v = .sl 0 (kwords.map V.str) ∧ s' = s) := by
  have hS := fun {a b : List UInt8} (ha : a = kwText) (hb : b = [32]) t => splitAt_v ha hb t
  generalize kwords = ws at hS ⊢
  refine LCalls.pure Tryz.func88 rfl (by kernel_rfl) (by simp) ?_
  repeat' first
    | (refine kCallN 99 ?_ ; refine LOps.ans (AnsL.callP rfl rfl rfl ok99 (hS (by decide +kernel) (by decide +kernel) _)) ?_)
    | (refine kOps ?_; first | (refine LOps.nil ?_) | (refine LOps.ev tT_ok rfl ?_))
    | (refine kWL ?_; first | (refine WL.seq ?_) | (refine WL.region (by kernel_rfl) ?_) | (refine WL.ret ?_))
    | (refine lthen_n ?_)
    | (refine LPost.r1 (r := .tmp 0) (.inl rfl) (Res1.tmp rfl) ?_)
    | (refine PureR.mk ?_)
  simp
theorem keyI_idx (l : List UInt8) : keyI l = idxI kwords l + 1 := by
  unfold keyI idxI
  cases kwords.findIdx? (fun w => decide (w = l)) with
  | none => rfl
  | some k => rfl
theorem implKeyOf_v (l : List UInt8) (hl : l.length ≤ 1048576) (s : S) : VCalls Tryz.prog 70 [.str l] s (fun v s' => v = .int .i64 (keyI (fold l)) ∧ s' = s) := by
  have hK := fun t => implkeywords_v t
  have hF := fun t => implFold_v l hl t
  have hI := fun t => slicesIndex_v kwords (by decide +kernel) (fold l) t
  have hb := idxI_bnd kwords (fold l)
  have hkl : kwords.length = 28 := rfl
  have hw : IntKind.i64.wrap (idxI kwords (fold l) + 1) = idxI kwords (fold l) + 1 := by rw [IntKind.wrap_i64]; omega
  rw [keyI_idx]
  clear hb hkl
  generalize kwords = ws at hK hI hw ⊢
  refine LCalls.pure Tryz.func70 rfl (by kernel_rfl) (by simp) ?_
  repeat' first
    | (refine kOps ?_; first | (refine LOps.nil ?_) | (refine LOps.ev tT_ok rfl ?_) | (refine kBin ?_; first | (refine LOps.ans (AnsL.arith rfl rfl rfl) ?_)) | (refine kCallN 19 ?_; first | (refine LOps.ans (AnsL.callP rfl rfl rfl (ok19) (hI _)) ?_)) | (refine kCallN 71 ?_; first | (refine LOps.ans (AnsL.callP rfl rfl rfl (ok71) (hF _)) ?_)) | (refine kCallN 88 ?_; first | (refine LOps.ans (AnsL.callP rfl rfl rfl (ok88) (hK _)) ?_)))
    | (refine kWL ?_; first | (refine WL.seq ?_) | (refine WL.region (by kernel_rfl) ?_) | (refine WL.ret ?_))
    | (refine lthen_n ?_)
    | (refine LPost.r1 (r := .tmp 2) (.inl rfl) (Res1.tmp rfl) ?_)
    | (refine PureR.mk ?_)
  simp [hw]

/-- The reference's list of words: its first is empty. -/
theorem specl2Words_v (s : S) : VCalls Tryz.prog 82 [] s (fun v s' => v = .sl 0 (([] :: kwords).map V.str) ∧ s' = s) := by
  refine LCalls.pure Tryz.func82 rfl (by kernel_rfl) (by simp) ?_
  repeat' first
    | (refine kBsl ?_ ; refine LOps.ans (AnsL.bslF tT_ok rfl rfl rfl rfl rfl rfl rfl rfl rfl) ?_)
    | (refine kOps ?_; first | (refine LOps.nil ?_) | (refine LOps.ev tT_ok rfl ?_))
    | (refine kWL ?_; first | (refine WL.seq ?_) | (refine WL.region (by kernel_rfl) ?_) | (refine WL.ret ?_))
    | (refine lthen_n ?_)
    | (refine LPost.r1 (r := .tmp 0) (.inl rfl) (Res1.tmp rfl) ?_)
    | (refine PureR.mk ?_)
  rfl

end Go.Proofs.YtbnbmcplmipgdaaGreatDoor
