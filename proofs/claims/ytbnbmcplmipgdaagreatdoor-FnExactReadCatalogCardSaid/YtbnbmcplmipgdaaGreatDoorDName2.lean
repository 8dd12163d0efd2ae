/-
  Names, and their texts. Own work; no condition.
-/
import Derived.Test.YtbnbmcplmipgdaaGreatDoorDName
namespace Go.Proofs.YtbnbmcplmipgdaaGreatDoor
open Go Go.RowKit
set_option linter.unusedSimpArgs false
set_option linter.unusedVariables false
theorem fold_len (l : List UInt8) : (fold l).length = l.length := by simp [fold]
theorem kw_short : ∀ w ∈ kwords, w.length ≤ 8 := by decide +kernel
theorem keyI_long {x : List UInt8} (h : 8 < x.length) : keyI x = 0 := by
  rw [keyI_idx]
  unfold idxI
  rw [idx_miss (fun j hj e => by
    have := kw_short _ (List.getElem_mem hj)
    rw [e] at this; omega)]
  rfl
theorem specKeyOf_v (l : List UInt8) (hl : l.length ≤ 1048576) (s : S) : VCalls Tryz.prog 58 [.str l] s (fun v s' => v = .int .i64 (keyI (fold l)) ∧ s' = s) := by
  have hK := fun t => specl2Words_v t
  have hF := fun t => specFold_v l hl t
  by_cases h8 : (l.length : Int) > 8
  · rw [keyI_long (by rw [fold_len]; omega)]
    refine LCalls.pure Tryz.func58 rfl (by kernel_rfl) (by simp) ?_
    repeat' first
      | (refine kOps ?_; first | (refine LOps.nil ?_) | (refine LOps.ev tT_ok rfl ?_))
      | (refine kWL ?_; first | (refine WL.seq ?_) | (refine WL.region (by kernel_rfl) ?_) | (refine WL.ret ?_) | (refine kCond ?_; first | (refine WL.condT' rfl ?_ ?_; (focus (first | (exact decide_eq_true (by assumption)))))))
      | (refine lthen_n ?_)
      | (refine lthen_r ?_)
      | (refine LPost.r1 (r := .tmp 2) (.inl rfl) (Res1.tmp rfl) ?_)
      | (refine PureR.mk ?_)
    rfl
  rw [keyI_idx]
  generalize fold l = x at hF ⊢
  have hkl : kwords.length = 28 := rfl
  generalize kwords = ws at hK hkl ⊢
  refine VCalls.pureOf rfl rfl (fun s => ?_) s
  have hh : Hold s s.next [] := .start _ _
  refine LCalls.body Tryz.func58 rfl (by kernel_rfl) ?_
  repeat' first
    | (refine kOps ?_; first | (refine LOps.nil ?_) | (refine LOps.ev tT_ok rfl ?_) | (refine kCallN 59 ?_; first | (refine LOps.ans (AnsL.callP rfl rfl rfl (ok59) (hF _)) ?_)) | (refine kCallN 82 ?_; first | (refine LOps.ans (AnsL.callP rfl rfl rfl (ok82) (hK _)) ?_)))
    | (refine kWL ?_; first | (refine WL.seq ?_) | (refine WL.region (by kernel_rfl) ?_) | (refine WL.block ?_) | (refine WL.skip ?_) | (refine kCond ?_; first | (refine WL.condF' rfl ?_ ?_; (focus (first | (exact decide_eq_false (by assumption)))))))
    | (refine lthen_n ?_)
  refine WL.loopH (fun i : Nat => ws.length - i) (fun i => [(3, .str x), (4, .sl 0 (([] :: ws).map V.str)), (5, .int .i64 ((i : Int) + 1))])
    (fun i => []) (fun i => i ≤ ws.length ∧ ∀ j (hj : j < ws.length), j < i → ws[j] ≠ x) 0 ⟨Nat.zero_le _, fun j _ h => by omega⟩ ⟨rfl, rfl, rfl, trivial⟩ hh (Sel.refl _) (fun i s hI hh => ?_)
  obtain ⟨hi, hn⟩ := hI
  have hm : (([] :: ws).map V.str).length = ws.length + 1 := by simp
  rcases Nat.lt_or_ge i ws.length with hlt | hge
  · have hg : (([] :: ws).map V.str)[((i : Int) + 1).toNat]? = some (.str ws[i]) := by
      rw [show ((i : Int) + 1).toNat = i + 1 by omega]; simp [hlt]
    have hlt2 : (i : Int) + 1 < ((([] : List UInt8) :: ws).length : Nat) := by rw [List.length_cons]; omega
    have hw : IntKind.i64.wrap ((i : Int) + 1 + 1) = (i : Int) + 1 + 1 := by rw [IntKind.wrap_i64]; omega
    by_cases he : ws[i] = x
    · have hr := idx_hit hlt he hn
      have hr2 : idxI ws x = (i : Int) := by unfold idxI; rw [hr]
      rw [hr2]
      generalize ws[i] = y at hg he
      repeat' first
        | (refine kOps ?_; first | (refine LOps.nil ?_) | (refine LOps.ev tT_ok rfl ?_) | (refine kLen ?_; first | (refine LOps.ans (AnsL.lenM tT_ok rfl rfl rfl) ?_)) | (refine kIdx ?_; first | (refine LOps.ans (AnsL.idxZ tT_ok rfl rfl rfl rfl rfl ?_ hg rfl rfl) ?_; (focus (omega)))))
        | (refine kWL ?_; first | (refine WL.seq ?_) | (refine WL.region (by kernel_rfl) ?_) | (refine WL.block ?_) | (refine WL.skip ?_) | (refine WL.ret ?_) | (refine kCond ?_; first | (refine WL.condT' rfl ?_ ?_; (focus (first | (exact decide_eq_true (by assumption)))))))
        | (refine lthen_n ?_)
        | (refine lthen_r ?_)
        | (refine lblock_r ?_)
        | (refine lbackH_r ?_)
        | (refine LPost.r1 (r := .tmp 2) (.inl rfl) (Res1.tmp rfl) ?_)
      exact ⟨[], .scal rfl, List.nodup_nil⟩
    · have hn' : ∀ j (hj : j < ws.length), j < i + 1 → ws[j] ≠ x := fun j hj hji => by
        rcases Nat.lt_or_ge j i with h | h
        · exact hn j hj h
        · have e : j = i := by omega
          subst e; exact he
      generalize ws[i] = y at hg he
      repeat' first
        | (refine kOps ?_; first | (refine LOps.nil ?_) | (refine LOps.ev tT_ok rfl ?_) | (refine kLen ?_; first | (refine LOps.ans (AnsL.lenM tT_ok rfl rfl rfl) ?_)) | (refine kBin ?_; first | (refine LOps.ans (AnsL.add rfl rfl ?_) ?_; (focus (constructor <;> omega)))) | (refine kIdx ?_; first | (refine LOps.ans (AnsL.idxZ tT_ok rfl rfl rfl rfl rfl ?_ hg rfl rfl) ?_; (focus (omega)))))
        | (refine kWL ?_; first | (refine WL.seq ?_) | (refine WL.region (by kernel_rfl) ?_) | (refine WL.block ?_) | (refine WL.skip ?_) | (refine kCond ?_; first | (refine WL.condT' rfl ?_ ?_; (focus (first | (exact decide_eq_true (by assumption))))) | (refine WL.condF' rfl ?_ ?_; (focus (first | (exact decide_eq_false (by assumption)))))))
        | (refine lthen_n ?_)
        | (refine lblock_n ?_)
      exact lbackH.of (i + 1) ⟨rfl, rfl, rfl, trivial⟩ hh (Sel.refl _) ⟨hlt, hn'⟩ (by omega)
  · have hr : idxI ws x = -1 := by unfold idxI; rw [idx_miss (fun j hj => hn j hj (by omega))]
    have hge2 : ¬ (i : Int) + 1 < ((([] : List UInt8) :: ws).length : Nat) := by rw [List.length_cons]; omega
    rw [hr]
    repeat' first
      | (refine kOps ?_; first | (refine LOps.nil ?_) | (refine LOps.ev tT_ok rfl ?_) | (refine kLen ?_; first | (refine LOps.ans (AnsL.lenM tT_ok rfl rfl rfl) ?_)))
      | (refine kWL ?_; first | (refine WL.seq ?_) | (refine WL.region (by kernel_rfl) ?_) | (refine WL.exit ?_) | (refine WL.ret ?_) | (refine kCond ?_; first | (refine WL.condF' rfl ?_ ?_; (focus (first | (exact decide_eq_false (by assumption)))))))
      | (refine lthen_n ?_)
      | (refine lthen_e ?_)
      | (refine lblock_e ?_)
      | (refine lbackH_e ?_)
      | (refine LPost.r1 (r := .tmp 2) (.inl rfl) (Res1.tmp rfl) ?_)
    exact ⟨[], .scal rfl, List.nodup_nil⟩
def nameOk (l : List UInt8) : Bool := decide (1 ≤ (l.length : Int)) && decide ((l.length : Int) ≤ 20)
theorem implNameOk_v (l : List UInt8) (s : S) : VCalls Tryz.prog 76 [.str l] s (fun v s' => v = .bool (nameOk l) ∧ s' = s) := by
  by_cases h1 : (l.length : Int) ≥ 1
  all_goals
    refine LCalls.pure Tryz.func76 rfl (by kernel_rfl) (by simp) ?_
    repeat' first
      | (refine kOps ?_; first | (refine LOps.nil ?_) | (refine kG ?_; first | (refine LOps.gT rfl rfl rfl ?_) | (refine LOps.gF rfl rfl rfl ?_) | (refine LOps.gD true rfl rfl rfl ?_ ?_; (focus (first | (exact decide_eq_true (by assumption))))) | (refine LOps.gD false rfl rfl rfl ?_ ?_; (focus (first | (exact decide_eq_false (by assumption)))))) | (refine LOps.ev tT_ok rfl ?_))
      | (refine kWL ?_; first | (refine WL.seq ?_) | (refine WL.region (by kernel_rfl) ?_) | (refine WL.ret ?_))
      | (refine lthen_n ?_)
      | (refine LPost.r1 (r := .tmp 2) (.inl rfl) (Res1.tmp rfl) ?_)
      | (refine PureR.mk ?_)
    (simp_all [nameOk] <;> omega)
theorem specl1In_x (x lo hi : Int) (s : S) : VCalls Tryz.prog 34 [.int .i64 x, .int .i64 lo, .int .i64 hi] s (fun v s' => v = .bool (decide (lo ≤ x) && decide (x ≤ hi)) ∧ s' = s) := by
  refine LCalls.pure Tryz.func34 rfl (by kernel_rfl) (by simp) ?_
  repeat' first
    | (refine kOps ?_; first | (refine LOps.nil ?_) | (refine kG ?_; first | (refine LOps.gT rfl rfl rfl ?_) | (refine LOps.gF rfl rfl rfl ?_) | (refine LOps.gC rfl rfl rfl (fun h => ?_) (fun h => ?_))) | (refine LOps.ev tT_ok rfl ?_))
    | (refine kWL ?_; first | (refine WL.seq ?_) | (refine WL.region (by kernel_rfl) ?_) | (refine WL.ret ?_))
    | (refine lthen_n ?_)
    | (refine LPost.r1 (r := .tmp 6) (.inl rfl) (Res1.tmp rfl) ?_)
    | (refine PureR.mk ?_)
  all_goals (simp_all <;> omega)
theorem specNameOk_v (l : List UInt8) (s : S) : VCalls Tryz.prog 32 [.str l] s (fun v s' => v = .bool (nameOk l) ∧ s' = s) := by
  have hI := fun t => specl1In_x (l.length : Int) 1 20 t
  refine LCalls.pure Tryz.func32 rfl (by kernel_rfl) (by simp) ?_
  repeat' first
    | (refine kOps ?_; first | (refine LOps.nil ?_) | (refine LOps.ev tT_ok rfl ?_) | (refine kCallN 34 ?_; first | (refine LOps.ans (AnsL.callP rfl rfl rfl (ok34) (hI _)) ?_)))
    | (refine kWL ?_; first | (refine WL.seq ?_) | (refine WL.region (by kernel_rfl) ?_) | (refine WL.ret ?_))
    | (refine lthen_n ?_)
    | (refine LPost.r1 (r := .tmp 2) (.inl rfl) (Res1.tmp rfl) ?_)
    | (refine PureR.mk ?_)
  rfl
def plainN : List UInt8 → Bool
  | [] => false
  | c :: l => decide ((c :: l).length ≤ 20) && !figI (c.toNat : Int) && decide (keyI (fold (c :: l)) = 0) && (c :: l).all fun c => partI (c.toNat : Int)
theorem plainN_cons (c : UInt8) (l : List UInt8) : plainN (c :: l) = (decide ((c :: l).length ≤ 20) && !figI (c.toNat : Int) && decide (keyI (fold (c :: l)) = 0) && (c :: l).all fun c => partI (c.toNat : Int)) := rfl
theorem keyI_nn (x : List UInt8) : 0 ≤ keyI x := by
  unfold keyI
  split <;> omega
theorem all_no {l : List UInt8} {f : UInt8 → Bool} {i : Nat} (h : i < l.length) (e : f l[i] = false) : l.all f = false := by
  rw [List.all_eq_false]
  exact ⟨l[i], List.getElem_mem h, by simp [e]⟩
end Go.Proofs.YtbnbmcplmipgdaaGreatDoor
