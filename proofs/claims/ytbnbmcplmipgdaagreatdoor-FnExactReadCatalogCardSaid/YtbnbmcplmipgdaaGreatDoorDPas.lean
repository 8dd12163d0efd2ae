/-
  The reference's reader of tokens: what it looks at and takes; types and their texts, of both sides. Own work; no condition.
-/
import Derived.Test.YtbnbmcplmipgdaaGreatDoorDPar
namespace Go.Proofs.YtbnbmcplmipgdaaGreatDoor
open Go
set_option linter.unusedSimpArgs false
set_option linter.unusedVariables false

def noTk : Token := ⟨0, [], 0⟩
/-- The token that stands there, if one does. -/
def nxT (l : List Token) (q : Pst) : Token := if q.2 = true then noTk else match l[q.1]? with | some t => t | none => noTk
def stP (ok : Bool) (q : Pst) : Pst := if (!ok || q.2) = true then (q.1, true) else (q.1 + 1, q.2)
theorem isTk_nx (l : List Token) (q : Pst) (b : List UInt8) : (decide ((nxT l q).kind = 5) && decide ((nxT l q).text = b)) = isTk l q 5 b := by
  unfold nxT isTk
  obtain ⟨a, bad⟩ := q
  cases bad
  · simp only [Bool.false_eq_true, if_false, Bool.not_false, Bool.true_and]
    cases l[a]? with
    | none => rfl
    | some t => rfl
  · rfl
theorem isNm_nx (l : List Token) (q : Pst) : (decide ((nxT l q).kind = 2) && nameOk (nxT l q).text) = isNm l q := by
  unfold nxT isNm
  obtain ⟨a, bad⟩ := q
  cases bad
  · simp only [Bool.false_eq_true, if_false, Bool.not_false, Bool.true_and]
    cases l[a]? with
    | none => rfl
    | some t => rfl
  · rfl
theorem sgP_st (l : List Token) (b : List UInt8) (q : Pst) : stP (isTk l q 5 b) q = sgP l b q := by
  unfold stP sgP
  cases c : isTk l q 5 b
  · rfl
  · rw [(isTk_lt c).2]; rfl
theorem nmP_st (l : List Token) (q : Pst) : stP (isNm l q) q = nmP l q := by
  unfold stP nmP
  cases c : isNm l q
  · rfl
  · rw [(isNm_lt c).2]; rfl
theorem nmX_nx (l : List Token) (q : Pst) : (if (nmP l q).2 = true then [] else (nxT l q).text) = nmX l q := by
  unfold nmP nmX nxT
  cases c : isNm l q
  · rfl
  · obtain ⟨c1, c2⟩ := isNm_lt c
    rw [c2]
    simp only [if_true, Bool.false_eq_true, if_false, List.getElem?_eq_getElem c1]
theorem nxT_len {l : List Token} (ht : ∀ t ∈ l, t.text.length ≤ 1048576) (q : Pst) : (nxT l q).text.length ≤ 1048576 := by
  unfold nxT
  split
  · simp [noTk]
  · split
    · rename_i t h; exact ht t (List.mem_of_getElem? h)
    · simp [noTk]
theorem specl12Next_p (l : List Token) (hl : l.length ≤ 1048576) (q : Pst) (hq : q.1 ≤ l.length) : PtrC Tryz.prog 29 [.int .i64 0] (parV l q) (parV l q) (nxT l q).toV := by
  intro s H m hh
  obtain ⟨a, bad⟩ := q
  dsimp only at hq
  have hm : (tkV l).length = l.length := List.length_map ..
  refine LCalls.body0 Tryz.func29 rfl (by kernel_rfl) ?_
  cases bad
  · have e : nxT l (a, false) = (match l[a]? with | some t => t | none => noTk) := rfl
    rw [e]
    clear e
    unfold parV at hh ⊢
    dsimp only at hh ⊢
    rcases Nat.lt_or_ge a l.length with hlt | hge
    · have hge' : ¬ (a : Int) + 0 ≥ (l.length : Int) := by omega
      have hg' : (tkV l)[((a : Int) + 0).toNat]? = some l[a].toV := by rw [show ((a : Int) + 0).toNat = a by omega]; exact tkV_get hlt
      rw [List.getElem?_eq_getElem hlt]
      dsimp only
      generalize l[a] = x at hg' ⊢
      obtain ⟨k, t, p⟩ := x
      repeat' first
        | (refine kAlloc ?_ ; refine LOps.allocH tT_ok hh rfl rfl ?_ ; intro s n hh)
        | (refine kStore ?_ ; first | (refine LOps.storeH tT_ok 0 hh rfl rfl rfl rfl rfl rfl rfl rfl rfl ?_ ; intro s hh))
        | (refine kOps ?_; first | (refine LOps.nil ?_))
        | (refine kWL ?_; first | (refine WL.seq ?_) | (refine WL.region (by kernel_rfl) ?_) | (refine WL.drawn (id := 1) [0, 1, 2, 3, 4, 5, 6, 7, 8, 9, 10, 11, 12, 13, 14, 15, 16, 17] [] [[], [0], [0, 1], [0, 1, 2], [0, 1, 2, 3], [0, 1, 2, 3, 4], [0, 1, 2, 3, 4, 5], [0, 1, 2, 3, 4, 5, 6], [0, 1, 2, 3, 4, 5, 6, 7], [0, 1, 2, 3, 4], [0, 1, 2, 3, 4, 5, 6, 7, 8, 9], [0, 1, 2, 3, 4], [0, 1, 2, 3, 4, 11], [0, 1, 2, 3, 4, 11, 12], [0, 1, 2, 3, 4, 11, 12, 13], [0, 1, 2, 3, 4, 11, 12, 13, 14], [0, 1, 2, 3, 4, 5, 6, 7, 8, 9, 10, 11, 12, 13, 14, 15], [0, 1, 2, 3, 4, 5, 6, 7, 8, 9, 10, 11, 12, 13, 14, 15, 16]] (by kernel_rfl) (by kernel_rfl) ?_) | (refine WL.drawn (id := 3) [0, 1, 2, 3, 4, 5, 6, 7, 8, 9, 10, 11, 12] [12] [[], [0], [0, 1], [0, 1, 2], [], [4], [4, 5], [4, 5, 6], [], [4, 5, 6, 7, 8], [0, 1, 2, 3, 4, 5, 6, 7, 8, 9], [0, 1, 2, 3, 4, 5, 6, 7, 8, 9, 10], [0, 1, 2, 3, 4, 5, 6, 7, 8, 9, 10, 11]] (by kernel_rfl) (by kernel_rfl) ?_) | (refine WL.skip ?_) | (refine WL.ret ?_) | (refine kCond ?_; first | (refine WL.condF' rfl ?_ ?_; (focus (first | (exact decide_eq_false (by assumption)))))))
        | (refine kDr ?_; first | (refine LDr.nil ?_) | (refine LDr.fl rfl rfl (.ev tT_ok rfl) ?_) | (refine LDr.gT rfl rfl rfl rfl rfl (.ev tT_ok rfl) ?_) | (refine kDLoad rfl ?_; first | (refine LDr.fl rfl rfl (AnsL.loadH tT_ok 1 hh rfl rfl rfl rfl) ?_) | (refine LDr.gT rfl rfl rfl rfl rfl (AnsL.loadH tT_ok 1 hh rfl rfl rfl rfl) ?_)) | (refine kDLen rfl ?_; first | (refine LDr.gT rfl rfl rfl rfl rfl (AnsL.lenM tT_ok rfl rfl rfl) ?_)) | (refine kDBin rfl ?_; first | (refine LDr.fl rfl rfl (AnsL.add rfl rfl ?_) ?_; (focus (constructor <;> omega))) | (refine LDr.gT rfl rfl rfl rfl rfl (AnsL.add rfl rfl ?_) ?_; (focus (constructor <;> omega)))) | (refine kDIdx rfl ?_; first | (refine LDr.fl rfl rfl (AnsL.idxZ tT_ok rfl rfl rfl rfl rfl ?_ hg' rfl rfl) ?_; (focus (omega)))) | (refine LDr.eff rfl rfl rfl ?_))
        | (refine lthen_n ?_)
        | (refine' LPost.r1 (r := .cell 4 58) (.inl rfl) ?_ ?_; rotate_left 1; (focus (first | (exact Res1.cellH 0 tT_ok hh rfl rfl rfl rfl))))
        | (refine And.intro ?_ ?_)
        | (exact StsL.nil)
      exact PtrC.fin rfl hh (.cons 1 rfl rfl (.drop (Sel.refl _)))
    · have hge' : (a : Int) + 0 ≥ (l.length : Int) := by omega
      rw [List.getElem?_eq_none hge]
      repeat' first
        | (refine kAlloc ?_ ; refine LOps.allocH tT_ok hh rfl rfl ?_ ; intro s n hh)
        | (refine kStore ?_ ; first | (refine LOps.storeH tT_ok 0 hh rfl rfl rfl rfl rfl rfl rfl rfl rfl ?_ ; intro s hh))
        | (refine kOps ?_; first | (refine LOps.nil ?_) | (refine LOps.ev tT_ok rfl ?_))
        | (refine kWL ?_; first | (refine WL.seq ?_) | (refine WL.region (by kernel_rfl) ?_) | (refine WL.drawn (id := 1) [0, 1, 2, 3, 4, 5, 6, 7, 8, 9, 10, 11, 12, 13, 14, 15, 16, 17] [] [[], [0], [0, 1], [0, 1, 2], [0, 1, 2, 3], [0, 1, 2, 3, 4], [0, 1, 2, 3, 4, 5], [0, 1, 2, 3, 4, 5, 6], [0, 1, 2, 3, 4, 5, 6, 7], [0, 1, 2, 3, 4], [0, 1, 2, 3, 4, 5, 6, 7, 8, 9], [0, 1, 2, 3, 4], [0, 1, 2, 3, 4, 11], [0, 1, 2, 3, 4, 11, 12], [0, 1, 2, 3, 4, 11, 12, 13], [0, 1, 2, 3, 4, 11, 12, 13, 14], [0, 1, 2, 3, 4, 5, 6, 7, 8, 9, 10, 11, 12, 13, 14, 15], [0, 1, 2, 3, 4, 5, 6, 7, 8, 9, 10, 11, 12, 13, 14, 15, 16]] (by kernel_rfl) (by kernel_rfl) ?_) | (refine WL.ret ?_) | (refine kCond ?_; first | (refine WL.condT' rfl ?_ ?_; (focus (first | (exact decide_eq_true (by assumption)))))))
        | (refine kDr ?_; first | (refine LDr.nil ?_) | (refine LDr.fl rfl rfl (.ev tT_ok rfl) ?_) | (refine LDr.gT rfl rfl rfl rfl rfl (.ev tT_ok rfl) ?_) | (refine kDLoad rfl ?_; first | (refine LDr.fl rfl rfl (AnsL.loadH tT_ok 1 hh rfl rfl rfl rfl) ?_) | (refine LDr.gT rfl rfl rfl rfl rfl (AnsL.loadH tT_ok 1 hh rfl rfl rfl rfl) ?_)) | (refine kDLen rfl ?_; first | (refine LDr.gT rfl rfl rfl rfl rfl (AnsL.lenM tT_ok rfl rfl rfl) ?_)) | (refine kDBin rfl ?_; first | (refine LDr.gT rfl rfl rfl rfl rfl (AnsL.add rfl rfl ?_) ?_; (focus (constructor <;> omega)))))
        | (refine lthen_n ?_)
        | (refine lthen_r ?_)
        | (refine' LPost.r1 (r := .cell 4 58) (.inl rfl) ?_ ?_; rotate_left 1; (focus (first | (exact Res1.cellH 0 tT_ok hh rfl rfl rfl rfl))))
      exact PtrC.fin rfl hh (.cons 1 rfl rfl (.drop (Sel.refl _)))
  · have e : nxT l (a, true) = noTk := rfl
    rw [e]
    unfold parV at hh ⊢
    dsimp only at hh ⊢
    repeat' first
      | (refine kAlloc ?_ ; refine LOps.allocH tT_ok hh rfl rfl ?_ ; intro s n hh)
      | (refine kStore ?_ ; first | (refine LOps.storeH tT_ok 0 hh rfl rfl rfl rfl rfl rfl rfl rfl rfl ?_ ; intro s hh))
      | (refine kOps ?_; first | (refine LOps.nil ?_) | (refine LOps.ev tT_ok rfl ?_))
      | (refine kWL ?_; first | (refine WL.seq ?_) | (refine WL.region (by kernel_rfl) ?_) | (refine WL.drawn (id := 1) [0, 1, 2, 3, 4, 5, 6, 7, 8, 9, 10, 11, 12, 13, 14, 15, 16, 17] [] [[], [0], [0, 1], [0, 1, 2], [0, 1, 2, 3], [0, 1, 2, 3, 4], [0, 1, 2, 3, 4, 5], [0, 1, 2, 3, 4, 5, 6], [0, 1, 2, 3, 4, 5, 6, 7], [0, 1, 2, 3, 4], [0, 1, 2, 3, 4, 5, 6, 7, 8, 9], [0, 1, 2, 3, 4], [0, 1, 2, 3, 4, 11], [0, 1, 2, 3, 4, 11, 12], [0, 1, 2, 3, 4, 11, 12, 13], [0, 1, 2, 3, 4, 11, 12, 13, 14], [0, 1, 2, 3, 4, 5, 6, 7, 8, 9, 10, 11, 12, 13, 14, 15], [0, 1, 2, 3, 4, 5, 6, 7, 8, 9, 10, 11, 12, 13, 14, 15, 16]] (by kernel_rfl) (by kernel_rfl) ?_) | (refine WL.ret ?_) | (refine kCond ?_; first | (refine WL.condT rfl ?_)))
      | (refine kDr ?_; first | (refine LDr.nil ?_) | (refine LDr.fl rfl rfl (.ev tT_ok rfl) ?_) | (refine LDr.gF rfl rfl rfl rfl rfl ?_) | (refine kDLoad rfl ?_; first | (refine LDr.fl rfl rfl (AnsL.loadH tT_ok 1 hh rfl rfl rfl rfl) ?_)))
      | (refine lthen_n ?_)
      | (refine lthen_r ?_)
      | (refine' LPost.r1 (r := .cell 4 58) (.inl rfl) ?_ ?_; rotate_left 1; (focus (first | (exact Res1.cellH 0 tT_ok hh rfl rfl rfl rfl))))
    exact PtrC.fin rfl hh (.cons 1 rfl rfl (.drop (Sel.refl _)))
theorem specl12Step_p (l : List Token) (hl : l.length ≤ 1048576) (ok : Bool) (q : Pst) (hq : q.1 ≤ l.length) : PtrC Tryz.prog 10 [.bool ok] (parV l q) (parV l (stP ok q)) (.tup []) := by
  intro s H m hh
  obtain ⟨a, bad⟩ := q
  dsimp only at hq
  refine LCalls.body0 Tryz.func10 rfl (by kernel_rfl) ?_
  unfold parV at hh ⊢
  cases ok
  · skip
    repeat' first
      | (refine kStore ?_ ; first | (refine LOps.storeH tT_ok 0 hh rfl rfl rfl rfl rfl rfl rfl rfl rfl ?_ ; intro s hh))
      | (refine kOps ?_; first | (refine LOps.nil ?_) | (refine kG ?_; first | (refine LOps.gF rfl rfl rfl ?_)) | (refine LOps.ev tT_ok rfl ?_))
      | (refine kWL ?_; first | (refine WL.seq ?_) | (refine WL.region (by kernel_rfl) ?_) | (refine WL.ret ?_) | (refine kCond ?_; first | (refine WL.condT rfl ?_)))
      | (refine lthen_n ?_)
      | (refine lthen_r ?_)
      | (refine LPost.r0 (.inl rfl) ?_)
    exact PtrC.fin rfl hh (Sel.refl _)
  · cases bad
    · skip
      repeat' first
        | (refine kStore ?_ ; first | (refine LOps.storeH tT_ok 0 hh rfl rfl rfl rfl rfl rfl rfl rfl rfl ?_ ; intro s hh))
        | (refine kOps ?_; first | (refine LOps.nil ?_) | (refine kG ?_; first | (refine LOps.gT rfl rfl rfl ?_)) | (refine LOps.ev tT_ok rfl ?_) | (refine kLoad ?_; first | (refine LOps.ans (AnsL.loadH tT_ok 0 hh rfl rfl rfl rfl) ?_)) | (refine kBin ?_; first | (refine LOps.ans (AnsL.add rfl rfl ?_) ?_; (focus (constructor <;> omega)))))
        | (refine kWL ?_; first | (refine WL.seq ?_) | (refine WL.region (by kernel_rfl) ?_) | (refine WL.skip ?_) | (refine kCond ?_; first | (refine WL.condF rfl ?_)))
        | (refine lthen_n ?_)
        | (refine LPost.r0 (.inr rfl) ?_)
      exact PtrC.fin rfl hh (Sel.refl _)
    · skip
      repeat' first
        | (refine kStore ?_ ; first | (refine LOps.storeH tT_ok 0 hh rfl rfl rfl rfl rfl rfl rfl rfl rfl ?_ ; intro s hh))
        | (refine kOps ?_; first | (refine LOps.nil ?_) | (refine kG ?_; first | (refine LOps.gT rfl rfl rfl ?_)) | (refine LOps.ev tT_ok rfl ?_) | (refine kLoad ?_; first | (refine LOps.ans (AnsL.loadH tT_ok 0 hh rfl rfl rfl rfl) ?_)))
        | (refine kWL ?_; first | (refine WL.seq ?_) | (refine WL.region (by kernel_rfl) ?_) | (refine WL.ret ?_) | (refine kCond ?_; first | (refine WL.condT rfl ?_)))
        | (refine lthen_n ?_)
        | (refine lthen_r ?_)
        | (refine LPost.r0 (.inl rfl) ?_)
      exact PtrC.fin rfl hh (Sel.refl _)
theorem specl12Sign_p (l : List Token) (hl : l.length ≤ 1048576) (b : List UInt8) (q : Pst) (hq : q.1 ≤ l.length) : PtrC Tryz.prog 11 [.str b] (parV l q) (parV l q) (.bool (isTk l q 5 b)) := by
  intro s H m hh
  refine LCalls.body0 Tryz.func11 rfl (by kernel_rfl) ?_
  have hN := specl12Next_p l hl q hq
  have hI := isTk_nx l q b
  generalize nxT l q = x at hN hI
  obtain ⟨k, t, p⟩ := x
  dsimp only at hI
  by_cases c1 : k = 5
  · rw [decide_eq_true c1, Bool.true_and] at hI
    subst c1
    repeat' first
      | (refine kAlloc ?_ ; refine LOps.allocH tT_ok hh rfl rfl ?_ ; intro s n hh)
      | (refine kStore ?_ ; first | (refine LOps.storeH tT_ok 0 hh rfl rfl rfl rfl rfl rfl rfl rfl rfl ?_ ; intro s hh))
      | (refine kCallN 29 ?_ ; first | (refine LOps.ptrC 0 rfl rfl ok29 hh rfl rfl (hN) ?_ ; intro s hh))
      | (refine kOps ?_; first | (refine LOps.nil ?_) | (refine kG ?_; first | (refine LOps.gT rfl rfl rfl ?_)) | (refine LOps.ev tT_ok rfl ?_) | (refine kLoad ?_; first | (refine LOps.ans (AnsL.loadH tT_ok 0 hh rfl rfl rfl rfl) ?_)))
      | (refine kWL ?_; first | (refine WL.seq ?_) | (refine WL.region (by kernel_rfl) ?_) | (refine WL.ret ?_))
      | (refine lthen_n ?_)
      | (refine LPost.r1 (r := .tmp 4) (.inl rfl) (Res1.tmp rfl) ?_)
    exact PtrC.fin (by rw [← hI]) hh (.cons 1 rfl rfl (.drop (Sel.refl _)))
  · rw [decide_eq_false c1, Bool.false_and] at hI
    repeat' first
      | (refine kAlloc ?_ ; refine LOps.allocH tT_ok hh rfl rfl ?_ ; intro s n hh)
      | (refine kStore ?_ ; first | (refine LOps.storeH tT_ok 0 hh rfl rfl rfl rfl rfl rfl rfl rfl rfl ?_ ; intro s hh))
      | (refine kCallN 29 ?_ ; first | (refine LOps.ptrC 0 rfl rfl ok29 hh rfl rfl (hN) ?_ ; intro s hh))
      | (refine kOps ?_; first | (refine LOps.nil ?_) | (refine kG ?_; first | (refine LOps.gF rfl rfl rfl ?_) | (refine LOps.gD false rfl rfl rfl ?_ ?_; (focus (first | (exact decide_eq_false (by assumption)))))) | (refine LOps.ev tT_ok rfl ?_) | (refine kLoad ?_; first | (refine LOps.ans (AnsL.loadH tT_ok 0 hh rfl rfl rfl rfl) ?_)))
      | (refine kWL ?_; first | (refine WL.seq ?_) | (refine WL.region (by kernel_rfl) ?_) | (refine WL.ret ?_))
      | (refine lthen_n ?_)
      | (refine LPost.r1 (r := .tmp 4) (.inl rfl) (Res1.tmp rfl) ?_)
    exact PtrC.fin (by rw [← hI]) hh (.cons 1 rfl rfl (.drop (Sel.refl _)))
theorem specl12Kind_p (l : List Token) (hl : l.length ≤ 1048576) (ht : ∀ t ∈ l, t.text.length ≤ 1048576) (q : Pst) (hq : q.1 ≤ l.length) : PtrC Tryz.prog 64 [.int .i64 2] (parV l q) (parV l q) (.bool (isNm l q)) := by
  intro s H m hh
  refine LCalls.body0 Tryz.func64 rfl (by kernel_rfl) ?_
  have hN := specl12Next_p l hl q hq
  have hI := isNm_nx l q
  have hx := nxT_len ht q
  generalize nxT l q = x at hN hI hx
  have hT := fun u => specTokenOk_v x hx u
  obtain ⟨k, t, p⟩ := x
  dsimp only at hI
  by_cases c1 : k = 2
  · rw [decide_eq_true c1, Bool.true_and] at hI
    subst c1
    have e : tokOk numS ⟨2, t, p⟩ = nameOk t := rfl
    rw [e, hI] at hT
    repeat' first
      | (refine kAlloc ?_ ; refine LOps.allocH tT_ok hh rfl rfl ?_ ; intro s n hh)
      | (refine kStore ?_ ; first | (refine LOps.storeH tT_ok 0 hh rfl rfl rfl rfl rfl rfl rfl rfl rfl ?_ ; intro s hh))
      | (refine kCallN 29 ?_ ; first | (refine LOps.ptrC 0 rfl rfl ok29 hh rfl rfl (hN) ?_ ; intro s hh))
      | (refine kOps ?_; first | (refine LOps.nil ?_) | (refine kG ?_; first | (refine LOps.gT rfl rfl rfl ?_)) | (refine LOps.ev tT_ok rfl ?_) | (refine kLoad ?_; first | (refine LOps.ans (AnsL.loadH tT_ok 0 hh rfl rfl rfl rfl) ?_)) | (refine kCallN 63 ?_; first | (refine LOps.ans (AnsL.callP rfl rfl rfl (ok63) (hT _)) ?_)))
      | (refine kWL ?_; first | (refine WL.seq ?_) | (refine WL.region (by kernel_rfl) ?_) | (refine WL.ret ?_))
      | (refine lthen_n ?_)
      | (refine LPost.r1 (r := .tmp 4) (.inl rfl) (Res1.tmp rfl) ?_)
    exact PtrC.fin rfl hh (.cons 1 rfl rfl (.drop (Sel.refl _)))
  · rw [decide_eq_false c1, Bool.false_and] at hI
    repeat' first
      | (refine kAlloc ?_ ; refine LOps.allocH tT_ok hh rfl rfl ?_ ; intro s n hh)
      | (refine kStore ?_ ; first | (refine LOps.storeH tT_ok 0 hh rfl rfl rfl rfl rfl rfl rfl rfl rfl ?_ ; intro s hh))
      | (refine kCallN 29 ?_ ; first | (refine LOps.ptrC 0 rfl rfl ok29 hh rfl rfl (hN) ?_ ; intro s hh))
      | (refine kOps ?_; first | (refine LOps.nil ?_) | (refine kG ?_; first | (refine LOps.gF rfl rfl rfl ?_) | (refine LOps.gD false rfl rfl rfl ?_ ?_; (focus (first | (exact decide_eq_false (by assumption)))))) | (refine LOps.ev tT_ok rfl ?_) | (refine kLoad ?_; first | (refine LOps.ans (AnsL.loadH tT_ok 0 hh rfl rfl rfl rfl) ?_)))
      | (refine kWL ?_; first | (refine WL.seq ?_) | (refine WL.region (by kernel_rfl) ?_) | (refine WL.ret ?_))
      | (refine lthen_n ?_)
      | (refine LPost.r1 (r := .tmp 4) (.inl rfl) (Res1.tmp rfl) ?_)
    exact PtrC.fin (by rw [← hI]) hh (.cons 1 rfl rfl (.drop (Sel.refl _)))
theorem specl12Text_p (l : List Token) (hl : l.length ≤ 1048576) (ht : ∀ t ∈ l, t.text.length ≤ 1048576) (q : Pst) (hq : q.1 ≤ l.length) : PtrC Tryz.prog 30 [.int .i64 2] (parV l q) (parV l (nmP l q)) (.str (nmX l q)) := by
  intro s H m hh
  refine LCalls.body0 Tryz.func30 rfl (by kernel_rfl) ?_
  have hN := specl12Next_p l hl q hq
  have hK := specl12Kind_p l hl ht q hq
  have hS := specl12Step_p l hl (isNm l q) q hq
  rw [nmP_st] at hS
  rw [← nmX_nx]
  generalize nxT l q = x at hN ⊢
  obtain ⟨k, t, p⟩ := x
  generalize isNm l q = b at hK hS
  generalize nmP l q = z at hS ⊢
  obtain ⟨a2, bad2⟩ := z
  cases bad2
  · skip
    repeat' first
      | (refine kAlloc ?_ ; refine LOps.allocH tT_ok hh rfl rfl ?_ ; intro s n hh)
      | (refine kStore ?_ ; first | (refine LOps.storeH tT_ok 0 hh rfl rfl rfl rfl rfl rfl rfl rfl rfl ?_ ; intro s hh))
      | (refine kCallN 29 ?_ ; first | (refine LOps.ptrC 0 rfl rfl ok29 hh rfl rfl (hN) ?_ ; intro s hh))
      | (refine kCallN 64 ?_ ; first | (refine LOps.ptrC 1 rfl rfl ok64 hh rfl rfl (hK) ?_ ; intro s hh))
      | (refine kCallN 10 ?_ ; first | (refine LOps.ptrC 0 rfl rfl ok10 hh rfl rfl (hS) ?_ ; intro s hh))
      | (refine kOps ?_; first | (refine LOps.nil ?_) | (refine LOps.ev tT_ok rfl ?_) | (refine kLoad ?_; first | (refine LOps.ans (AnsL.loadH tT_ok 0 hh rfl rfl rfl rfl) ?_) | (refine LOps.ans (AnsL.loadH tT_ok 1 hh rfl rfl rfl rfl) ?_)))
      | (refine kWL ?_; first | (refine WL.seq ?_) | (refine WL.region (by kernel_rfl) ?_) | (refine WL.skip ?_) | (refine WL.ret ?_) | (refine kCond ?_; first | (refine WL.condF rfl ?_)))
      | (refine lthen_n ?_)
      | (refine LPost.r1 (r := .tmp 4) (.inl rfl) (Res1.tmp rfl) ?_)
    exact PtrC.fin rfl hh (.cons 0 rfl rfl (.drop (Sel.refl _)))
  · skip
    repeat' first
      | (refine kAlloc ?_ ; refine LOps.allocH tT_ok hh rfl rfl ?_ ; intro s n hh)
      | (refine kStore ?_ ; first | (refine LOps.storeH tT_ok 0 hh rfl rfl rfl rfl rfl rfl rfl rfl rfl ?_ ; intro s hh))
      | (refine kCallN 29 ?_ ; first | (refine LOps.ptrC 0 rfl rfl ok29 hh rfl rfl (hN) ?_ ; intro s hh))
      | (refine kCallN 64 ?_ ; first | (refine LOps.ptrC 1 rfl rfl ok64 hh rfl rfl (hK) ?_ ; intro s hh))
      | (refine kCallN 10 ?_ ; first | (refine LOps.ptrC 0 rfl rfl ok10 hh rfl rfl (hS) ?_ ; intro s hh))
      | (refine kOps ?_; first | (refine LOps.nil ?_) | (refine LOps.ev tT_ok rfl ?_) | (refine kLoad ?_; first | (refine LOps.ans (AnsL.loadH tT_ok 0 hh rfl rfl rfl rfl) ?_)))
      | (refine kWL ?_; first | (refine WL.seq ?_) | (refine WL.region (by kernel_rfl) ?_) | (refine WL.ret ?_) | (refine kCond ?_; first | (refine WL.condT rfl ?_)))
      | (refine lthen_n ?_)
      | (refine lthen_r ?_)
      | (refine LPost.r1 (r := .tmp 4) (.inl rfl) (Res1.tmp rfl) ?_)
    exact PtrC.fin rfl hh (.cons 0 rfl rfl (.drop (Sel.refl _)))

/-! ### Types -/
theorem implTypeText_v (n : Int) (s : S) : VCalls Tryz.prog 50 [.int .i64 n] s (fun v s' => v = .str (tySt n) ∧ s' = s) := by
  by_cases h1 : n < 0
  · have e : tySt n = [] := by unfold tySt; rw [if_neg (by omega), if_neg (by omega), if_neg (by omega), if_neg (by omega)]
    rw [e]
    refine LCalls.pure Tryz.func50 rfl (by kernel_rfl) (by simp) ?_
    repeat' first
      | (refine kOps ?_; first | (refine LOps.nil ?_) | (refine kG ?_; first | (refine LOps.gF rfl rfl rfl ?_) | (refine LOps.gD true rfl rfl rfl ?_ ?_; (focus (first | (exact decide_eq_true (by assumption)))))) | (refine LOps.ev tT_ok rfl ?_))
      | (refine kWL ?_; first | (refine WL.seq ?_) | (refine WL.region (by kernel_rfl) ?_) | (refine WL.ret ?_) | (refine kCond ?_; first | (refine WL.condT rfl ?_)))
      | (refine lthen_n ?_)
      | (refine lthen_r ?_)
      | (refine LPost.r1 (r := .tmp 2) (.inl rfl) (Res1.tmp rfl) ?_)
      | (refine PureR.mk ?_)
    rfl
  by_cases h2 : n > 3
  · have e : tySt n = [] := by unfold tySt; rw [if_neg (by omega), if_neg (by omega), if_neg (by omega), if_neg (by omega)]
    rw [e]
    refine LCalls.pure Tryz.func50 rfl (by kernel_rfl) (by simp) ?_
    repeat' first
      | (refine kOps ?_; first | (refine LOps.nil ?_) | (refine kG ?_; first | (refine LOps.gT rfl rfl rfl ?_) | (refine LOps.gD false rfl rfl rfl ?_ ?_; (focus (first | (exact decide_eq_false (by assumption)))))) | (refine LOps.ev tT_ok rfl ?_))
      | (refine kWL ?_; first | (refine WL.seq ?_) | (refine WL.region (by kernel_rfl) ?_) | (refine WL.ret ?_) | (refine kCond ?_; first | (refine WL.condT' rfl ?_ ?_; (focus (first | (exact decide_eq_true (by assumption)))))))
      | (refine lthen_n ?_)
      | (refine lthen_r ?_)
      | (refine LPost.r1 (r := .tmp 2) (.inl rfl) (Res1.tmp rfl) ?_)
      | (refine PureR.mk ?_)
    rfl
  have : n = 0 ∨ n = 1 ∨ n = 2 ∨ n = 3 := by omega
  rcases this with rfl | rfl | rfl | rfl
  all_goals
    refine LCalls.pure Tryz.func50 rfl (by kernel_rfl) (by simp) ?_
    repeat' first
      | (refine kBsl ?_ ; refine LOps.ans (AnsL.bslF tT_ok rfl rfl rfl rfl rfl rfl rfl rfl rfl) ?_)
      | (refine kOps ?_; first | (refine LOps.nil ?_) | (refine kG ?_; first | (refine LOps.gT rfl rfl rfl ?_)) | (refine LOps.ev tT_ok rfl ?_) | (refine kIdx ?_; first | (refine LOps.ans (AnsL.idxZ tT_ok rfl rfl rfl rfl rfl ?_ rfl rfl rfl) ?_; (focus (decide)))))
      | (refine kWL ?_; first | (refine WL.seq ?_) | (refine WL.region (by kernel_rfl) ?_) | (refine WL.skip ?_) | (refine WL.ret ?_) | (refine kCond ?_; first | (refine WL.condF rfl ?_)))
      | (refine lthen_n ?_)
      | (refine LPost.r1 (r := .tmp 2) (.inl rfl) (Res1.tmp rfl) ?_)
      | (refine PureR.mk ?_)
    rfl
theorem specTypeText_v (n : Int) (s : S) : VCalls Tryz.prog 38 [.int .i64 n] s (fun v s' => v = .str (tySt n) ∧ s' = s) := by
  have hI := fun u => specl1In_x n 0 3 u
  by_cases h1 : 0 ≤ n ∧ n ≤ 3
  · have : n = 0 ∨ n = 1 ∨ n = 2 ∨ n = 3 := by omega
    rcases this with rfl | rfl | rfl | rfl
    all_goals
      refine LCalls.pure Tryz.func38 rfl (by kernel_rfl) (by simp) ?_
      repeat' first
        | (refine kBsl ?_ ; refine LOps.ans (AnsL.bslF tT_ok rfl rfl rfl rfl rfl rfl rfl rfl rfl) ?_)
        | (refine kOps ?_; first | (refine LOps.nil ?_) | (refine LOps.ev tT_ok rfl ?_) | (refine kIdx ?_; first | (refine LOps.ans (AnsL.idxZ tT_ok rfl rfl rfl rfl rfl ?_ rfl rfl rfl) ?_; (focus (decide)))) | (refine kCallN 34 ?_; first | (refine LOps.ans (AnsL.callP rfl rfl rfl (ok34) (hI _)) ?_)))
        | (refine kWL ?_; first | (refine WL.seq ?_) | (refine WL.region (by kernel_rfl) ?_) | (refine WL.skip ?_) | (refine WL.ret ?_) | (refine kCond ?_; first | (refine WL.condF rfl ?_)))
        | (refine lthen_n ?_)
        | (refine LPost.r1 (r := .tmp 2) (.inl rfl) (Res1.tmp rfl) ?_)
        | (refine PureR.mk ?_)
      rfl
  · have e : tySt n = [] := by unfold tySt; rw [if_neg (by omega), if_neg (by omega), if_neg (by omega), if_neg (by omega)]
    have e2 : (decide (0 ≤ n) && decide (n ≤ 3)) = false := by
      rw [Bool.and_eq_false_iff, decide_eq_false_iff_not, decide_eq_false_iff_not]; omega
    rw [e2] at hI
    rw [e]
    refine LCalls.pure Tryz.func38 rfl (by kernel_rfl) (by simp) ?_
    repeat' first
      | (refine kOps ?_; first | (refine LOps.nil ?_) | (refine LOps.ev tT_ok rfl ?_) | (refine kCallN 34 ?_; first | (refine LOps.ans (AnsL.callP rfl rfl rfl (ok34) (hI _)) ?_)))
      | (refine kWL ?_; first | (refine WL.seq ?_) | (refine WL.region (by kernel_rfl) ?_) | (refine WL.ret ?_) | (refine kCond ?_; first | (refine WL.condT rfl ?_)))
      | (refine lthen_n ?_)
      | (refine lthen_r ?_)
      | (refine LPost.r1 (r := .tmp 2) (.inl rfl) (Res1.tmp rfl) ?_)
      | (refine PureR.mk ?_)
    rfl
def tyL : List (List UInt8) := [[], [73, 78, 84], [84, 69, 88, 84], [66, 79, 79, 76]]
def tyI (b : List UInt8) : Int := idxI tyL b
def tyS (b : List UInt8) : Int := if b = [73, 78, 84] then 1 else if b = [84, 69, 88, 84] then 2 else if b = [66, 79, 79, 76] then 3 else 0
theorem tyI_r : TyR tyI := fun n h1 h2 => by
  have : n = 1 ∨ n = 2 ∨ n = 3 := by omega
  rcases this with rfl | rfl | rfl <;> decide
theorem tyS_r : TyR tyS := fun n h1 h2 => by
  have : n = 1 ∨ n = 2 ∨ n = 3 := by omega
  rcases this with rfl | rfl | rfl <;> decide
theorem specl16Type_v (b : List UInt8) (s : S) : VCalls Tryz.prog 31 [.str b] s (fun v s' => v = .int .i64 (tyS b) ∧ s' = s) := by
  have h1 := fun u => specTypeText_v 1 u
  have h2 := fun u => specTypeText_v 2 u
  have h3 := fun u => specTypeText_v 3 u
  refine VCalls.pureOf rfl rfl (fun s => ?_) s
  have hh : Hold s s.next [] := .start _ _
  refine LCalls.body Tryz.func31 rfl (by kernel_rfl) ?_
  repeat' first
    | (refine kOps ?_; first | (refine LOps.nil ?_) | (refine LOps.ev tT_ok rfl ?_))
    | (refine kWL ?_; first | (refine WL.seq ?_) | (refine WL.region (by kernel_rfl) ?_) | (refine WL.block ?_))
    | (refine lthen_n ?_)
  refine WL.loopH (fun n : Nat => 3 - n) (fun n => [(0, .str b), (3, .int .i64 ((n : Int) + 1))]) (fun n => []) (fun n => n ≤ 3 ∧ ∀ j : Nat, j < n → tySt ((j : Int) + 1) ≠ b) 0 ⟨by omega, fun j h => by omega⟩ ⟨rfl, rfl, trivial⟩ hh (Sel.refl _) (fun n s hI hh => ?_)
  obtain ⟨hn, hI⟩ := hI
  have hT := fun u => specTypeText_v ((n : Int) + 1) u
  by_cases c : n = 3
  · subst c
    have e : tyS b = 0 := by
      have a1 := hI 0 (by omega)
      have a2 := hI 1 (by omega)
      have a3 := hI 2 (by omega)
      unfold tyS
      rw [if_neg (fun h => a1 h.symm), if_neg (fun h => a2 h.symm), if_neg (fun h => a3 h.symm)]
    rw [e]
    have c' : ¬ ((3 : Nat) : Int) + 1 ≤ 3 := by omega
    repeat' first
      | (refine kOps ?_; first | (refine LOps.nil ?_) | (refine LOps.ev tT_ok rfl ?_))
      | (refine kWL ?_; first | (refine WL.seq ?_) | (refine WL.region (by kernel_rfl) ?_) | (refine WL.exit ?_) | (refine WL.ret ?_) | (refine kCond ?_; first | (refine WL.condF rfl ?_)))
      | (refine lthen_n ?_)
      | (refine lthen_e ?_)
      | (refine lblock_e ?_)
      | (refine lbackH_e ?_)
      | (refine LPost.r1 (r := .tmp 2) (.inl rfl) (Res1.tmp rfl) ?_)
    exact ⟨[], .scal rfl, List.nodup_nil⟩
  · have c' : (n : Int) + 1 ≤ 3 := by omega
    have hw : IntKind.i64.wrap ((n : Int) + 1 + 1) = (n : Int) + 1 + 1 := by rw [IntKind.wrap_i64]; omega
    by_cases he : tySt ((n : Int) + 1) = b
    · have e : tyS b = (n : Int) + 1 := by
        rw [← he]
        exact tyS_r _ (by omega) (by omega)
      rw [e]
      generalize tySt ((n : Int) + 1) = y at hT he
      repeat' first
        | (refine kOps ?_; first | (refine LOps.nil ?_) | (refine LOps.ev tT_ok rfl ?_) | (refine kCallN 38 ?_; first | (refine LOps.ans (AnsL.callP rfl rfl rfl (ok38) (hT _)) ?_)))
        | (refine kWL ?_; first | (refine WL.seq ?_) | (refine WL.region (by kernel_rfl) ?_) | (refine WL.block ?_) | (refine WL.skip ?_) | (refine WL.ret ?_) | (refine kCond ?_; first | (refine WL.condT' rfl ?_ ?_; (focus (first | (exact decide_eq_true (by assumption)))))))
        | (refine lthen_n ?_)
        | (refine lthen_r ?_)
        | (refine lblock_r ?_)
        | (refine lbackH_r ?_)
        | (refine LPost.r1 (r := .tmp 2) (.inl rfl) (Res1.tmp rfl) ?_)
      exact ⟨[], .scal rfl, List.nodup_nil⟩
    · have hI' : ∀ j : Nat, j < n + 1 → tySt ((j : Int) + 1) ≠ b := fun j hj => by
        rcases Nat.lt_or_ge j n with h | h
        · exact hI j h
        · have : j = n := by omega
          subst this; exact he
      generalize tySt ((n : Int) + 1) = y at hT he
      repeat' first
        | (refine kOps ?_; first | (refine LOps.nil ?_) | (refine LOps.ev tT_ok rfl ?_) | (refine kBin ?_; first | (refine LOps.ans (AnsL.add rfl rfl ?_) ?_; (focus (constructor <;> omega)))) | (refine kCallN 38 ?_; first | (refine LOps.ans (AnsL.callP rfl rfl rfl (ok38) (hT _)) ?_)))
        | (refine kWL ?_; first | (refine WL.seq ?_) | (refine WL.region (by kernel_rfl) ?_) | (refine WL.block ?_) | (refine WL.skip ?_) | (refine kCond ?_; first | (refine WL.condT' rfl ?_ ?_; (focus (first | (exact decide_eq_true (by assumption))))) | (refine WL.condF' rfl ?_ ?_; (focus (first | (exact decide_eq_false (by assumption)))))))
        | (refine lthen_n ?_)
        | (refine lblock_n ?_)
      exact lbackH.of (n + 1) ⟨rfl, rfl, trivial⟩ hh (Sel.refl _) ⟨by omega, hI'⟩ (by omega)

end Go.Proofs.YtbnbmcplmipgdaaGreatDoor
