/-
  Tokens of a catalog, of the reference; whether two runs of tokens are the same. Own work; no condition.
-/
import Derived.Test.YtbnbmcplmipgdaaGreatDoorDPas
import Derived.Test.YtbnbmcplmipgdaaGreatDoorDMark
namespace Go.Proofs.YtbnbmcplmipgdaaGreatDoor
open Go
set_option linter.unusedSimpArgs false
set_option linter.unusedVariables false

theorem tabsT_step {ts : List Tab} {i : Nat} (h : i < ts.length) : tabsT 0 (ts.take (i + 1)) = tabsT 0 (ts.take i) ++ tabT i ts[i] := by
  rw [List.take_succ_eq_append_getElem h, tabsT_app, List.length_take, Nat.min_eq_left (by omega), Nat.zero_add]
theorem colsT_step {cs : List Col} {k : Nat} (h : k < cs.length) : colsT 0 (cs.take (k + 1)) = colsT 0 (cs.take k) ++ colT k cs[k] := by
  rw [List.take_succ_eq_append_getElem h, colsT_app, List.length_take, Nat.min_eq_left (by omega), Nat.zero_add]
theorem cmT_len (k : Nat) : (cmT k).length ≤ 1 := by cases k <;> simp [cmT]
theorem colsT_le : ∀ (cs : List Col) (k : Nat), (colsT k cs).length ≤ 3 * cs.length
  | [], _ => Nat.le_refl _
  | c :: cs, k => by
    have := colsT_le cs (k + 1)
    have := cmT_len k
    simp only [colsT, colT, List.length_append, List.length_cons, List.length_nil]
    omega
theorem tabsT_le : ∀ (ts : List Tab) (k : Nat), (∀ t ∈ ts, t.cols.length ≤ 4) → (tabsT k ts).length ≤ 16 * ts.length
  | [], _, _ => Nat.le_refl _
  | t :: ts, k, h => by
    have := tabsT_le ts (k + 1) fun x hx => h x (by simp [hx])
    have := colsT_le t.cols 0
    have := cmT_len k
    have := h t (by simp)
    simp only [tabsT, tabT, List.length_append, List.length_cons, List.length_nil]
    omega
def Cat.few (c : Cat) : Prop := c.tables.length ≤ 4 ∧ ∀ t ∈ c.tables, t.cols.length ≤ 4
theorem catOk_few {c : Cat} (h : catOk c = true) : c.few := by
  simp only [catOk, Bool.and_eq_true, decide_eq_true_eq] at h
  refine ⟨by omega, fun t ht => ?_⟩
  obtain ⟨i, hi⟩ := allI_mem h.2 t ht
  simp only [rowOk, tabOk, Bool.and_eq_true, inR, decide_eq_true_eq] at hi
  omega
theorem plainCat (c : Cat) : V.plainL [c.toV] = true := by
  have := plain_TableS c.tables
  simp only [V.plainL, Cat.toV, V.plain, Bool.and_true] at this ⊢
  exact this
theorem tk_some (a b : List Token) : tkV (a ++ b) = tkV a ++ tkV b := List.map_append ..
theorem specl10Sign_v (b : List UInt8) (s : S) : VCalls Tryz.prog 36 [.str b] s (fun v s' => v = (sgTk b).toV ∧ s' = s) := by
  refine LCalls.pure Tryz.func36 rfl (by kernel_rfl) (by simp) ?_
  repeat' first
    | (refine kOps ?_; first | (refine LOps.nil ?_) | (refine kStore ?_; refine LOps.storeP tT_ok rfl rfl rfl rfl rfl rfl rfl rfl rfl ?_) | (refine LOps.ev tT_ok rfl ?_) | (refine kAlloc ?_; refine LOps.alloc tT_ok rfl rfl rfl rfl ?_))
    | (refine kWL ?_; first | (refine WL.seq ?_) | (refine WL.region (by kernel_rfl) ?_) | (refine WL.ret ?_))
    | (refine lthen_n ?_)
    | (refine LPost.r1 (r := .cell 2 58) (.inl rfl) (Res1.cell tT_ok rfl rfl rfl rfl) ?_)
    | (refine PureR.mk ?_)
  rfl
theorem specl10Name_v (b : List UInt8) (s : S) : VCalls Tryz.prog 37 [.str b] s (fun v s' => v = (nmTk b).toV ∧ s' = s) := by
  refine LCalls.pure Tryz.func37 rfl (by kernel_rfl) (by simp) ?_
  repeat' first
    | (refine kOps ?_; first | (refine LOps.nil ?_) | (refine kStore ?_; refine LOps.storeP tT_ok rfl rfl rfl rfl rfl rfl rfl rfl rfl ?_) | (refine LOps.ev tT_ok rfl ?_) | (refine kAlloc ?_; refine LOps.alloc tT_ok rfl rfl rfl rfl ?_))
    | (refine kWL ?_; first | (refine WL.seq ?_) | (refine WL.region (by kernel_rfl) ?_) | (refine WL.ret ?_))
    | (refine lthen_n ?_)
    | (refine LPost.r1 (r := .cell 2 58) (.inl rfl) (Res1.cell tT_ok rfl rfl rfl rfl) ?_)
    | (refine PureR.mk ?_)
  rfl
set_option maxHeartbeats 8000000 in
theorem specl16Tokens_o (c : Cat) (hf : c.few) (s : S) : VCalls Tryz.prog 15 [c.toV] s (fun v t => Own2 (.sl 0 (tkV (tabsT 0 c.tables))) v t) := by
  have hh : Hold s s.next [] := .start _ _
  obtain ⟨ts⟩ := c
  obtain ⟨f1, f2⟩ := hf
  dsimp only at f1 f2 ⊢
  have hC := fun u => specl10Sign_v [44] u
  have hO := fun u => specl10Sign_v [40] u
  have hZ := fun u => specl10Sign_v [41] u
  refine LCalls.body Tryz.func15 rfl (by kernel_rfl) ?_
  repeat' first
    | (refine kBox ?_ ; first | (refine LOps.boxH hh rfl rfl ?_ ; intro s n hh))
    | (refine kOps ?_; first | (refine LOps.nil ?_) | (refine LOps.ev tT_ok rfl ?_) | (refine kBsl ?_; first | (refine LOps.bsl0 tT_ok rfl rfl rfl rfl rfl ?_)))
    | (refine kWL ?_; first | (refine WL.seq ?_) | (refine WL.region (by kernel_rfl) ?_) | (refine WL.block ?_))
    | (refine lthen_n ?_)
  rename Nat => cn
  refine WL.zfamH (t := 3) 3 rfl rfl hh (fun s id hh => ?_)
  refine WL.loopH (fun i : Nat => ts.length - i) (fun i => [(1, .ptr cn 0), (3, .sl id (tkV (tabsT 0 (ts.take i)))), (4, .int .i64 (i : Int))]) (fun i => [.acc id 3 (tkV (tabsT 0 (ts.take i))) (tkV (tabsT 0 (ts.take i))), .cell cn [.sl 0 (ts.map Tab.toV)]])
    (fun i => i ≤ ts.length) 0 (Nat.zero_le _) ⟨rfl, rfl, rfl, trivial⟩ hh (Sel.refl _) (fun i s hI hh => ?_)
  try dsimp only at hI hh ⊢
  rcases Nat.lt_or_ge i ts.length with hlt | hge
  · have hlt' : (i : Int) < (ts.length : Int) := by omega
    have hgt : (ts.map Tab.toV)[i]? = some ts[i].toV := by simp [hlt]
    have hst := tabsT_step hlt
    have hXl : (tabsT 0 (ts.take i)).length ≤ 64 := by
      have := tabsT_le (ts.take i) 0 fun t ht => f2 t (List.mem_of_mem_take ht)
      rw [List.length_take] at this
      omega
    have hcl := f2 ts[i] (List.getElem_mem hlt)
    generalize ts[i] = t at hgt hst hcl
    obtain ⟨nm, cs⟩ := t
    dsimp only at hcl
    have hN := fun u => specl10Name_v nm u
    have hmT : (ts.map Tab.toV).length = ts.length := List.length_map ..
    have hmC : (cs.map Col.toV).length = cs.length := List.length_map ..
    rcases Nat.eq_zero_or_pos i with h0 | h0
    · have h0' : ¬ (i : Int) > 0 := by omega
      have hcm : cmT i = [] := by rw [h0]; rfl
      generalize hX : tabsT 0 (ts.take i) = X at hh hXl hst ⊢
      have hBl : (tkV X).length ≤ 1048576 := by rw [List.length_map]; omega
      generalize hB : tkV X = B at hh hBl ⊢
      repeat' first
        | (refine kBsl ?_ ; refine' LOps.bslH tT_ok rfl rfl rfl rfl rfl rfl rfl rfl hh ?_ ?_ ?_ ; rotate_left 2 ; (focus ((repeat' first | (exact ConsL.pls rfl rfl)); done)) ; (focus ((repeat' first | (exact ElsH.of rfl)); done)) ; intro s n hh)
        | (refine kApp ?_ ; first | (refine' LOps.appH tT_ok 1 rfl rfl rfl rfl rfl rfl rfl rfl rfl rfl hh ?_ ?_ (AppB.of ?_ rfl) ?_ ; rotate_left 3 ; (focus (first | (refine' ConsSp.ap ?_; ((repeat' first | (exact Pick.here)); done)))) ; (focus ((repeat' first | (exact Elems.of rfl)); done)) ; (focus (first | omega | (simp ; omega))) ; intro s hh))
        | (refine kOps ?_; first | (refine LOps.nil ?_) | (refine LOps.ev tT_ok rfl ?_) | (refine kLoad ?_; first | (refine LOps.ans (AnsL.loadH tT_ok 1 hh rfl rfl rfl rfl) ?_)) | (refine kLen ?_; first | (refine LOps.ans (AnsL.lenM tT_ok rfl rfl rfl) ?_)) | (refine kIdx ?_; first | (refine LOps.ans (AnsL.idx tT_ok rfl rfl rfl rfl rfl hgt rfl rfl) ?_)) | (refine kCallN 36 ?_; first | (refine LOps.ans (AnsL.callP rfl rfl rfl (ok36) (hO _)) ?_)) | (refine kCallN 37 ?_; first | (refine LOps.ans (AnsL.callP rfl rfl rfl (ok37) (hN _)) ?_)))
        | (refine kWL ?_; first | (refine WL.seq ?_) | (refine WL.region (by kernel_rfl) ?_) | (refine WL.block ?_) | (refine WL.skip ?_) | (refine kCond ?_; first | (refine WL.condT' rfl ?_ ?_; (focus (first | (exact decide_eq_true (by assumption))))) | (refine WL.condF' rfl ?_ ?_; (focus (first | (exact decide_eq_false (by assumption)))))))
        | (refine lthen_n ?_)
      have e : B ++ [(nmTk nm).toV, (sgTk [40]).toV] = tkV (X ++ cmT i ++ [nmTk nm, sgTk [40]] ++ colsT 0 (cs.take 0)) := by
        rw [← hB, hcm]
        simp [colsT]
      have hh2 : Hold s s.next (.acc id 3 (B ++ [(nmTk nm).toV, (sgTk [40]).toV]) (B ++ [(nmTk nm).toV, (sgTk [40]).toV]) :: .cell cn [.sl 0 (ts.map Tab.toV)] :: []) := hh.sel (by (repeat' first | (exact Sel.nil) | (exact Sel.refl _) | (refine' Sel.p ?_ ?_; rotate_left 1; (focus (((repeat' first | (exact Pick.here) | (refine' Pick.there ?_)); done))))))
      rw [e] at hh2
      refine WL.loopH (fun k : Nat => cs.length - k) (fun k => [(1, .ptr cn 0), (3, .sl id (tkV (X ++ cmT i ++ [nmTk nm, sgTk [40]] ++ colsT 0 (cs.take k)))), (4, .int .i64 (i : Int)), (5, .int .i64 (k : Int))]) (fun k => [.acc id 3 (tkV (X ++ cmT i ++ [nmTk nm, sgTk [40]] ++ colsT 0 (cs.take k))) (tkV (X ++ cmT i ++ [nmTk nm, sgTk [40]] ++ colsT 0 (cs.take k))), .cell cn [.sl 0 (ts.map Tab.toV)]])
        (fun k => k ≤ cs.length) 0 (Nat.zero_le _) ⟨rfl, by rw [← e]; rfl, rfl, rfl, trivial⟩ hh2 (Sel.refl _) (fun k s hK hh => ?_)
      try dsimp only at hK hh ⊢
      have hYl : (tkV (X ++ cmT i ++ [nmTk nm, sgTk [40]] ++ colsT 0 (cs.take k))).length ≤ 1048576 := by
        have a1 := colsT_le (cs.take k) 0
        rw [List.length_take] at a1
        rw [List.length_map]
        simp only [List.length_append, List.length_cons, List.length_nil, hcm]
        omega
      rcases Nat.lt_or_ge k cs.length with hkt | hkg
      · have hkt' : (k : Int) < (cs.length : Int) := by omega
        have hgc : (cs.map Col.toV)[k]? = some cs[k].toV := by simp [hkt]
        have hsc := colsT_step hkt
        generalize cs[k] = col at hgc hsc
        obtain ⟨cnm, cty⟩ := col
        have hCN := fun u => specl10Name_v cnm u
        have hCT := fun u => specTypeText_v cty u
        have hCU := fun u => specl10Name_v (tySt cty) u
        rcases Nat.eq_zero_or_pos k with k0 | k0
        · have k0' : ¬ (k : Int) > 0 := by omega
          have hkm : cmT k = [] := by rw [k0]; rfl
          generalize hY : X ++ cmT i ++ [nmTk nm, sgTk [40]] ++ colsT 0 (cs.take k) = Y at hh hYl ⊢
          generalize hD : tkV Y = D at hh hYl ⊢
          repeat' first
            | (refine kApp ?_ ; first | (refine' LOps.appH tT_ok 0 rfl rfl rfl rfl rfl rfl rfl rfl rfl rfl hh ?_ ?_ (AppB.of ?_ rfl) ?_ ; rotate_left 3 ; (focus (first | (apply ConsSp.pl; (focus ((repeat' first | (exact ConsL.pls rfl rfl)); done))))) ; (focus ((repeat' first | (exact Elems.of rfl)); done)) ; (focus (first | omega | (simp ; omega))) ; intro s hh))
            | (refine kOps ?_; first | (refine LOps.nil ?_) | (refine LOps.ev tT_ok rfl ?_) | (refine kLoad ?_; first | (refine LOps.ans (AnsL.loadH tT_ok 1 hh rfl rfl rfl rfl) ?_)) | (refine kLen ?_; first | (refine LOps.ans (AnsL.lenM tT_ok rfl rfl rfl) ?_)) | (refine kBin ?_; first | (refine LOps.ans (AnsL.add rfl rfl ?_) ?_; (focus (constructor <;> omega)))) | (refine kIdx ?_; first | (refine LOps.ans (AnsL.idx tT_ok rfl rfl rfl rfl rfl hgt rfl rfl) ?_)) | (refine kCallN 37 ?_; first | (refine LOps.ans (AnsL.callP rfl rfl rfl (ok37) (hCN _)) ?_) | (refine LOps.ans (AnsL.callP rfl rfl rfl (ok37) (hCU _)) ?_)) | (refine kCallN 38 ?_; first | (refine LOps.ans (AnsL.callP rfl rfl rfl (ok38) (hCT _)) ?_)))
            | (refine kWL ?_; first | (refine WL.seq ?_) | (refine WL.region (by kernel_rfl) ?_) | (refine WL.drawn (id := 13) [0, 1, 2, 3, 4, 5, 6, 7, 8, 9, 10, 12, 13, 14, 15, 16, 17, 18, 19, 20, 21, 11, 22, 23, 24, 25, 26] [11, 22, 23, 25, 26] [[], [], [1], [], [1, 2, 3], [1, 2, 3, 4], [1, 2, 3, 4, 5], [], [1, 2, 3, 4, 5, 6, 7], [1, 2, 3, 4, 5, 6, 7, 8], [1, 2, 3, 4, 5, 6, 7, 8, 9], [1, 2, 3, 4, 5, 6, 7, 8, 9, 10], [], [12], [], [12, 13, 14], [12, 13, 14, 15], [12, 13, 14, 15, 16], [], [12, 13, 14, 15, 16, 17, 18], [12, 13, 14, 15, 16, 17, 18, 19], [12, 13, 14, 15, 16, 17, 18, 19, 20], [1, 2, 3, 4, 5, 6, 7, 8, 9, 10, 11, 12, 13, 14, 15, 16, 17, 18, 19, 20, 21], [1, 2, 3, 4, 5, 6, 7, 8, 9, 10, 11, 12, 13, 14, 15, 16, 17, 18, 19, 20, 21, 22], [1, 2, 3, 4, 5, 6, 7, 8, 9, 10, 11, 12, 13, 14, 15, 16, 17, 18, 19, 20, 21, 22, 23], [0, 1, 2, 3, 4, 5, 6, 7, 8, 9, 10, 11, 12, 13, 14, 15, 16, 17, 18, 19, 20, 21, 22, 23, 24], [0, 1, 2, 3, 4, 5, 6, 7, 8, 9, 10, 11, 12, 13, 14, 15, 16, 17, 18, 19, 20, 21, 22, 23, 24, 25]] (by kernel_rfl) (by kernel_rfl) ?_) | (refine WL.block ?_) | (refine WL.skip ?_) | (refine kCond ?_; first | (refine WL.condT' rfl ?_ ?_; (focus (first | (exact decide_eq_true (by assumption))))) | (refine WL.condF' rfl ?_ ?_; (focus (first | (exact decide_eq_false (by assumption)))))))
            | (refine kDr ?_; first | (refine LDr.nil ?_) | (refine LDr.fl rfl rfl (.ev tT_ok rfl) ?_) | (refine LDr.fl rfl rfl (AnsL.bslF tT_ok rfl rfl rfl rfl rfl rfl rfl rfl rfl) ?_) | (refine kDLoad rfl ?_; first | (refine LDr.fl rfl rfl (AnsL.loadH tT_ok 1 hh rfl rfl rfl rfl) ?_)) | (refine kDIdx rfl ?_; first | (refine LDr.fl rfl rfl (AnsL.idx tT_ok rfl rfl rfl rfl rfl hgt rfl rfl) ?_) | (refine LDr.fl rfl rfl (AnsL.idx tT_ok rfl rfl rfl rfl rfl hgc rfl rfl) ?_)) | (refine LDr.eff rfl rfl rfl ?_))
            | (refine lthen_n ?_)
            | (refine lblock_n ?_)
            | (refine And.intro ?_ ?_)
            | (exact StsL.nil)
            | (refine StsL.cons ?_ ?_)
            | (refine StL.fl rfl rfl (.ev tT_ok rfl))
            | (refine StL.fl rfl rfl (AnsL.loadH tT_ok 1 hh rfl rfl rfl rfl))
            | (refine StL.fl rfl rfl (AnsL.idx tT_ok rfl rfl rfl rfl rfl hgt rfl rfl))
            | (refine StL.fl rfl rfl (AnsL.idx tT_ok rfl rfl rfl rfl rfl hgc rfl rfl))
          have e2 : D ++ [(nmTk cnm).toV, (nmTk (tySt cty)).toV] = tkV (X ++ cmT i ++ [nmTk nm, sgTk [40]] ++ colsT 0 (cs.take (k + 1))) := by
            rw [hsc, ← hD, ← hY]
            simp [colT, hkm]
          have hh2 : Hold s s.next (.acc id 3 (D ++ [(nmTk cnm).toV, (nmTk (tySt cty)).toV]) (D ++ [(nmTk cnm).toV, (nmTk (tySt cty)).toV]) :: .cell cn [.sl 0 (ts.map Tab.toV)] :: []) := hh.sel (by (repeat' first | (exact Sel.nil) | (exact Sel.refl _) | (refine' Sel.p ?_ ?_; rotate_left 1; (focus (((repeat' first | (exact Pick.here) | (refine' Pick.there ?_)); done))))))
          rw [e2] at hh2
          exact lbackH.of (k + 1) ⟨rfl, by rw [← e2]; rfl, rfl, rfl, trivial⟩ hh2 (Sel.refl _) hkt (by omega)
        · have k0' : (k : Int) > 0 := by omega
          have hkm : cmT k = [sgTk [44]] := by
            cases k with
            | zero => omega
            | succ n => rfl
          generalize hY : X ++ cmT i ++ [nmTk nm, sgTk [40]] ++ colsT 0 (cs.take k) = Y at hh hYl ⊢
          generalize hD : tkV Y = D at hh hYl ⊢
          repeat' first
            | (refine kBsl ?_ ; refine' LOps.bslH tT_ok rfl rfl rfl rfl rfl rfl rfl rfl hh ?_ ?_ ?_ ; rotate_left 2 ; (focus ((repeat' first | (exact ConsL.pls rfl rfl)); done)) ; (focus ((repeat' first | (exact ElsH.of rfl)); done)) ; intro s n hh)
            | (refine kApp ?_ ; first | (refine' LOps.appH tT_ok 0 rfl rfl rfl rfl rfl rfl rfl rfl rfl rfl hh ?_ ?_ (AppB.of ?_ rfl) ?_ ; rotate_left 3 ; (focus (first | (apply ConsSp.pl; (focus ((repeat' first | (exact ConsL.pls rfl rfl)); done))))) ; (focus ((repeat' first | (exact Elems.of rfl)); done)) ; (focus (first | omega | (simp ; omega))) ; intro s hh) | (refine' LOps.appH tT_ok 1 rfl rfl rfl rfl rfl rfl rfl rfl rfl rfl hh ?_ ?_ (AppB.of ?_ rfl) ?_ ; rotate_left 3 ; (focus (first | (refine' ConsSp.ap ?_; ((repeat' first | (exact Pick.here)); done)))) ; (focus ((repeat' first | (exact Elems.of rfl)); done)) ; (focus (first | omega | (simp ; omega))) ; intro s hh))
            | (refine kOps ?_; first | (refine LOps.nil ?_) | (refine LOps.ev tT_ok rfl ?_) | (refine kLoad ?_; first | (refine LOps.ans (AnsL.loadH tT_ok 1 hh rfl rfl rfl rfl) ?_)) | (refine kLen ?_; first | (refine LOps.ans (AnsL.lenM tT_ok rfl rfl rfl) ?_)) | (refine kBin ?_; first | (refine LOps.ans (AnsL.add rfl rfl ?_) ?_; (focus (constructor <;> omega)))) | (refine kIdx ?_; first | (refine LOps.ans (AnsL.idx tT_ok rfl rfl rfl rfl rfl hgt rfl rfl) ?_)) | (refine kCallN 36 ?_; first | (refine LOps.ans (AnsL.callP rfl rfl rfl (ok36) (hC _)) ?_)) | (refine kCallN 37 ?_; first | (refine LOps.ans (AnsL.callP rfl rfl rfl (ok37) (hCN _)) ?_) | (refine LOps.ans (AnsL.callP rfl rfl rfl (ok37) (hCU _)) ?_)) | (refine kCallN 38 ?_; first | (refine LOps.ans (AnsL.callP rfl rfl rfl (ok38) (hCT _)) ?_)))
            | (refine kWL ?_; first | (refine WL.seq ?_) | (refine WL.region (by kernel_rfl) ?_) | (refine WL.drawn (id := 13) [0, 1, 2, 3, 4, 5, 6, 7, 8, 9, 10, 12, 13, 14, 15, 16, 17, 18, 19, 20, 21, 11, 22, 23, 24, 25, 26] [11, 22, 23, 25, 26] [[], [], [1], [], [1, 2, 3], [1, 2, 3, 4], [1, 2, 3, 4, 5], [], [1, 2, 3, 4, 5, 6, 7], [1, 2, 3, 4, 5, 6, 7, 8], [1, 2, 3, 4, 5, 6, 7, 8, 9], [1, 2, 3, 4, 5, 6, 7, 8, 9, 10], [], [12], [], [12, 13, 14], [12, 13, 14, 15], [12, 13, 14, 15, 16], [], [12, 13, 14, 15, 16, 17, 18], [12, 13, 14, 15, 16, 17, 18, 19], [12, 13, 14, 15, 16, 17, 18, 19, 20], [1, 2, 3, 4, 5, 6, 7, 8, 9, 10, 11, 12, 13, 14, 15, 16, 17, 18, 19, 20, 21], [1, 2, 3, 4, 5, 6, 7, 8, 9, 10, 11, 12, 13, 14, 15, 16, 17, 18, 19, 20, 21, 22], [1, 2, 3, 4, 5, 6, 7, 8, 9, 10, 11, 12, 13, 14, 15, 16, 17, 18, 19, 20, 21, 22, 23], [0, 1, 2, 3, 4, 5, 6, 7, 8, 9, 10, 11, 12, 13, 14, 15, 16, 17, 18, 19, 20, 21, 22, 23, 24], [0, 1, 2, 3, 4, 5, 6, 7, 8, 9, 10, 11, 12, 13, 14, 15, 16, 17, 18, 19, 20, 21, 22, 23, 24, 25]] (by kernel_rfl) (by kernel_rfl) ?_) | (refine WL.block ?_) | (refine WL.skip ?_) | (refine kCond ?_; first | (refine WL.condT' rfl ?_ ?_; (focus (first | (exact decide_eq_true (by assumption)))))))
            | (refine kDr ?_; first | (refine LDr.nil ?_) | (refine LDr.fl rfl rfl (.ev tT_ok rfl) ?_) | (refine LDr.fl rfl rfl (AnsL.bslF tT_ok rfl rfl rfl rfl rfl rfl rfl rfl rfl) ?_) | (refine kDLoad rfl ?_; first | (refine LDr.fl rfl rfl (AnsL.loadH tT_ok 1 hh rfl rfl rfl rfl) ?_)) | (refine kDIdx rfl ?_; first | (refine LDr.fl rfl rfl (AnsL.idx tT_ok rfl rfl rfl rfl rfl hgt rfl rfl) ?_) | (refine LDr.fl rfl rfl (AnsL.idx tT_ok rfl rfl rfl rfl rfl hgc rfl rfl) ?_)) | (refine LDr.eff rfl rfl rfl ?_))
            | (refine lthen_n ?_)
            | (refine lblock_n ?_)
            | (refine And.intro ?_ ?_)
            | (exact StsL.nil)
            | (refine StsL.cons ?_ ?_)
            | (refine StL.fl rfl rfl (.ev tT_ok rfl))
            | (refine StL.fl rfl rfl (AnsL.loadH tT_ok 1 hh rfl rfl rfl rfl))
            | (refine StL.fl rfl rfl (AnsL.idx tT_ok rfl rfl rfl rfl rfl hgt rfl rfl))
            | (refine StL.fl rfl rfl (AnsL.idx tT_ok rfl rfl rfl rfl rfl hgc rfl rfl))
          have e2 : D ++ [(sgTk [44]).toV] ++ [(nmTk cnm).toV, (nmTk (tySt cty)).toV] = tkV (X ++ cmT i ++ [nmTk nm, sgTk [40]] ++ colsT 0 (cs.take (k + 1))) := by
            rw [hsc, ← hD, ← hY]
            simp [colT, hkm]
          have hh2 : Hold s s.next (.acc id 3 (D ++ [(sgTk [44]).toV] ++ [(nmTk cnm).toV, (nmTk (tySt cty)).toV]) (D ++ [(sgTk [44]).toV] ++ [(nmTk cnm).toV, (nmTk (tySt cty)).toV]) :: .cell cn [.sl 0 (ts.map Tab.toV)] :: []) := hh.sel (by (repeat' first | (exact Sel.nil) | (exact Sel.refl _) | (refine' Sel.p ?_ ?_; rotate_left 1; (focus (((repeat' first | (exact Pick.here) | (refine' Pick.there ?_)); done))))))
          rw [e2] at hh2
          exact lbackH.of (k + 1) ⟨rfl, by rw [← e2]; rfl, rfl, rfl, trivial⟩ hh2 (Sel.refl _) hkt (by omega)
      · have hkg' : ¬ (k : Int) < (cs.length : Int) := by omega
        have ek : cs.take k = cs := List.take_of_length_le hkg
        generalize hY : X ++ cmT i ++ [nmTk nm, sgTk [40]] ++ colsT 0 (cs.take k) = Y at hh hYl ⊢
        generalize hD : tkV Y = D at hh hYl ⊢
        repeat' first
          | (refine kBsl ?_ ; refine' LOps.bslH tT_ok rfl rfl rfl rfl rfl rfl rfl rfl hh ?_ ?_ ?_ ; rotate_left 2 ; (focus ((repeat' first | (exact ConsL.pls rfl rfl)); done)) ; (focus ((repeat' first | (exact ElsH.of rfl)); done)) ; intro s n hh)
          | (refine kApp ?_ ; first | (refine' LOps.appH tT_ok 1 rfl rfl rfl rfl rfl rfl rfl rfl rfl rfl hh ?_ ?_ (AppB.of ?_ rfl) ?_ ; rotate_left 3 ; (focus (first | (refine' ConsSp.ap ?_; ((repeat' first | (exact Pick.here)); done)))) ; (focus ((repeat' first | (exact Elems.of rfl)); done)) ; (focus (first | omega | (simp ; omega))) ; intro s hh))
          | (refine kOps ?_; first | (refine LOps.nil ?_) | (refine LOps.ev tT_ok rfl ?_) | (refine kLoad ?_; first | (refine LOps.ans (AnsL.loadH tT_ok 1 hh rfl rfl rfl rfl) ?_)) | (refine kLen ?_; first | (refine LOps.ans (AnsL.lenM tT_ok rfl rfl rfl) ?_)) | (refine kBin ?_; first | (refine LOps.ans (AnsL.add rfl rfl ?_) ?_; (focus (constructor <;> omega)))) | (refine kIdx ?_; first | (refine LOps.ans (AnsL.idx tT_ok rfl rfl rfl rfl rfl hgt rfl rfl) ?_)) | (refine kCallN 36 ?_; first | (refine LOps.ans (AnsL.callP rfl rfl rfl (ok36) (hZ _)) ?_)))
          | (refine kWL ?_; first | (refine WL.seq ?_) | (refine WL.region (by kernel_rfl) ?_) | (refine WL.exit ?_) | (refine kCond ?_; first | (refine WL.condF' rfl ?_ ?_; (focus (first | (exact decide_eq_false (by assumption)))))))
          | (refine lthen_n ?_)
          | (refine lthen_e ?_)
          | (refine lblock_n ?_)
          | (refine lblock_e ?_)
          | (refine lbackH_e ?_)
        have e2 : D ++ [(sgTk [41]).toV] = tkV (tabsT 0 (ts.take (i + 1))) := by
          rw [hst, ← hD, ← hY, ek]
          simp [tabT]
        have hh2 : Hold s s.next (.acc id 3 (D ++ [(sgTk [41]).toV]) (D ++ [(sgTk [41]).toV]) :: .cell cn [.sl 0 (ts.map Tab.toV)] :: []) := hh.sel (by (repeat' first | (exact Sel.nil) | (exact Sel.refl _) | (refine' Sel.p ?_ ?_; rotate_left 1; (focus (((repeat' first | (exact Pick.here) | (refine' Pick.there ?_)); done))))))
        rw [e2] at hh2
        exact lbackH.of (i + 1) ⟨rfl, by rw [← e2]; rfl, rfl, trivial⟩ hh2 (Sel.refl _) hlt (by omega)
    · have h0' : (i : Int) > 0 := by omega
      have hcm : cmT i = [sgTk [44]] := by
        cases i with
        | zero => omega
        | succ n => rfl
      generalize hX : tabsT 0 (ts.take i) = X at hh hXl hst ⊢
      have hBl : (tkV X).length ≤ 1048576 := by rw [List.length_map]; omega
      generalize hB : tkV X = B at hh hBl ⊢
      repeat' first
        | (refine kBsl ?_ ; refine' LOps.bslH tT_ok rfl rfl rfl rfl rfl rfl rfl rfl hh ?_ ?_ ?_ ; rotate_left 2 ; (focus ((repeat' first | (exact ConsL.pls rfl rfl)); done)) ; (focus ((repeat' first | (exact ElsH.of rfl)); done)) ; intro s n hh)
        | (refine kApp ?_ ; first | (refine' LOps.appH tT_ok 1 rfl rfl rfl rfl rfl rfl rfl rfl rfl rfl hh ?_ ?_ (AppB.of ?_ rfl) ?_ ; rotate_left 3 ; (focus (first | (refine' ConsSp.ap ?_; ((repeat' first | (exact Pick.here)); done)))) ; (focus ((repeat' first | (exact Elems.of rfl)); done)) ; (focus (first | omega | (simp ; omega))) ; intro s hh))
        | (refine kOps ?_; first | (refine LOps.nil ?_) | (refine LOps.ev tT_ok rfl ?_) | (refine kLoad ?_; first | (refine LOps.ans (AnsL.loadH tT_ok 1 hh rfl rfl rfl rfl) ?_)) | (refine kLen ?_; first | (refine LOps.ans (AnsL.lenM tT_ok rfl rfl rfl) ?_)) | (refine kIdx ?_; first | (refine LOps.ans (AnsL.idx tT_ok rfl rfl rfl rfl rfl hgt rfl rfl) ?_)) | (refine kCallN 36 ?_; first | (refine LOps.ans (AnsL.callP rfl rfl rfl (ok36) (hC _)) ?_) | (refine LOps.ans (AnsL.callP rfl rfl rfl (ok36) (hO _)) ?_)) | (refine kCallN 37 ?_; first | (refine LOps.ans (AnsL.callP rfl rfl rfl (ok37) (hN _)) ?_)))
        | (refine kWL ?_; first | (refine WL.seq ?_) | (refine WL.region (by kernel_rfl) ?_) | (refine WL.block ?_) | (refine WL.skip ?_) | (refine kCond ?_; first | (refine WL.condT' rfl ?_ ?_; (focus (first | (exact decide_eq_true (by assumption)))))))
        | (refine lthen_n ?_)
      have e : B ++ [(sgTk [44]).toV] ++ [(nmTk nm).toV, (sgTk [40]).toV] = tkV (X ++ cmT i ++ [nmTk nm, sgTk [40]] ++ colsT 0 (cs.take 0)) := by
        rw [← hB, hcm]
        simp [colsT]
      have hh2 : Hold s s.next (.acc id 3 (B ++ [(sgTk [44]).toV] ++ [(nmTk nm).toV, (sgTk [40]).toV]) (B ++ [(sgTk [44]).toV] ++ [(nmTk nm).toV, (sgTk [40]).toV]) :: .cell cn [.sl 0 (ts.map Tab.toV)] :: []) := hh.sel (by (repeat' first | (exact Sel.nil) | (exact Sel.refl _) | (refine' Sel.p ?_ ?_; rotate_left 1; (focus (((repeat' first | (exact Pick.here) | (refine' Pick.there ?_)); done))))))
      rw [e] at hh2
      refine WL.loopH (fun k : Nat => cs.length - k) (fun k => [(1, .ptr cn 0), (3, .sl id (tkV (X ++ cmT i ++ [nmTk nm, sgTk [40]] ++ colsT 0 (cs.take k)))), (4, .int .i64 (i : Int)), (5, .int .i64 (k : Int))]) (fun k => [.acc id 3 (tkV (X ++ cmT i ++ [nmTk nm, sgTk [40]] ++ colsT 0 (cs.take k))) (tkV (X ++ cmT i ++ [nmTk nm, sgTk [40]] ++ colsT 0 (cs.take k))), .cell cn [.sl 0 (ts.map Tab.toV)]])
        (fun k => k ≤ cs.length) 0 (Nat.zero_le _) ⟨rfl, by rw [← e]; rfl, rfl, rfl, trivial⟩ hh2 (Sel.refl _) (fun k s hK hh => ?_)
      try dsimp only at hK hh ⊢
      have hYl : (tkV (X ++ cmT i ++ [nmTk nm, sgTk [40]] ++ colsT 0 (cs.take k))).length ≤ 1048576 := by
        have a1 := colsT_le (cs.take k) 0
        rw [List.length_take] at a1
        rw [List.length_map]
        simp only [List.length_append, List.length_cons, List.length_nil, hcm]
        omega
      rcases Nat.lt_or_ge k cs.length with hkt | hkg
      · have hkt' : (k : Int) < (cs.length : Int) := by omega
        have hgc : (cs.map Col.toV)[k]? = some cs[k].toV := by simp [hkt]
        have hsc := colsT_step hkt
        generalize cs[k] = col at hgc hsc
        obtain ⟨cnm, cty⟩ := col
        have hCN := fun u => specl10Name_v cnm u
        have hCT := fun u => specTypeText_v cty u
        have hCU := fun u => specl10Name_v (tySt cty) u
        rcases Nat.eq_zero_or_pos k with k0 | k0
        · have k0' : ¬ (k : Int) > 0 := by omega
          have hkm : cmT k = [] := by rw [k0]; rfl
          generalize hY : X ++ cmT i ++ [nmTk nm, sgTk [40]] ++ colsT 0 (cs.take k) = Y at hh hYl ⊢
          generalize hD : tkV Y = D at hh hYl ⊢
          repeat' first
            | (refine kApp ?_ ; first | (refine' LOps.appH tT_ok 0 rfl rfl rfl rfl rfl rfl rfl rfl rfl rfl hh ?_ ?_ (AppB.of ?_ rfl) ?_ ; rotate_left 3 ; (focus (first | (apply ConsSp.pl; (focus ((repeat' first | (exact ConsL.pls rfl rfl)); done))))) ; (focus ((repeat' first | (exact Elems.of rfl)); done)) ; (focus (first | omega | (simp ; omega))) ; intro s hh))
            | (refine kOps ?_; first | (refine LOps.nil ?_) | (refine LOps.ev tT_ok rfl ?_) | (refine kLoad ?_; first | (refine LOps.ans (AnsL.loadH tT_ok 1 hh rfl rfl rfl rfl) ?_)) | (refine kLen ?_; first | (refine LOps.ans (AnsL.lenM tT_ok rfl rfl rfl) ?_)) | (refine kBin ?_; first | (refine LOps.ans (AnsL.add rfl rfl ?_) ?_; (focus (constructor <;> omega)))) | (refine kIdx ?_; first | (refine LOps.ans (AnsL.idx tT_ok rfl rfl rfl rfl rfl hgt rfl rfl) ?_)) | (refine kCallN 37 ?_; first | (refine LOps.ans (AnsL.callP rfl rfl rfl (ok37) (hCN _)) ?_) | (refine LOps.ans (AnsL.callP rfl rfl rfl (ok37) (hCU _)) ?_)) | (refine kCallN 38 ?_; first | (refine LOps.ans (AnsL.callP rfl rfl rfl (ok38) (hCT _)) ?_)))
            | (refine kWL ?_; first | (refine WL.seq ?_) | (refine WL.region (by kernel_rfl) ?_) | (refine WL.drawn (id := 13) [0, 1, 2, 3, 4, 5, 6, 7, 8, 9, 10, 12, 13, 14, 15, 16, 17, 18, 19, 20, 21, 11, 22, 23, 24, 25, 26] [11, 22, 23, 25, 26] [[], [], [1], [], [1, 2, 3], [1, 2, 3, 4], [1, 2, 3, 4, 5], [], [1, 2, 3, 4, 5, 6, 7], [1, 2, 3, 4, 5, 6, 7, 8], [1, 2, 3, 4, 5, 6, 7, 8, 9], [1, 2, 3, 4, 5, 6, 7, 8, 9, 10], [], [12], [], [12, 13, 14], [12, 13, 14, 15], [12, 13, 14, 15, 16], [], [12, 13, 14, 15, 16, 17, 18], [12, 13, 14, 15, 16, 17, 18, 19], [12, 13, 14, 15, 16, 17, 18, 19, 20], [1, 2, 3, 4, 5, 6, 7, 8, 9, 10, 11, 12, 13, 14, 15, 16, 17, 18, 19, 20, 21], [1, 2, 3, 4, 5, 6, 7, 8, 9, 10, 11, 12, 13, 14, 15, 16, 17, 18, 19, 20, 21, 22], [1, 2, 3, 4, 5, 6, 7, 8, 9, 10, 11, 12, 13, 14, 15, 16, 17, 18, 19, 20, 21, 22, 23], [0, 1, 2, 3, 4, 5, 6, 7, 8, 9, 10, 11, 12, 13, 14, 15, 16, 17, 18, 19, 20, 21, 22, 23, 24], [0, 1, 2, 3, 4, 5, 6, 7, 8, 9, 10, 11, 12, 13, 14, 15, 16, 17, 18, 19, 20, 21, 22, 23, 24, 25]] (by kernel_rfl) (by kernel_rfl) ?_) | (refine WL.block ?_) | (refine WL.skip ?_) | (refine kCond ?_; first | (refine WL.condT' rfl ?_ ?_; (focus (first | (exact decide_eq_true (by assumption))))) | (refine WL.condF' rfl ?_ ?_; (focus (first | (exact decide_eq_false (by assumption)))))))
            | (refine kDr ?_; first | (refine LDr.nil ?_) | (refine LDr.fl rfl rfl (.ev tT_ok rfl) ?_) | (refine LDr.fl rfl rfl (AnsL.bslF tT_ok rfl rfl rfl rfl rfl rfl rfl rfl rfl) ?_) | (refine kDLoad rfl ?_; first | (refine LDr.fl rfl rfl (AnsL.loadH tT_ok 1 hh rfl rfl rfl rfl) ?_)) | (refine kDIdx rfl ?_; first | (refine LDr.fl rfl rfl (AnsL.idx tT_ok rfl rfl rfl rfl rfl hgt rfl rfl) ?_) | (refine LDr.fl rfl rfl (AnsL.idx tT_ok rfl rfl rfl rfl rfl hgc rfl rfl) ?_)) | (refine LDr.eff rfl rfl rfl ?_))
            | (refine lthen_n ?_)
            | (refine lblock_n ?_)
            | (refine And.intro ?_ ?_)
            | (exact StsL.nil)
            | (refine StsL.cons ?_ ?_)
            | (refine StL.fl rfl rfl (.ev tT_ok rfl))
            | (refine StL.fl rfl rfl (AnsL.loadH tT_ok 1 hh rfl rfl rfl rfl))
            | (refine StL.fl rfl rfl (AnsL.idx tT_ok rfl rfl rfl rfl rfl hgt rfl rfl))
            | (refine StL.fl rfl rfl (AnsL.idx tT_ok rfl rfl rfl rfl rfl hgc rfl rfl))
          have e2 : D ++ [(nmTk cnm).toV, (nmTk (tySt cty)).toV] = tkV (X ++ cmT i ++ [nmTk nm, sgTk [40]] ++ colsT 0 (cs.take (k + 1))) := by
            rw [hsc, ← hD, ← hY]
            simp [colT, hkm]
          have hh2 : Hold s s.next (.acc id 3 (D ++ [(nmTk cnm).toV, (nmTk (tySt cty)).toV]) (D ++ [(nmTk cnm).toV, (nmTk (tySt cty)).toV]) :: .cell cn [.sl 0 (ts.map Tab.toV)] :: []) := hh.sel (by (repeat' first | (exact Sel.nil) | (exact Sel.refl _) | (refine' Sel.p ?_ ?_; rotate_left 1; (focus (((repeat' first | (exact Pick.here) | (refine' Pick.there ?_)); done))))))
          rw [e2] at hh2
          exact lbackH.of (k + 1) ⟨rfl, by rw [← e2]; rfl, rfl, rfl, trivial⟩ hh2 (Sel.refl _) hkt (by omega)
        · have k0' : (k : Int) > 0 := by omega
          have hkm : cmT k = [sgTk [44]] := by
            cases k with
            | zero => omega
            | succ n => rfl
          generalize hY : X ++ cmT i ++ [nmTk nm, sgTk [40]] ++ colsT 0 (cs.take k) = Y at hh hYl ⊢
          generalize hD : tkV Y = D at hh hYl ⊢
          repeat' first
            | (refine kBsl ?_ ; refine' LOps.bslH tT_ok rfl rfl rfl rfl rfl rfl rfl rfl hh ?_ ?_ ?_ ; rotate_left 2 ; (focus ((repeat' first | (exact ConsL.pls rfl rfl)); done)) ; (focus ((repeat' first | (exact ElsH.of rfl)); done)) ; intro s n hh)
            | (refine kApp ?_ ; first | (refine' LOps.appH tT_ok 0 rfl rfl rfl rfl rfl rfl rfl rfl rfl rfl hh ?_ ?_ (AppB.of ?_ rfl) ?_ ; rotate_left 3 ; (focus (first | (apply ConsSp.pl; (focus ((repeat' first | (exact ConsL.pls rfl rfl)); done))))) ; (focus ((repeat' first | (exact Elems.of rfl)); done)) ; (focus (first | omega | (simp ; omega))) ; intro s hh) | (refine' LOps.appH tT_ok 1 rfl rfl rfl rfl rfl rfl rfl rfl rfl rfl hh ?_ ?_ (AppB.of ?_ rfl) ?_ ; rotate_left 3 ; (focus (first | (refine' ConsSp.ap ?_; ((repeat' first | (exact Pick.here)); done)))) ; (focus ((repeat' first | (exact Elems.of rfl)); done)) ; (focus (first | omega | (simp ; omega))) ; intro s hh))
            | (refine kOps ?_; first | (refine LOps.nil ?_) | (refine LOps.ev tT_ok rfl ?_) | (refine kLoad ?_; first | (refine LOps.ans (AnsL.loadH tT_ok 1 hh rfl rfl rfl rfl) ?_)) | (refine kLen ?_; first | (refine LOps.ans (AnsL.lenM tT_ok rfl rfl rfl) ?_)) | (refine kBin ?_; first | (refine LOps.ans (AnsL.add rfl rfl ?_) ?_; (focus (constructor <;> omega)))) | (refine kIdx ?_; first | (refine LOps.ans (AnsL.idx tT_ok rfl rfl rfl rfl rfl hgt rfl rfl) ?_)) | (refine kCallN 36 ?_; first | (refine LOps.ans (AnsL.callP rfl rfl rfl (ok36) (hC _)) ?_)) | (refine kCallN 37 ?_; first | (refine LOps.ans (AnsL.callP rfl rfl rfl (ok37) (hCN _)) ?_) | (refine LOps.ans (AnsL.callP rfl rfl rfl (ok37) (hCU _)) ?_)) | (refine kCallN 38 ?_; first | (refine LOps.ans (AnsL.callP rfl rfl rfl (ok38) (hCT _)) ?_)))
            | (refine kWL ?_; first | (refine WL.seq ?_) | (refine WL.region (by kernel_rfl) ?_) | (refine WL.drawn (id := 13) [0, 1, 2, 3, 4, 5, 6, 7, 8, 9, 10, 12, 13, 14, 15, 16, 17, 18, 19, 20, 21, 11, 22, 23, 24, 25, 26] [11, 22, 23, 25, 26] [[], [], [1], [], [1, 2, 3], [1, 2, 3, 4], [1, 2, 3, 4, 5], [], [1, 2, 3, 4, 5, 6, 7], [1, 2, 3, 4, 5, 6, 7, 8], [1, 2, 3, 4, 5, 6, 7, 8, 9], [1, 2, 3, 4, 5, 6, 7, 8, 9, 10], [], [12], [], [12, 13, 14], [12, 13, 14, 15], [12, 13, 14, 15, 16], [], [12, 13, 14, 15, 16, 17, 18], [12, 13, 14, 15, 16, 17, 18, 19], [12, 13, 14, 15, 16, 17, 18, 19, 20], [1, 2, 3, 4, 5, 6, 7, 8, 9, 10, 11, 12, 13, 14, 15, 16, 17, 18, 19, 20, 21], [1, 2, 3, 4, 5, 6, 7, 8, 9, 10, 11, 12, 13, 14, 15, 16, 17, 18, 19, 20, 21, 22], [1, 2, 3, 4, 5, 6, 7, 8, 9, 10, 11, 12, 13, 14, 15, 16, 17, 18, 19, 20, 21, 22, 23], [0, 1, 2, 3, 4, 5, 6, 7, 8, 9, 10, 11, 12, 13, 14, 15, 16, 17, 18, 19, 20, 21, 22, 23, 24], [0, 1, 2, 3, 4, 5, 6, 7, 8, 9, 10, 11, 12, 13, 14, 15, 16, 17, 18, 19, 20, 21, 22, 23, 24, 25]] (by kernel_rfl) (by kernel_rfl) ?_) | (refine WL.block ?_) | (refine WL.skip ?_) | (refine kCond ?_; first | (refine WL.condT' rfl ?_ ?_; (focus (first | (exact decide_eq_true (by assumption)))))))
            | (refine kDr ?_; first | (refine LDr.nil ?_) | (refine LDr.fl rfl rfl (.ev tT_ok rfl) ?_) | (refine LDr.fl rfl rfl (AnsL.bslF tT_ok rfl rfl rfl rfl rfl rfl rfl rfl rfl) ?_) | (refine kDLoad rfl ?_; first | (refine LDr.fl rfl rfl (AnsL.loadH tT_ok 1 hh rfl rfl rfl rfl) ?_)) | (refine kDIdx rfl ?_; first | (refine LDr.fl rfl rfl (AnsL.idx tT_ok rfl rfl rfl rfl rfl hgt rfl rfl) ?_) | (refine LDr.fl rfl rfl (AnsL.idx tT_ok rfl rfl rfl rfl rfl hgc rfl rfl) ?_)) | (refine LDr.eff rfl rfl rfl ?_))
            | (refine lthen_n ?_)
            | (refine lblock_n ?_)
            | (refine And.intro ?_ ?_)
            | (exact StsL.nil)
            | (refine StsL.cons ?_ ?_)
            | (refine StL.fl rfl rfl (.ev tT_ok rfl))
            | (refine StL.fl rfl rfl (AnsL.loadH tT_ok 1 hh rfl rfl rfl rfl))
            | (refine StL.fl rfl rfl (AnsL.idx tT_ok rfl rfl rfl rfl rfl hgt rfl rfl))
            | (refine StL.fl rfl rfl (AnsL.idx tT_ok rfl rfl rfl rfl rfl hgc rfl rfl))
          have e2 : D ++ [(sgTk [44]).toV] ++ [(nmTk cnm).toV, (nmTk (tySt cty)).toV] = tkV (X ++ cmT i ++ [nmTk nm, sgTk [40]] ++ colsT 0 (cs.take (k + 1))) := by
            rw [hsc, ← hD, ← hY]
            simp [colT, hkm]
          have hh2 : Hold s s.next (.acc id 3 (D ++ [(sgTk [44]).toV] ++ [(nmTk cnm).toV, (nmTk (tySt cty)).toV]) (D ++ [(sgTk [44]).toV] ++ [(nmTk cnm).toV, (nmTk (tySt cty)).toV]) :: .cell cn [.sl 0 (ts.map Tab.toV)] :: []) := hh.sel (by (repeat' first | (exact Sel.nil) | (exact Sel.refl _) | (refine' Sel.p ?_ ?_; rotate_left 1; (focus (((repeat' first | (exact Pick.here) | (refine' Pick.there ?_)); done))))))
          rw [e2] at hh2
          exact lbackH.of (k + 1) ⟨rfl, by rw [← e2]; rfl, rfl, rfl, trivial⟩ hh2 (Sel.refl _) hkt (by omega)
      · have hkg' : ¬ (k : Int) < (cs.length : Int) := by omega
        have ek : cs.take k = cs := List.take_of_length_le hkg
        generalize hY : X ++ cmT i ++ [nmTk nm, sgTk [40]] ++ colsT 0 (cs.take k) = Y at hh hYl ⊢
        generalize hD : tkV Y = D at hh hYl ⊢
        repeat' first
          | (refine kBsl ?_ ; refine' LOps.bslH tT_ok rfl rfl rfl rfl rfl rfl rfl rfl hh ?_ ?_ ?_ ; rotate_left 2 ; (focus ((repeat' first | (exact ConsL.pls rfl rfl)); done)) ; (focus ((repeat' first | (exact ElsH.of rfl)); done)) ; intro s n hh)
          | (refine kApp ?_ ; first | (refine' LOps.appH tT_ok 1 rfl rfl rfl rfl rfl rfl rfl rfl rfl rfl hh ?_ ?_ (AppB.of ?_ rfl) ?_ ; rotate_left 3 ; (focus (first | (refine' ConsSp.ap ?_; ((repeat' first | (exact Pick.here)); done)))) ; (focus ((repeat' first | (exact Elems.of rfl)); done)) ; (focus (first | omega | (simp ; omega))) ; intro s hh))
          | (refine kOps ?_; first | (refine LOps.nil ?_) | (refine LOps.ev tT_ok rfl ?_) | (refine kLoad ?_; first | (refine LOps.ans (AnsL.loadH tT_ok 1 hh rfl rfl rfl rfl) ?_)) | (refine kLen ?_; first | (refine LOps.ans (AnsL.lenM tT_ok rfl rfl rfl) ?_)) | (refine kBin ?_; first | (refine LOps.ans (AnsL.add rfl rfl ?_) ?_; (focus (constructor <;> omega)))) | (refine kIdx ?_; first | (refine LOps.ans (AnsL.idx tT_ok rfl rfl rfl rfl rfl hgt rfl rfl) ?_)) | (refine kCallN 36 ?_; first | (refine LOps.ans (AnsL.callP rfl rfl rfl (ok36) (hZ _)) ?_)))
          | (refine kWL ?_; first | (refine WL.seq ?_) | (refine WL.region (by kernel_rfl) ?_) | (refine WL.exit ?_) | (refine kCond ?_; first | (refine WL.condF' rfl ?_ ?_; (focus (first | (exact decide_eq_false (by assumption)))))))
          | (refine lthen_n ?_)
          | (refine lthen_e ?_)
          | (refine lblock_n ?_)
          | (refine lblock_e ?_)
          | (refine lbackH_e ?_)
        have e2 : D ++ [(sgTk [41]).toV] = tkV (tabsT 0 (ts.take (i + 1))) := by
          rw [hst, ← hD, ← hY, ek]
          simp [tabT]
        have hh2 : Hold s s.next (.acc id 3 (D ++ [(sgTk [41]).toV]) (D ++ [(sgTk [41]).toV]) :: .cell cn [.sl 0 (ts.map Tab.toV)] :: []) := hh.sel (by (repeat' first | (exact Sel.nil) | (exact Sel.refl _) | (refine' Sel.p ?_ ?_; rotate_left 1; (focus (((repeat' first | (exact Pick.here) | (refine' Pick.there ?_)); done))))))
        rw [e2] at hh2
        exact lbackH.of (i + 1) ⟨rfl, by rw [← e2]; rfl, rfl, trivial⟩ hh2 (Sel.refl _) hlt (by omega)
  · have hge' : ¬ (i : Int) < (ts.length : Int) := by omega
    have e : i = ts.length := by omega
    subst e
    have e2 : ts.take ts.length = ts := List.take_length
    rw [e2] at hh ⊢
    repeat' first
      | (refine kOps ?_; first | (refine LOps.nil ?_) | (refine LOps.ev tT_ok rfl ?_) | (refine kLoad ?_; first | (refine LOps.ans (AnsL.loadH tT_ok 1 hh rfl rfl rfl rfl) ?_)) | (refine kLen ?_; first | (refine LOps.ans (AnsL.lenM tT_ok rfl rfl rfl) ?_)))
      | (refine kWL ?_; first | (refine WL.seq ?_) | (refine WL.region (by kernel_rfl) ?_) | (refine WL.exit ?_) | (refine WL.ret ?_) | (refine kCond ?_; first | (refine WL.condF' rfl ?_ ?_; (focus (first | (exact decide_eq_false (by assumption)))))))
      | (refine lthen_n ?_)
      | (refine lthen_e ?_)
      | (refine lblock_e ?_)
      | (refine lbackH_e ?_)
      | (refine LPost.r1 (r := .tmp 2) (.inl rfl) (Res1.tmp rfl) ?_)
    exact Own2.ofH hh (by ((repeat' first | (exact ConsL.nil) | (exact ConsL.pls rfl rfl) | (exact Cons.pl rfl rfl) | (exact Cons.zsl) | (exact Cons.nilsl) | (refine' Cons.bp ?_; ((repeat' first | (exact Pick.here) | (refine' Pick.there ?_)); done)) | (refine' Cons.ap ?_; ((repeat' first | (exact Pick.here) | (refine' Pick.there ?_)); done)) | (exact Cons.blk 0 rfl rfl rfl) | (exact Cons.blk 1 rfl rfl rfl) | (exact Cons.blk 2 rfl rfl rfl) | (exact Cons.blk 3 rfl rfl rfl) | (exact Cons.pl (by assumption) (by assumption)) | (exact ConsL.pls (by assumption) (by assumption)) | (refine' ConsL.cons ?_ ?_) | (refine' Cons.agg ?_)); done))

theorem specSameTokens_v (a b : List Token) (ha : a.length ≤ 4000000000) (s : S) : VCalls Tryz.prog 14 [.sl 0 (tkV a), .sl 0 (tkV b)] s (fun v s' => v = .bool (same tokEq a b) ∧ s' = s) := by
  have hm1 : (tkV a).length = a.length := List.length_map ..
  have hm2 : (tkV b).length = b.length := List.length_map ..
  by_cases hne : (a.length : Int) = b.length
  · have hl : a.length = b.length := by omega
    refine LCalls.pure Tryz.func14 rfl (by kernel_rfl) (by simp) ?_
    repeat' first
      | (refine kOps ?_; first | (refine LOps.nil ?_) | (refine LOps.ev tT_ok rfl ?_) | (refine kLen ?_; first | (refine LOps.ans (AnsL.lenM tT_ok rfl rfl rfl) ?_)))
      | (refine kWL ?_; first | (refine WL.seq ?_) | (refine WL.region (by kernel_rfl) ?_) | (refine WL.block ?_) | (refine WL.skip ?_) | (refine kCond ?_; first | (refine WL.condF' rfl ?_ ?_; (focus (first | (simp only [decide_eq_true_eq, decide_eq_false_iff_not, Bool.not_eq_true', Bool.not_eq_false', Int.ofNat_lt, Int.ofNat_le, Int.ofNat_inj, not_true_eq_false, not_false_eq_true]; omega))))))
      | (refine lthen_n ?_)
    refine WL.loopD (fun i : Nat => a.length - i) (fun i => [(0, .sl 0 (tkV a)), (1, .sl 0 (tkV b)), (5, .int .i64 (i : Int))]) (fun i => [])
      (fun i => i ≤ a.length ∧ same tokEq a b = eqAll tokEq (a.drop i) (b.drop i)) 0 0 ⟨Nat.zero_le _, same_eq hne⟩ (fun _ => rfl) ⟨rfl, rfl, rfl, trivial⟩ rfl (fun i hi => ?_) (fun i hi => ?_)
    · simp [UnderK, UnderX, Own.under, V.under, V.underL]
    obtain ⟨hi, hc⟩ := hi
    rcases Nat.lt_or_ge i a.length with hlt | hge
    · have hlt2 : i < b.length := by omega
      have hga : (tkV a)[i]? = some (a[i].toV) := by rw [List.getElem?_map, List.getElem?_eq_getElem hlt]; rfl
      have hgb : (tkV b)[i]? = some (b[i].toV) := by rw [List.getElem?_map, List.getElem?_eq_getElem hlt2]; rfl
      rw [eqAll_drop hlt hlt2] at hc
      generalize a[i] = x at hga hc
      generalize b[i] = y at hgb hc
      obtain ⟨x1, x2, x3⟩ := x
      obtain ⟨y1, y2, y3⟩ := y
      cases hp : tokEq ⟨x1, x2, x3⟩ ⟨y1, y2, y3⟩
      all_goals rw [hp] at hc
      · skip
        repeat' first
          | (refine kOps ?_; first | (refine LOps.nil ?_) | (refine LOps.ev tT_ok rfl ?_) | (refine kLen ?_; first | (refine LOps.ans (AnsL.lenM tT_ok rfl rfl rfl) ?_)) | (refine kBin ?_; first | (refine LOps.ans (AnsL.add rfl rfl ?_) ?_; (focus (constructor <;> omega)))))
          | (refine kWL ?_; first | (refine WL.seq ?_) | (refine WL.region (by kernel_rfl) ?_) | (refine WL.drawn (id := 6) [0, 1, 2, 3, 4, 5, 6, 7, 8, 9, 10, 11, 12, 13, 14, 15, 16, 17, 18, 19, 20, 21, 22, 23] [] [[], [], [0, 1], [0, 1, 2], [0, 1, 2, 3], [], [], [5, 6], [5, 6, 7], [5, 6, 7, 8], [0, 1, 2, 3, 4, 5, 6, 7, 8, 9], [0, 1, 2, 3, 4, 5, 6, 7, 8, 9, 10], [0, 1, 2, 3, 4, 5, 6, 7, 8, 9, 10, 11], [0, 1, 2, 3, 4, 5, 6, 7, 8, 9, 10, 11], [0, 1, 2, 3, 4, 5, 6, 7, 8, 9, 10, 11, 12, 13], [0, 1, 2, 3, 4, 5, 6, 7, 8, 9, 10, 11, 12, 13, 14], [0, 1, 2, 3, 4, 5, 6, 7, 8, 9, 10, 11, 12, 13, 14, 15], [0, 1, 2, 3, 4, 5, 6, 7, 8, 9, 10, 11], [0, 1, 2, 3, 4, 5, 6, 7, 8, 9, 10, 11], [0, 1, 2, 3, 4, 5, 6, 7, 8, 9, 10, 11, 17, 18], [0, 1, 2, 3, 4, 5, 6, 7, 8, 9, 10, 11, 17, 18, 19], [0, 1, 2, 3, 4, 5, 6, 7, 8, 9, 10, 11, 17, 18, 19, 20], [0, 1, 2, 3, 4, 5, 6, 7, 8, 9, 10, 11, 12, 13, 14, 15, 16, 17, 18, 19, 20, 21], [0, 1, 2, 3, 4, 5, 6, 7, 8, 9, 10, 11, 12, 13, 14, 15, 16, 17, 18, 19, 20, 21, 22]] (by kernel_rfl) (by kernel_rfl) ?_) | (refine WL.block ?_) | (refine WL.skip ?_) | (refine WL.ret ?_) | (refine kCond ?_; first | (refine WL.condT rfl ?_) | (refine WL.condT' rfl ?_ ?_; (focus (first | (simp only [decide_eq_true_eq, decide_eq_false_iff_not, Bool.not_eq_true', Bool.not_eq_false', Int.ofNat_lt, Int.ofNat_le, Int.ofNat_inj, not_true_eq_false, not_false_eq_true]; omega)))) | (refine WL.cond rfl (fun h => ?_) (fun h => ?_))))
          | (refine kDr ?_; first | (refine LDr.nil ?_) | (refine LDr.fl rfl rfl (.ev tT_ok rfl) ?_) | (refine LDr.gF rfl rfl rfl rfl rfl ?_) | (refine LDr.gT rfl rfl rfl rfl rfl (.ev tT_ok rfl) ?_) | (refine kDIdx rfl ?_; first | (refine LDr.fl rfl rfl (AnsL.idx tT_ok rfl rfl rfl rfl rfl hga rfl rfl) ?_) | (refine LDr.gT rfl rfl rfl rfl rfl (AnsL.idx tT_ok rfl rfl rfl rfl rfl hga rfl rfl) ?_) | (refine LDr.fl rfl rfl (AnsL.idx tT_ok rfl rfl rfl rfl rfl hgb rfl rfl) ?_) | (refine LDr.gT rfl rfl rfl rfl rfl (AnsL.idx tT_ok rfl rfl rfl rfl rfl hgb rfl rfl) ?_)) | (refine LDr.gC rfl rfl rfl rfl (fun h => ?_) (fun h => ?_)))
          | (refine lthen_n ?_)
          | (refine lthen_r ?_)
          | (refine lblock_n ?_)
          | (refine lblock_r ?_)
          | (refine lbackD_r ?_)
          | (refine LPost.r1 (r := .tmp 4) (.inl rfl) (Res1.tmp rfl) ?_)
          | (refine PureR.mk ?_)
        all_goals first
          | (show V.bool _ = _; rw [hc]; rfl)
          | (exfalso; simp_all [tokEq]; done)
      · skip
        repeat' first
          | (refine kOps ?_; first | (refine LOps.nil ?_) | (refine LOps.ev tT_ok rfl ?_) | (refine kLen ?_; first | (refine LOps.ans (AnsL.lenM tT_ok rfl rfl rfl) ?_)) | (refine kBin ?_; first | (refine LOps.ans (AnsL.add rfl rfl ?_) ?_; (focus (constructor <;> omega)))))
          | (refine kWL ?_; first | (refine WL.seq ?_) | (refine WL.region (by kernel_rfl) ?_) | (refine WL.drawn (id := 6) [0, 1, 2, 3, 4, 5, 6, 7, 8, 9, 10, 11, 12, 13, 14, 15, 16, 17, 18, 19, 20, 21, 22, 23] [] [[], [], [0, 1], [0, 1, 2], [0, 1, 2, 3], [], [], [5, 6], [5, 6, 7], [5, 6, 7, 8], [0, 1, 2, 3, 4, 5, 6, 7, 8, 9], [0, 1, 2, 3, 4, 5, 6, 7, 8, 9, 10], [0, 1, 2, 3, 4, 5, 6, 7, 8, 9, 10, 11], [0, 1, 2, 3, 4, 5, 6, 7, 8, 9, 10, 11], [0, 1, 2, 3, 4, 5, 6, 7, 8, 9, 10, 11, 12, 13], [0, 1, 2, 3, 4, 5, 6, 7, 8, 9, 10, 11, 12, 13, 14], [0, 1, 2, 3, 4, 5, 6, 7, 8, 9, 10, 11, 12, 13, 14, 15], [0, 1, 2, 3, 4, 5, 6, 7, 8, 9, 10, 11], [0, 1, 2, 3, 4, 5, 6, 7, 8, 9, 10, 11], [0, 1, 2, 3, 4, 5, 6, 7, 8, 9, 10, 11, 17, 18], [0, 1, 2, 3, 4, 5, 6, 7, 8, 9, 10, 11, 17, 18, 19], [0, 1, 2, 3, 4, 5, 6, 7, 8, 9, 10, 11, 17, 18, 19, 20], [0, 1, 2, 3, 4, 5, 6, 7, 8, 9, 10, 11, 12, 13, 14, 15, 16, 17, 18, 19, 20, 21], [0, 1, 2, 3, 4, 5, 6, 7, 8, 9, 10, 11, 12, 13, 14, 15, 16, 17, 18, 19, 20, 21, 22]] (by kernel_rfl) (by kernel_rfl) ?_) | (refine WL.block ?_) | (refine WL.skip ?_) | (refine WL.ret ?_) | (refine kCond ?_; first | (refine WL.condT rfl ?_) | (refine WL.condT' rfl ?_ ?_; (focus (first | (simp only [decide_eq_true_eq, decide_eq_false_iff_not, Bool.not_eq_true', Bool.not_eq_false', Int.ofNat_lt, Int.ofNat_le, Int.ofNat_inj, not_true_eq_false, not_false_eq_true]; omega)))) | (refine WL.cond rfl (fun h => ?_) (fun h => ?_))))
          | (refine kDr ?_; first | (refine LDr.nil ?_) | (refine LDr.fl rfl rfl (.ev tT_ok rfl) ?_) | (refine LDr.gF rfl rfl rfl rfl rfl ?_) | (refine LDr.gT rfl rfl rfl rfl rfl (.ev tT_ok rfl) ?_) | (refine kDIdx rfl ?_; first | (refine LDr.fl rfl rfl (AnsL.idx tT_ok rfl rfl rfl rfl rfl hga rfl rfl) ?_) | (refine LDr.gT rfl rfl rfl rfl rfl (AnsL.idx tT_ok rfl rfl rfl rfl rfl hga rfl rfl) ?_) | (refine LDr.fl rfl rfl (AnsL.idx tT_ok rfl rfl rfl rfl rfl hgb rfl rfl) ?_) | (refine LDr.gT rfl rfl rfl rfl rfl (AnsL.idx tT_ok rfl rfl rfl rfl rfl hgb rfl rfl) ?_)) | (refine LDr.gC rfl rfl rfl rfl (fun h => ?_) (fun h => ?_)))
          | (refine lthen_n ?_)
          | (refine lthen_r ?_)
          | (refine lblock_n ?_)
          | (refine lblock_r ?_)
          | (refine lbackD_r ?_)
          | (refine LPost.r1 (r := .tmp 4) (.inl rfl) (Res1.tmp rfl) ?_)
          | (refine PureR.mk ?_)
        any_goals (exfalso; simp_all [tokEq]; done)
        rw [Bool.true_and] at hc
        all_goals
          refine lbackD.of (i + 1) ?_ ?_ ?_ ?_
          · first | omega | (refine ⟨?_, ?_⟩; (focus (first | omega | (simp; omega))); (first | omega | (simp_all [hc] <;> fail) | (simp_all [hc]; omega))) | (simp_all [hc] <;> fail) | (simp_all [hc]; omega)
          · first | omega | (simp; omega) | simp_all
          · repeat' first
              | exact SubL.nil
              | (refine SubL.mk rfl ?_ ?_)
              | rfl
              | (simp [hc] <;> fail)
              | (simp [hc]; omega)
          · first | rfl | (simp [hc] <;> fail) | (simp [hc]; omega)
    · rw [eqAll_end hge] at hc
      repeat' first
        | (refine kOps ?_; first | (refine LOps.nil ?_) | (refine LOps.ev tT_ok rfl ?_) | (refine kLen ?_; first | (refine LOps.ans (AnsL.lenM tT_ok rfl rfl rfl) ?_)))
        | (refine kWL ?_; first | (refine WL.seq ?_) | (refine WL.region (by kernel_rfl) ?_) | (refine WL.exit ?_) | (refine WL.ret ?_) | (refine kCond ?_; first | (refine WL.condF' rfl ?_ ?_; (focus (first | (simp only [decide_eq_true_eq, decide_eq_false_iff_not, Bool.not_eq_true', Bool.not_eq_false', Int.ofNat_lt, Int.ofNat_le, Int.ofNat_inj, not_true_eq_false, not_false_eq_true]; omega))))))
        | (refine lthen_n ?_)
        | (refine lthen_e ?_)
        | (refine lblock_e ?_)
        | (refine lbackD_e ?_)
        | (refine LPost.r1 (r := .tmp 4) (.inl rfl) (Res1.tmp rfl) ?_)
        | (refine PureR.mk ?_)
      show V.bool _ = _; simp_all
  · have hl : same tokEq a b = false := same_ne hne
    refine LCalls.pure Tryz.func14 rfl (by kernel_rfl) (by simp) ?_
    repeat' first
      | (refine kOps ?_; first | (refine LOps.nil ?_) | (refine LOps.ev tT_ok rfl ?_) | (refine kLen ?_; first | (refine LOps.ans (AnsL.lenM tT_ok rfl rfl rfl) ?_)))
      | (refine kWL ?_; first | (refine WL.seq ?_) | (refine WL.region (by kernel_rfl) ?_) | (refine WL.ret ?_) | (refine kCond ?_; first | (refine WL.condT' rfl ?_ ?_; (focus (first | (simp only [decide_eq_true_eq, decide_eq_false_iff_not, Bool.not_eq_true', Bool.not_eq_false', Int.ofNat_lt, Int.ofNat_le, Int.ofNat_inj, not_true_eq_false, not_false_eq_true]; omega))))))
      | (refine lthen_n ?_)
      | (refine lthen_r ?_)
      | (refine LPost.r1 (r := .tmp 4) (.inl rfl) (Res1.tmp rfl) ?_)
      | (refine PureR.mk ?_)
    rw [hl]
    rfl

end Go.Proofs.YtbnbmcplmipgdaaGreatDoor
