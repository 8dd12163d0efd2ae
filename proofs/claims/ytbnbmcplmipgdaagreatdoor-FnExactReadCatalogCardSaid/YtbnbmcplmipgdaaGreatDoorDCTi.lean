/-
  Tokens of a catalog, of the program: its printer; whether two runs of tokens are the same. Own work; no condition.
-/
import Derived.Test.YtbnbmcplmipgdaaGreatDoorDCTk
namespace Go.Proofs.YtbnbmcplmipgdaaGreatDoor
open Go
set_option linter.unusedSimpArgs false
set_option linter.unusedVariables false

theorem implSameTokens1_v (x y : Token) (s : S) : VCalls Tryz.prog 46 [x.toV, y.toV] s (fun v s' => v = .bool (tokEq x y) ∧ s' = s) := by
  obtain ⟨x1, x2, x3⟩ := x
  obtain ⟨y1, y2, y3⟩ := y
  by_cases c1 : x1 = y1
  · skip
    refine LCalls.pure Tryz.func46 rfl (by kernel_rfl) (by simp) ?_
    repeat' first
      | (refine kOps ?_; first | (refine LOps.nil ?_) | (refine kG ?_; first | (refine LOps.gT rfl rfl rfl ?_) | (refine LOps.gD true rfl rfl rfl ?_ ?_; (focus (first | (exact decide_eq_true (by assumption)))))) | (refine LOps.ev tT_ok rfl ?_) | (refine kBox ?_; refine LOps.box rfl rfl rfl rfl ?_) | (refine kLoad ?_; first | (refine LOps.ans (AnsL.loadP tT_ok rfl rfl rfl rfl) ?_)))
      | (refine kWL ?_; first | (refine WL.seq ?_) | (refine WL.region (by kernel_rfl) ?_) | (refine WL.ret ?_))
      | (refine lthen_n ?_)
      | (refine LPost.r1 (r := .tmp 4) (.inl rfl) (Res1.tmp rfl) ?_)
      | (refine PureR.mk ?_)
    simp [tokEq, c1]
  · skip
    refine LCalls.pure Tryz.func46 rfl (by kernel_rfl) (by simp) ?_
    repeat' first
      | (refine kOps ?_; first | (refine LOps.nil ?_) | (refine kG ?_; first | (refine LOps.gF rfl rfl rfl ?_) | (refine LOps.gD false rfl rfl rfl ?_ ?_; (focus (first | (exact decide_eq_false (by assumption)))))) | (refine LOps.ev tT_ok rfl ?_) | (refine kBox ?_; refine LOps.box rfl rfl rfl rfl ?_) | (refine kLoad ?_; first | (refine LOps.ans (AnsL.loadP tT_ok rfl rfl rfl rfl) ?_)))
      | (refine kWL ?_; first | (refine WL.seq ?_) | (refine WL.region (by kernel_rfl) ?_) | (refine WL.ret ?_))
      | (refine lthen_n ?_)
      | (refine LPost.r1 (r := .tmp 4) (.inl rfl) (Res1.tmp rfl) ?_)
      | (refine PureR.mk ?_)
    simp [tokEq, c1]
theorem equalFuncTok_v (a b : List Token) (h1 : a.length ≤ 9223372036854775807) (h2 : b.length ≤ 9223372036854775807) (s : S) (p : Token → Token → Bool) (g : FuncId) (caps : List V) (hg : CallOk Tryz.prog g) (hcd : V.underL s.next caps = true) (hp1 : ∀ x, x ∈ a → ∀ y, y ∈ b → ∀ ys, VCalls Tryz.prog g (Token.toV x :: Token.toV y :: caps) (s.ext ys) (fun v s' => v = .bool (p x y) ∧ s' = s.ext ys)) : VCalls Tryz.prog 45 [.sl 0 (a.map Token.toV), .sl 0 (b.map Token.toV), .fn g caps] s (fun v s' => v = .bool (same p a b) ∧ s' = s) := by
  refine LCalls.pure Tryz.func45 rfl (by kernel_rfl) (by simp) ?_
  by_cases hnn : ¬ (a.length : Int) = b.length
  · skip
    repeat' first
      | (refine kOps ?_; first | (refine LOps.nil ?_) | (refine LOps.ev tT_ok rfl ?_) | (refine kLen ?_; first | (refine LOps.ans (AnsL.lenM tT_ok rfl rfl rfl) ?_)))
      | (refine kWL ?_; first | (refine WL.seq ?_) | (refine WL.region (by kernel_rfl) ?_) | (refine WL.ret ?_) | (refine kCond ?_; first | (refine WL.condT' rfl ?_ ?_; (focus (first | (simp only [decide_eq_true_eq, decide_eq_false_iff_not, Bool.not_eq_true', Bool.not_eq_false', Int.ofNat_lt, Int.ofNat_le, Int.ofNat_inj, not_true_eq_false, not_false_eq_true]; omega))))))
      | (refine lthen_n ?_)
      | (refine lthen_r ?_)
      | (refine LPost.r1 (r := .tmp 6) (.inl rfl) (Res1.tmp rfl) ?_)
      | (refine PureR.mk ?_)
    rw [same_ne hnn]; rfl
  have hne : (a.length : Int) = b.length := by omega
  repeat' first
    | (refine kOps ?_; first | (refine LOps.nil ?_) | (refine LOps.ev tT_ok rfl ?_) | (refine kLen ?_; first | (refine LOps.ans (AnsL.lenM tT_ok rfl rfl rfl) ?_)))
    | (refine kWL ?_; first | (refine WL.seq ?_) | (refine WL.region (by kernel_rfl) ?_) | (refine WL.block ?_) | (refine WL.skip ?_) | (refine kCond ?_; first | (refine WL.condF' rfl ?_ ?_; (focus (first | (simp only [decide_eq_true_eq, decide_eq_false_iff_not, Bool.not_eq_true', Bool.not_eq_false', Int.ofNat_lt, Int.ofNat_le, Int.ofNat_inj, not_true_eq_false, not_false_eq_true]; omega))))))
    | (refine lthen_n ?_)
  refine WL.loopD (fun i : Nat => a.length - i) (fun i => [(1, .sl 0 (b.map Token.toV)), (2, .fn g caps), (15, .sl 0 (a.map Token.toV)), (16, .int .i64 a.length), (17, .int .i64 (i : Int))]) (fun i => [])
    (fun i => i ≤ a.length ∧ same p a b = eqAll p (a.drop i) (b.drop i)) 0 0 ⟨by omega, same_eq hne⟩ (fun _ => rfl) ⟨rfl, rfl, rfl, rfl, rfl, trivial⟩ rfl (fun i hi => ?_) (fun i hi => ?_)
  · simp [UnderK, UnderX, Own.under, V.under, V.underL, hcd]
  obtain ⟨hi, hc⟩ := hi
  rcases Nat.lt_or_ge i a.length with hlt | hge
  · have hlt2 : i < b.length := by omega
    rw [eqAll_drop hlt hlt2] at hc
    cases hp : p a[i] b[i]
    · skip
      repeat' first
        | (refine kOps ?_; first | (refine LOps.nil ?_) | (refine kStore ?_; refine LOps.storeP tT_ok rfl rfl rfl rfl rfl rfl rfl rfl rfl ?_) | (refine LOps.ev tT_ok rfl ?_) | (refine kAlloc ?_; refine LOps.alloc tT_ok rfl rfl rfl rfl ?_) | (refine kLoad ?_; first | (refine LOps.ans (AnsL.loadP tT_ok rfl rfl rfl rfl) ?_)) | (refine kIdx ?_; first | (refine LOps.ans (AnsL.idxA tT_ok rfl rfl rfl rfl rfl (by omega) rfl rfl) ?_)) | (refine kCall ?_; first | (refine LOps.ans (AnsL.callP rfl rfl rfl (hg) (hp1 _ (by simp) _ (by simp) _)) ?_)))
        | (refine kWL ?_; first | (refine WL.seq ?_) | (refine WL.region (by kernel_rfl) ?_) | (refine WL.block ?_) | (refine WL.skip ?_) | (refine WL.ret ?_) | (refine kCond ?_; first | (refine WL.condT' rfl ?_ ?_; (focus (first | (simp only [decide_eq_true_eq, decide_eq_false_iff_not, Bool.not_eq_true', Bool.not_eq_false', Int.ofNat_lt, Int.ofNat_le, Int.ofNat_inj, not_true_eq_false, not_false_eq_true]; omega))))))
        | (refine lthen_n ?_)
        | (refine lthen_r ?_)
        | (refine lblock_r ?_)
        | (refine lbackD_r ?_)
        | (refine LPost.r1 (r := .tmp 6) (.inl rfl) (Res1.tmp rfl) ?_)
        | (refine PureR.mk ?_)
      all_goals simp_all
    · skip
      repeat' first
        | (refine kOps ?_; first | (refine LOps.nil ?_) | (refine kStore ?_; refine LOps.storeP tT_ok rfl rfl rfl rfl rfl rfl rfl rfl rfl ?_) | (refine LOps.ev tT_ok rfl ?_) | (refine kAlloc ?_; refine LOps.alloc tT_ok rfl rfl rfl rfl ?_) | (refine kLoad ?_; first | (refine LOps.ans (AnsL.loadP tT_ok rfl rfl rfl rfl) ?_)) | (refine kBin ?_; first | (refine LOps.ans (AnsL.add rfl rfl ?_) ?_; (focus (constructor <;> omega)))) | (refine kIdx ?_; first | (refine LOps.ans (AnsL.idxA tT_ok rfl rfl rfl rfl rfl (by omega) rfl rfl) ?_)) | (refine kCall ?_; first | (refine LOps.ans (AnsL.callP rfl rfl rfl (hg) (hp1 _ (by simp) _ (by simp) _)) ?_)))
        | (refine kWL ?_; first | (refine WL.seq ?_) | (refine WL.region (by kernel_rfl) ?_) | (refine WL.block ?_) | (refine WL.skip ?_) | (refine kCond ?_; first | (refine WL.condT' rfl ?_ ?_; (focus (first | (simp only [decide_eq_true_eq, decide_eq_false_iff_not, Bool.not_eq_true', Bool.not_eq_false', Int.ofNat_lt, Int.ofNat_le, Int.ofNat_inj, not_true_eq_false, not_false_eq_true]; omega)))) | (refine WL.condF' rfl ?_ ?_; (focus (first | (simp only [decide_eq_true_eq, decide_eq_false_iff_not, Bool.not_eq_true', Bool.not_eq_false', Int.ofNat_lt, Int.ofNat_le, Int.ofNat_inj, not_true_eq_false, not_false_eq_true]; omega))))))
        | (refine lthen_n ?_)
        | (refine lblock_n ?_)
      all_goals
        refine lbackD.of (i + 1) ?_ ?_ ?_ ?_
        · first | omega | (refine ⟨?_, ?_⟩; (focus (first | omega | (simp; omega))); (first | omega | (simp_all [hc, hp] <;> fail) | (simp_all [hc, hp]; omega))) | (simp_all [hc, hp] <;> fail) | (simp_all [hc, hp]; omega)
        · first | omega | (simp; omega) | simp_all
        · repeat' first
            | exact SubL.nil
            | (refine SubL.mk rfl ?_ ?_)
            | rfl
            | (simp [hc, hp] <;> fail)
            | (simp [hc, hp]; omega)
        · first | rfl | (simp [hc, hp] <;> fail) | (simp [hc, hp]; omega)
  · rw [eqAll_end hge] at hc
    repeat' first
      | (refine kOps ?_; first | (refine LOps.nil ?_) | (refine LOps.ev tT_ok rfl ?_))
      | (refine kWL ?_; first | (refine WL.seq ?_) | (refine WL.region (by kernel_rfl) ?_) | (refine WL.exit ?_) | (refine WL.ret ?_) | (refine kCond ?_; first | (refine WL.condF' rfl ?_ ?_; (focus (first | (simp only [decide_eq_true_eq, decide_eq_false_iff_not, Bool.not_eq_true', Bool.not_eq_false', Int.ofNat_lt, Int.ofNat_le, Int.ofNat_inj, not_true_eq_false, not_false_eq_true]; omega))))))
      | (refine lthen_n ?_)
      | (refine lthen_e ?_)
      | (refine lblock_e ?_)
      | (refine lbackD_e ?_)
      | (refine LPost.r1 (r := .tmp 6) (.inl rfl) (Res1.tmp rfl) ?_)
      | (refine PureR.mk ?_)
    rw [hc]; rfl
theorem implSameTokens_v (a b : List Token) (h1 : a.length ≤ 1048576) (h2 : b.length ≤ 1048576) (s : S) : VCalls Tryz.prog 22 [.sl 0 (tkV a), .sl 0 (tkV b)] s (fun v s' => v = .bool (same tokEq a b) ∧ s' = s) := by
  refine LCalls.pure Tryz.func22 rfl (by kernel_rfl) (by simp) ?_
  repeat' first
    | (refine kOps ?_; first | (refine LOps.nil ?_) | (refine LOps.ev tT_ok rfl ?_) | (refine kCallN 45 ?_; first | (refine LOps.ans (AnsL.callP rfl rfl rfl (ok45) (equalFuncTok_v _ _ ?_ ?_ _ tokEq _ [] ok46 rfl ?_)) ?_; (focus (omega)); (focus (omega)); (focus (exact fun x hx y hy ys => implSameTokens1_v x y _)))))
    | (refine kWL ?_; first | (refine WL.seq ?_) | (refine WL.region (by kernel_rfl) ?_) | (refine WL.ret ?_))
    | (refine lthen_n ?_)
    | (refine LPost.r1 (r := .tmp 4) (.inl rfl) (Res1.tmp rfl) ?_)
    | (refine PureR.mk ?_)
  rfl

/-! ### The printer -/
def prS (T : List Token) (y : Nat × Nat) : V := .slm (.is y.1) y.2 0 T.length
def prC (T : List Token) (y : Nat × Nat) : List V := [prS T y, .bool false]
def prO (T : List Token) (y : Nat × Nat) : List BE := [.own (prS T y) (.sl 0 (tkV T))]
/-- A method of the printer that puts X. -/
abbrev PrX (g : FuncId) (args : List V) (T X : List Token) : Prop := ∀ y, PtrB Tryz.prog g args (prC T y) (prO T y) (fun _ : Nat × Nat => .tup []) (prC (T ++ X)) (prO (T ++ X)) (fun _ => True)
theorem implput_p (k : Int) (b : List UInt8) (T : List Token) (hT : T.length ≤ 1000) : PrX 80 [.int .i64 k, .str b] T [⟨k, b, 0⟩] := by
  intro y s H m hh
  have hm : (tkV T).length ≤ 1048576 := by rw [List.length_map]; omega
  have e1 : (tkV T).length + 1 = (T ++ [(⟨k, b, 0⟩ : Token)]).length := by simp
  have e2 : tkV T ++ [V.agg [.int .i64 k, .str b, .int .i64 0]] = tkV (T ++ [⟨k, b, 0⟩]) := by simp [Token.toV]
  unfold prO prC prS at hh ⊢
  dsimp only [List.cons_append, List.nil_append] at hh
  refine LCalls.body0 Tryz.func80 rfl (by kernel_rfl) ?_
  repeat' first
    | (refine kStore ?_ ; first | (refine LOps.storeH tT_ok 1 hh rfl rfl rfl rfl rfl rfl rfl rfl rfl ?_ ; intro s hh))
    | (refine kBsl ?_ ; first | (refine LOps.ans (AnsL.bslE tT_ok rfl rfl rfl rfl rfl rfl rfl rfl ?_) ?_ ; (focus ((repeat' first | (exact ElsH.of rfl)); done))))
    | (refine kApp ?_ ; first | (refine' LOps.appW tT_ok 0 rfl rfl rfl rfl rfl rfl rfl rfl rfl rfl hh ?_ ?_ ?_ (AppB.of ?_ rfl) ?_ ; rotate_left 2 ; (focus (first | (intro x hx; obtain ⟨y, _, rfl⟩ := List.mem_map.1 hx; first | rfl | exact PE.cells_len _ | exact PE.planV_len _ | exact EE.cells_len _ | exact EE.queryV_len _))) ; (focus ((repeat' first | (exact ConsOL.nil) | (exact ConsO.scal rfl) | (refine' ConsOL.cons ?_ ?_) | (refine' ConsO.agg ?_)); done)) ; (focus ((repeat' first | (exact Elems.of rfl)); done)) ; (focus (first | omega | (simp ; omega))) ; intro s c n hh))
    | (refine kOps ?_; first | (refine LOps.nil ?_) | (refine' LOps.ans (v := .agg _) (AnsL.buildZ tT_ok rfl rfl rfl rfl ?_) ?_; rotate_left 1; (focus ((repeat' first | (exact Fills.nil) | (refine' Fills.cons rfl rfl rfl rfl ?_)); done))) | (refine LOps.ev tT_ok rfl ?_) | (refine kLoad ?_; first | (refine LOps.ans (AnsL.loadH tT_ok 1 hh rfl rfl rfl rfl) ?_)))
    | (refine kWL ?_; first | (refine WL.region (by kernel_rfl) ?_))
    | (refine LPost.r0 (.inr rfl) ?_)
  simp only [List.length_cons, List.length_nil, Nat.zero_add] at hh
  rw [e1, e2] at hh
  refine PtrB.fin (y := (c, n)) trivial rfl hh ?_
  dsimp only [List.cons_append, List.nil_append]
  (repeat' first | (exact Sel.nil) | (exact Sel.refl _) | (refine' Sel.p ?_ ?_; rotate_left 1; (focus (((repeat' first | (exact Pick.here) | (refine' Pick.there ?_)); done)))))
theorem implsign_p (b : List UInt8) (T : List Token) (hT : T.length ≤ 1000) : PrX 49 [.str b] T [sgTk b] := by
  intro y s H m hh
  refine LCalls.body0 Tryz.func49 rfl (by kernel_rfl) ?_
  dsimp only [prO, List.cons_append, List.nil_append] at hh
  repeat' first
    | (refine kCallN 80 ?_ ; first | (refine LOps.ptrB 0 rfl rfl ok80 hh (implput_p 5 b T hT _) (.cons 0 rfl rfl .nil) rfl rfl ?_ ; intro s y hq hh ; try dsimp only [List.cons_append, List.nil_append] at hh))
    | (refine kOps ?_; first | (refine LOps.nil ?_) | (refine LOps.ev tT_ok rfl ?_))
    | (refine kWL ?_; first | (refine WL.region (by kernel_rfl) ?_))
    | (refine LPost.r0 (.inr rfl) ?_)
  exact PtrB.fin y trivial rfl hh (Sel.refl _)
theorem implname_p (b : List UInt8) (T : List Token) (hT : T.length ≤ 1000) : PrX 48 [.str b] T [nmTk b] := by
  intro y s H m hh
  refine LCalls.body0 Tryz.func48 rfl (by kernel_rfl) ?_
  dsimp only [prO, List.cons_append, List.nil_append] at hh
  repeat' first
    | (refine kCallN 80 ?_ ; first | (refine LOps.ptrB 0 rfl rfl ok80 hh (implput_p 2 b T hT _) (.cons 0 rfl rfl .nil) rfl rfl ?_ ; intro s y hq hh ; try dsimp only [List.cons_append, List.nil_append] at hh))
    | (refine kOps ?_; first | (refine LOps.nil ?_) | (refine LOps.ev tT_ok rfl ?_))
    | (refine kWL ?_; first | (refine WL.region (by kernel_rfl) ?_))
    | (refine LPost.r0 (.inr rfl) ?_)
  exact PtrB.fin y trivial rfl hh (Sel.refl _)
theorem implcomma_p (k : Nat) (T : List Token) (hT : T.length ≤ 1000) : PrX 47 [.int .i64 (k : Int)] T (cmT k) := by
  intro y s H m hh
  refine LCalls.body0 Tryz.func47 rfl (by kernel_rfl) ?_
  dsimp only [prO, List.cons_append, List.nil_append] at hh
  rcases Nat.eq_zero_or_pos k with k0 | k0
  · have k0' : ¬ (k : Int) > 0 := by omega
    have hkm : cmT k = [] := by rw [k0]; rfl
    rw [hkm, List.append_nil]
    repeat' first
      | (refine kOps ?_; first | (refine LOps.nil ?_) | (refine LOps.ev tT_ok rfl ?_))
      | (refine kWL ?_; first | (refine WL.seq ?_) | (refine WL.region (by kernel_rfl) ?_) | (refine WL.skip ?_) | (refine kCond ?_; first | (refine WL.condF' rfl ?_ ?_; (focus (first | (exact decide_eq_false (by assumption)))))))
      | (refine lthen_n ?_)
      | (refine LPost.r0 (.inr rfl) ?_)
    exact PtrB.fin y trivial rfl hh (Sel.refl _)
  · have k0' : (k : Int) > 0 := by omega
    have hkm : cmT k = [sgTk [44]] := by
      cases k with
      | zero => omega
      | succ n => rfl
    rw [hkm]
    repeat' first
      | (refine kCallN 49 ?_ ; first | (refine LOps.ptrB 0 rfl rfl ok49 hh (implsign_p [44] T hT _) (.cons 0 rfl rfl .nil) rfl rfl ?_ ; intro s y hq hh ; try dsimp only [List.cons_append, List.nil_append] at hh))
      | (refine kOps ?_; first | (refine LOps.nil ?_) | (refine LOps.ev tT_ok rfl ?_))
      | (refine kWL ?_; first | (refine WL.seq ?_) | (refine WL.region (by kernel_rfl) ?_) | (refine kCond ?_; first | (refine WL.condT' rfl ?_ ?_; (focus (first | (exact decide_eq_true (by assumption)))))))
      | (refine lthen_n ?_)
      | (refine LPost.r0 (.inr rfl) ?_)
    exact PtrB.fin y trivial rfl hh (Sel.refl _)
set_option maxHeartbeats 8000000 in
theorem implcatalogTokens_o (c : Cat) (hf : c.few) (s : S) : VCalls Tryz.prog 23 [c.toV] s (fun v t => Own2 (.sl 0 (tkV (tabsT 0 c.tables))) v t) := by
  refine VCalls.ownO ?_
  have hh : Hold s s.next [] := .start _ _
  obtain ⟨ts⟩ := c
  obtain ⟨f1, f2⟩ := hf
  dsimp only at f1 f2 ⊢
  refine LCalls.body Tryz.func23 rfl (by kernel_rfl) ?_
  repeat' first
    | (refine kBox ?_ ; first | (refine LOps.boxH hh rfl rfl ?_ ; intro s n hh))
    | (refine kOps ?_; first | (refine LOps.nil ?_) | (refine' LOps.ans (v := .agg _) (AnsL.buildZ tT_ok rfl rfl rfl rfl ?_) ?_; rotate_left 1; (focus ((repeat' first | (exact Fills.nil)); done))) | (refine LOps.ev tT_ok rfl ?_) | (refine kLoad ?_; first | (refine LOps.ans (AnsL.loadH tT_ok 1 hh rfl rfl rfl rfl) ?_)) | (refine kLen ?_; first | (refine LOps.ans (AnsL.lenM tT_ok rfl rfl rfl) ?_)))
    | (refine kWL ?_; first | (refine WL.seq ?_) | (refine WL.region (by kernel_rfl) ?_) | (refine WL.block ?_))
    | (refine lthen_n ?_)
  replace hh := hh.nil0
  obtain ⟨pn, rfl⟩ : ∃ pn, pn = n := ⟨n, rfl⟩
  refine WL.loopH (fun y : Nat × Nat × Nat => ts.length - y.1) (fun y => [(3, .ptr pn 0), (11, .sl 0 (ts.map Tab.toV)), (12, .int .i64 (ts.length : Int)), (13, .int .i64 (y.1 : Int))])
    (fun y => prO (tabsT 0 (ts.take y.1)) y.2 ++ [.cell pn (prC (tabsT 0 (ts.take y.1)) y.2)]) (fun y => y.1 ≤ ts.length) (0, 0, 0) (Nat.zero_le _) ⟨rfl, rfl, rfl, rfl, trivial⟩ hh (.cons 0 rfl rfl (.cons 0 rfl rfl .nil)) (fun y s hI hh => ?_)
  obtain ⟨i, y⟩ := y
  try dsimp only at hI hh ⊢
  dsimp only [prO, List.cons_append, List.nil_append] at hh
  rcases Nat.lt_or_ge i ts.length with hlt | hge
  · have hlt' : (i : Int) < (ts.length : Int) := by omega
    have hgt : (ts.map Tab.toV)[i]? = some ts[i].toV := by simp [hlt]
    have hst := tabsT_step hlt
    have hXl : (tabsT 0 (ts.take i)).length ≤ 64 := by
      have := tabsT_le (ts.take i) 0 fun t ht => f2 t (List.mem_of_mem_take ht)
      rw [List.length_take] at this
      omega
    have hcl := f2 ts[i] (List.getElem_mem hlt)
    generalize ts[i] = t at hgt hst hcl
    obtain ⟨nm, cs⟩ := t
    dsimp only at hcl
    have hmC : (cs.map Col.toV).length = cs.length := List.length_map ..
    have hcm := cmT_len i
    obtain ⟨X, hX⟩ : ∃ X, tabsT 0 (ts.take i) = X := ⟨_, rfl⟩
    rw [hX] at hh hXl hst
    obtain ⟨C, hC⟩ : ∃ C, cmT i = C := ⟨_, rfl⟩
    rw [hC] at hcm
    have q1 := implcomma_p i X (by omega)
    rw [hC] at q1
    have q2 := implname_p nm (X ++ C) (by rw [List.length_append]; omega)
    have q3 := implsign_p [40] (X ++ C ++ [nmTk nm]) (by simp only [List.length_append, List.length_cons, List.length_nil]; omega)
    repeat' first
      | (refine kAlloc ?_ ; refine LOps.allocH tT_ok hh rfl rfl ?_ ; intro s n hh)
      | (refine kStore ?_ ; first | (refine LOps.storeH tT_ok 0 hh rfl rfl rfl rfl rfl rfl rfl rfl rfl ?_ ; intro s hh))
      | (refine kCallN 47 ?_ ; first | (refine LOps.ptrB 1 rfl rfl ok47 hh (q1 _) (.cons 1 rfl rfl .nil) rfl rfl ?_ ; intro s y hq hh ; try dsimp only [List.cons_append, List.nil_append] at hh))
      | (refine kCallN 48 ?_ ; first | (refine LOps.ptrB 0 rfl rfl ok48 hh (q2 _) (.cons 0 rfl rfl .nil) rfl rfl ?_ ; intro s y hq hh ; try dsimp only [List.cons_append, List.nil_append] at hh))
      | (refine kCallN 49 ?_ ; first | (refine LOps.ptrB 0 rfl rfl ok49 hh (q3 _) (.cons 0 rfl rfl .nil) rfl rfl ?_ ; intro s y hq hh ; try dsimp only [List.cons_append, List.nil_append] at hh))
      | (refine kOps ?_; first | (refine LOps.nil ?_) | (refine LOps.ev tT_ok rfl ?_) | (refine kLoad ?_; first | (refine LOps.ans (AnsL.loadH tT_ok 2 hh rfl rfl rfl rfl) ?_)) | (refine kLen ?_; first | (refine LOps.ans (AnsL.lenM tT_ok rfl rfl rfl) ?_)) | (refine kIdx ?_; first | (refine LOps.ans (AnsL.idx tT_ok rfl rfl rfl rfl rfl hgt rfl rfl) ?_)))
      | (refine kWL ?_; first | (refine WL.seq ?_) | (refine WL.region (by kernel_rfl) ?_) | (refine WL.block ?_) | (refine WL.skip ?_) | (refine kCond ?_; first | (refine WL.condT' rfl ?_ ?_; (focus (first | (exact decide_eq_true (by assumption)))))))
      | (refine lthen_n ?_)
    obtain ⟨Y, hY⟩ : ∃ Y, X ++ C ++ [nmTk nm] ++ [sgTk [40]] = Y := ⟨_, rfl⟩
    have hYl : Y.length ≤ 67 := by
      rw [← hY]
      simp only [List.length_append, List.length_cons, List.length_nil]
      omega
    rw [hY] at hh
    have e0 : Y = Y ++ colsT 0 (cs.take 0) := by simp [colsT]
    rw [e0] at hh
    clear e0
    refine WL.loopH (fun z : Nat × Nat × Nat => cs.length - z.1) (fun z => [(3, .ptr pn 0), (11, .sl 0 (ts.map Tab.toV)), (12, .int .i64 (ts.length : Int)), (13, .int .i64 (i : Int)), (28, .sl 0 (cs.map Col.toV)), (29, .int .i64 (cs.length : Int)), (30, .int .i64 (z.1 : Int))])
      (fun z => prO (Y ++ colsT 0 (cs.take z.1)) z.2 ++ [.cell pn (prC (Y ++ colsT 0 (cs.take z.1)) z.2)]) (fun z => z.1 ≤ cs.length) (0, y) (Nat.zero_le _) ⟨rfl, rfl, rfl, rfl, rfl, rfl, rfl, trivial⟩ hh (.cons 0 rfl rfl (.cons 0 rfl rfl .nil)) (fun z s hK hh => ?_)
    obtain ⟨k, z⟩ := z
    try dsimp only at hK hh ⊢
    have hZl : (Y ++ colsT 0 (cs.take k)).length ≤ 100 := by
      have a1 := colsT_le (cs.take k) 0
      rw [List.length_take] at a1
      rw [List.length_append]
      omega
    rcases Nat.lt_or_ge k cs.length with hkt | hkg
    · have hkt' : (k : Int) < (cs.length : Int) := by omega
      have hgc : (cs.map Col.toV)[k]? = some cs[k].toV := by simp [hkt]
      have hsc := colsT_step hkt
      generalize cs[k] = col at hgc hsc
      obtain ⟨cnm, cty⟩ := col
      have hTy := fun u => implTypeText_v cty u
      have hkm := cmT_len k
      obtain ⟨Z, hZ⟩ : ∃ Z, Y ++ colsT 0 (cs.take k) = Z := ⟨_, rfl⟩
      rw [hZ] at hh hZl
      obtain ⟨D, hD⟩ : ∃ D, cmT k = D := ⟨_, rfl⟩
      rw [hD] at hkm
      have r1 := implcomma_p k Z (by omega)
      rw [hD] at r1
      have r2 := implname_p cnm (Z ++ D) (by rw [List.length_append]; omega)
      have r3 := implname_p (tySt cty) (Z ++ D ++ [nmTk cnm]) (by simp only [List.length_append, List.length_cons, List.length_nil]; omega)
      generalize htx : tySt cty = tx at hTy r3
      repeat' first
        | (refine kAlloc ?_ ; refine LOps.allocH tT_ok hh rfl rfl ?_ ; intro s n hh)
        | (refine kStore ?_ ; first | (refine LOps.storeH tT_ok 0 hh rfl rfl rfl rfl rfl rfl rfl rfl rfl ?_ ; intro s hh))
        | (refine kCallN 47 ?_ ; first | (refine LOps.ptrB 1 rfl rfl ok47 hh (r1 _) (.cons 1 rfl rfl .nil) rfl rfl ?_ ; intro s y hq hh ; try dsimp only [List.cons_append, List.nil_append] at hh))
        | (refine kCallN 48 ?_ ; first | (refine LOps.ptrB 0 rfl rfl ok48 hh (r2 _) (.cons 0 rfl rfl .nil) rfl rfl ?_ ; intro s y hq hh ; try dsimp only [List.cons_append, List.nil_append] at hh))
        | (refine kCallN 48 ?_ ; first | (refine LOps.ptrB 0 rfl rfl ok48 hh (r3 _) (.cons 0 rfl rfl .nil) rfl rfl ?_ ; intro s y hq hh ; try dsimp only [List.cons_append, List.nil_append] at hh))
        | (refine kOps ?_; first | (refine LOps.nil ?_) | (refine LOps.ev tT_ok rfl ?_) | (refine kLoad ?_; first | (refine LOps.ans (AnsL.loadH tT_ok 2 hh rfl rfl rfl rfl) ?_)) | (refine kBin ?_; first | (refine LOps.ans (AnsL.add rfl rfl ?_) ?_; (focus (constructor <;> omega)))) | (refine kIdx ?_; first | (refine LOps.ans (AnsL.idx tT_ok rfl rfl rfl rfl rfl hgc rfl rfl) ?_)) | (refine kCallN 50 ?_; first | (refine LOps.ans (AnsL.callP rfl rfl rfl (ok50) (hTy _)) ?_)))
        | (refine kWL ?_; first | (refine WL.seq ?_) | (refine WL.region (by kernel_rfl) ?_) | (refine WL.block ?_) | (refine WL.skip ?_) | (refine kCond ?_; first | (refine WL.condT' rfl ?_ ?_; (focus (first | (exact decide_eq_true (by assumption)))))))
        | (refine lthen_n ?_)
        | (refine lblock_n ?_)
      have e2 : Z ++ D ++ [nmTk cnm] ++ [nmTk tx] = Y ++ colsT 0 (cs.take (k + 1)) := by
        rw [hsc, ← hZ, ← hD, ← htx]
        simp [colT]
      rw [e2] at hh
      exact lbackH.of (k + 1, y) ⟨rfl, rfl, rfl, rfl, rfl, rfl, rfl, trivial⟩ hh (.cons 0 rfl rfl (.cons 0 rfl rfl .nil)) hkt (by dsimp only; omega)
    · have hkg' : ¬ (k : Int) < (cs.length : Int) := by omega
      have ek : cs.take k = cs := List.take_of_length_le hkg
      rw [ek] at hh hZl
      have r4 := implsign_p [41] (Y ++ colsT 0 cs) (by omega)
      repeat' first
        | (refine kCallN 49 ?_ ; first | (refine LOps.ptrB 0 rfl rfl ok49 hh (r4 _) (.cons 0 rfl rfl .nil) rfl rfl ?_ ; intro s y hq hh ; try dsimp only [List.cons_append, List.nil_append] at hh))
        | (refine kOps ?_; first | (refine LOps.nil ?_) | (refine LOps.ev tT_ok rfl ?_) | (refine kBin ?_; first | (refine LOps.ans (AnsL.add rfl rfl ?_) ?_; (focus (constructor <;> omega)))))
        | (refine kWL ?_; first | (refine WL.seq ?_) | (refine WL.region (by kernel_rfl) ?_) | (refine WL.exit ?_) | (refine kCond ?_; first | (refine WL.condF' rfl ?_ ?_; (focus (first | (exact decide_eq_false (by assumption)))))))
        | (refine lthen_n ?_)
        | (refine lthen_e ?_)
        | (refine lblock_n ?_)
        | (refine lblock_e ?_)
        | (refine lbackH_e ?_)
      have e2 : Y ++ colsT 0 cs ++ [sgTk [41]] = tabsT 0 (ts.take (i + 1)) := by
        rw [hst, ← hY, ← hC]
        simp [tabT]
      rw [e2] at hh
      exact lbackH.of (i + 1, y) ⟨rfl, rfl, rfl, rfl, trivial⟩ hh (.cons 0 rfl rfl (.cons 0 rfl rfl .nil)) hlt (by dsimp only; omega)
  · have hge' : ¬ (i : Int) < (ts.length : Int) := by omega
    have e : ts.take i = ts := List.take_of_length_le hge
    rw [e] at hh
    repeat' first
      | (refine kOps ?_; first | (refine LOps.nil ?_) | (refine LOps.ev tT_ok rfl ?_) | (refine kLoad ?_; first | (refine LOps.ans (AnsL.loadH tT_ok 1 hh rfl rfl rfl rfl) ?_)))
      | (refine kWL ?_; first | (refine WL.seq ?_) | (refine WL.region (by kernel_rfl) ?_) | (refine WL.exit ?_) | (refine WL.ret ?_) | (refine kCond ?_; first | (refine WL.condF' rfl ?_ ?_; (focus (first | (exact decide_eq_false (by assumption)))))))
      | (refine lthen_n ?_)
      | (refine lthen_e ?_)
      | (refine lblock_e ?_)
      | (refine lbackH_e ?_)
      | (refine LPost.r1 (r := .tmp 2) (.inl rfl) (Res1.tmp rfl) ?_)
    exact ⟨_, _, _, rfl, hh, by ((repeat' first | (exact ConsOL.nil) | (exact ConsO.scal rfl) | (exact ConsO.slm0) | (refine' ConsO.op ?_; ((repeat' first | (exact Pick.here) | (refine' Pick.there ?_)); done)) | (refine' ConsOL.cons ?_ ?_) | (refine' ConsO.agg ?_)); done)⟩

end Go.Proofs.YtbnbmcplmipgdaaGreatDoor
