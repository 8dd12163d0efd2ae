/-
  EmptyDb and RowTypes: results in new memory, and the laws. Own work; no condition.
-/
import Derived.Test.YtmcbblcnfdgfmaaDTypes
namespace Go.Proofs.Ytmcbblcnfdgfmaa
open Go
set_option linter.unusedSimpArgs false
set_option linter.unusedVariables false

theorem slW_cons' {α : Type} (f : α → Nat) (a : α) (b : List α) : slW f (a :: b) = 1 + f a + slW f b := by
  simp only [slW, sumW, List.length_cons, List.map_cons, List.sum_cons]; omega
def emptyDb (c : Cat) : Db := ⟨List.replicate c.tables.length ⟨[]⟩⟩

theorem specEmptyDb_o (c : Cat) (h : c.wt ≤ 1048576) (s : S) : VCalls Try.prog 65 [c.toV] s (fun v t => Own2 (emptyDb c).toV v t) := by
  simp only [Cat.wt] at h
  have hl := len_slW Tab.wt c.tables
  have hh : Hold s s.next [] := .start _ _
  refine LCalls.body Try.func65 rfl (by kernel_rfl) ?_
  repeat' first
    | (refine kBox ?_ ; first | (refine LOps.boxH hh rfl rfl ?_ ; intro s n hh))
    | (refine kAlloc ?_ ; refine LOps.allocH tT_ok hh rfl rfl ?_ ; intro s n hh)
    | (refine kStore ?_ ; first | (refine LOps.storeH tT_ok 0 hh rfl rfl rfl rfl rfl rfl rfl rfl rfl ?_ ; intro s hh))
    | (refine kOps ?_; first | (refine LOps.nil ?_) | (refine LOps.ev tT_ok rfl ?_))
    | (refine kWL ?_; first | (refine WL.seq ?_) | (refine WL.region (by kernel_rfl) ?_) | (refine WL.block ?_))
    | (refine lthen_n ?_)
  rename_i h4 s3 n3 h3 s2 n2 h2 s1 h1
  refine WL.zfamC 0 0 1 rfl rfl rfl hh (fun s id hh => ?_)
  replace hh := hh _ rfl _ rfl
  refine WL.loopH (fun x : Nat × List V × List V => c.tables.length - x.1) (fun x => [(1, .ptr n3 0), (2, .ptr n2 0), (3, .ptr n 0), (4, .int .i64 (x.1 : Int))]) (fun x => [.acc id 1 x.2.1 x.2.2, .cell n [.sl id x.2.1], .cell n2 [.nilsl], .cell n3 [.sl 0 (c.tables.map Tab.toV)]])
    (fun x => x.1 ≤ c.tables.length ∧ x.2.2 = List.replicate x.1 (Data.toV ⟨[]⟩)) (0, [], []) ⟨by simp, rfl⟩ ⟨rfl, rfl, rfl, rfl, trivial⟩ hh (by (repeat' first | (exact Sel.nil) | (refine' Sel.p ?_ ?_; rotate_left 1; (focus (((repeat' first | (exact Pick.here) | (refine' Pick.there ?_)); done)))))) (fun x s hI hh => ?_)
  obtain ⟨i, us, ds⟩ := x
  obtain ⟨hi, hd⟩ := hI
  dsimp only at hi hd hh ⊢
  have hus := hh.accLen 0 rfl
  have hdl : ds.length = i := by rw [hd]; simp
  rcases Nat.lt_or_ge i c.tables.length with hlt | hge
  · skip
    repeat' first
      | (refine kStore ?_ ; first | (refine LOps.storeH tT_ok 1 hh rfl rfl rfl rfl rfl rfl rfl rfl rfl ?_ ; intro s hh))
      | (refine kBsl ?_ ; refine' LOps.bslH tT_ok rfl rfl rfl rfl rfl rfl rfl rfl hh ?_ ?_ ?_ ; rotate_left 2 ; (focus ((repeat' first | (exact ConsL.nil) | (exact Cons.nilsl) | (refine' ConsL.cons ?_ ?_) | (refine' Cons.agg ?_)); done)) ; (focus ((repeat' first | (exact ElsH.of rfl)); done)) ; intro s n hh)
      | (refine kApp ?_ ; first | (refine' LOps.appH tT_ok 1 rfl rfl rfl rfl rfl rfl rfl rfl rfl rfl hh ?_ ?_ (AppB.of ?_ rfl) ?_ ; rotate_left 3 ; (focus (first | (refine' ConsSp.ap ?_; ((repeat' first | (exact Pick.here)); done)))) ; (focus ((repeat' first | (exact Elems.of rfl)); done)) ; (focus (first | omega | (simp ; omega))) ; intro s hh))
      | (refine kOps ?_; first | (refine LOps.nil ?_) | (refine LOps.ev tT_ok rfl ?_) | (refine kLoad ?_; first | (refine LOps.ans (AnsL.loadH tT_ok 1 hh rfl rfl rfl rfl) ?_) | (refine LOps.ans (AnsL.loadH tT_ok 3 hh rfl rfl rfl rfl) ?_)) | (refine kLen ?_; first | (refine LOps.ans (AnsL.lenM tT_ok rfl rfl rfl) ?_)) | (refine kBin ?_; first | (refine LOps.ans (AnsL.add rfl rfl ?_) ?_; (focus (constructor <;> omega)))))
      | (refine kWL ?_; first | (refine WL.seq ?_) | (refine WL.region (by kernel_rfl) ?_) | (refine WL.block ?_) | (refine WL.skip ?_) | (refine kCond ?_; first | (refine WL.condT' rfl ?_ ?_; (focus (first | (simp only [decide_eq_true_eq, decide_eq_false_iff_not, Bool.not_eq_true', Bool.not_eq_false', Int.ofNat_lt, Int.ofNat_le, Int.ofNat_inj, not_true_eq_false, not_false_eq_true]; omega))))))
      | (refine lthen_n ?_)
      | (refine lblock_n ?_)
    all_goals
      refine' lbackH.of ((i + 1, _, ds ++ [_])) ?_ hh ?_ ?_ ?_
      rotate_left 2
      · repeat' first | exact SubL.nil | (refine SubL.mk rfl ?_ ?_) | rfl | (simp [hd, List.replicate_succ', Data.toV] <;> fail) | (simp [hd, List.replicate_succ', Data.toV]; omega)
      · first | ((repeat' first | (exact Sel.nil) | (refine' Sel.p ?_ ?_; rotate_left 1; (focus (((repeat' first | (exact Pick.here) | (refine' Pick.there ?_)); done))))); done) | (dsimp only; simp only [List.map_append, List.map_cons, List.map_nil]; (repeat' first | (exact Sel.nil) | (refine' Sel.p ?_ ?_; rotate_left 1; (focus (((repeat' first | (exact Pick.here) | (refine' Pick.there ?_)); done))))); done) | (dsimp only; simp only [List.map_append, List.map_cons, List.map_nil, hd, List.replicate_succ', Data.toV]; (repeat' first | (exact Sel.nil) | (refine' Sel.p ?_ ?_; rotate_left 1; (focus (((repeat' first | (exact Pick.here) | (refine' Pick.there ?_)); done))))); done)
      · dsimp only; repeat' first | omega | assumption | (refine And.intro ?_ ?_) | rfl | (simp [hd, List.replicate_succ', Data.toV] <;> fail) | (simp [hd, List.replicate_succ', Data.toV]; omega) | (simp_all [hd, List.replicate_succ', Data.toV] <;> fail) | (simp_all [hd, List.replicate_succ', Data.toV]; omega)
      · dsimp only; first | omega | (simp; omega) | (simp_all; omega)
  · have e : i = c.tables.length := by omega
    subst e
    repeat' first
      | (refine kStore ?_ ; first | (refine LOps.storeH tT_ok 2 hh rfl rfl rfl rfl rfl rfl rfl rfl rfl ?_ ; intro s hh))
      | (refine kOps ?_; first | (refine LOps.nil ?_) | (refine LOps.ev tT_ok rfl ?_) | (refine kLoad ?_; first | (refine LOps.ans (AnsL.loadH tT_ok 1 hh rfl rfl rfl rfl) ?_) | (refine LOps.ans (AnsL.loadH tT_ok 3 hh rfl rfl rfl rfl) ?_)) | (refine kLen ?_; first | (refine LOps.ans (AnsL.lenM tT_ok rfl rfl rfl) ?_)))
      | (refine kWL ?_; first | (refine WL.seq ?_) | (refine WL.region (by kernel_rfl) ?_) | (refine WL.exit ?_) | (refine WL.ret ?_) | (refine kCond ?_; first | (refine WL.condF' rfl ?_ ?_; (focus (first | (simp only [decide_eq_true_eq, decide_eq_false_iff_not, Bool.not_eq_true', Bool.not_eq_false', Int.ofNat_lt, Int.ofNat_le, Int.ofNat_inj, not_true_eq_false, not_false_eq_true]; omega))))))
      | (refine lthen_n ?_)
      | (refine lthen_e ?_)
      | (refine lblock_e ?_)
      | (refine lbackH_e ?_)
      | (refine' LPost.r1 (r := .cell 2 82) (.inl rfl) ?_ ?_; rotate_left 1; (focus (first | exact Res1.cellH 0 tT_ok hh rfl rfl rfl rfl | exact Res1.cellH 1 tT_ok hh rfl rfl rfl rfl | exact Res1.cellH 2 tT_ok hh rfl rfl rfl rfl | exact Res1.cellH 3 tT_ok hh rfl rfl rfl rfl | exact Res1.cellH 4 tT_ok hh rfl rfl rfl rfl | exact Res1.cellH 5 tT_ok hh rfl rfl rfl rfl | exact Res1.cellH 6 tT_ok hh rfl rfl rfl rfl | exact Res1.cellH 7 tT_ok hh rfl rfl rfl rfl | exact Res1.cellHW 0 tT_ok hh rfl rfl rfl rfl | exact Res1.cellHW 1 tT_ok hh rfl rfl rfl rfl | exact Res1.cellHW 2 tT_ok hh rfl rfl rfl rfl | exact Res1.cellHW 3 tT_ok hh rfl rfl rfl rfl | exact Res1.cellHW 4 tT_ok hh rfl rfl rfl rfl | exact Res1.cellHW 5 tT_ok hh rfl rfl rfl rfl | exact Res1.cellHW 6 tT_ok hh rfl rfl rfl rfl | exact Res1.cellHW 7 tT_ok hh rfl rfl rfl rfl)))
    subst hd
    have e : (emptyDb c).toV = .agg [.sl 0 (List.replicate c.tables.length (Data.toV ⟨[]⟩))] := by simp [emptyDb, Db.toV]
    rw [e]
    exact Own2.ofH hh (by ((repeat' first | (exact ConsL.nil) | (exact ConsL.pls rfl rfl) | (exact Cons.pl rfl rfl) | (exact Cons.zsl) | (exact Cons.nilsl) | (refine' Cons.bp ?_; ((repeat' first | (exact Pick.here) | (refine' Pick.there ?_)); done)) | (refine' Cons.ap ?_; ((repeat' first | (exact Pick.here) | (refine' Pick.there ?_)); done)) | (exact Cons.blk 0 rfl rfl rfl) | (exact Cons.blk 1 rfl rfl rfl) | (exact Cons.blk 2 rfl rfl rfl) | (exact Cons.blk 3 rfl rfl rfl) | (exact Cons.pl (by assumption) (by assumption)) | (exact ConsL.pls (by assumption) (by assumption)) | (refine' ConsL.cons ?_ ?_) | (refine' Cons.agg ?_)); done))

theorem Own2.agg1 {d v : V} {t : S} (h : Own2 d v t) : Own2 (.agg [d]) (.agg [v]) t := by
  obtain ⟨ls, h1, h2⟩ := h
  exact ⟨ls ++ [], .agg (.cons h1 .nil), by rw [List.append_nil]; exact h2⟩
theorem TrL.nils (t : S) : ∀ n : Nat, TrL t (List.replicate n [V.nilsl]).flatten (V.flat (List.replicate n (Data.toV ⟨[]⟩))) []
  | 0 => .nil
  | n + 1 => by
    rw [List.replicate_succ, List.replicate_succ, List.flatten_cons, flat_cons]
    exact .cons (a := []) .nilsl (TrL.nils t n)
theorem emptyDb_toV (c : Cat) : (emptyDb c).toV = .agg [.sl 0 (List.replicate c.tables.length (Data.toV ⟨[]⟩))] := by simp [emptyDb, Db.toV]
theorem implEmptyDb_o (c : Cat) (h : c.wt ≤ 1048576) (s : S) : VCalls Try.prog 66 [c.toV] s (fun v t => Own2 (emptyDb c).toV v t) := by
  simp only [Cat.wt] at h
  have hl := len_slW Tab.wt c.tables
  rw [emptyDb_toV]
  refine LCalls.body Try.func66 rfl (by kernel_rfl) ?_
  repeat' first
    | (refine kOps ?_; first | (refine LOps.nil ?_) | (refine kStore ?_; refine LOps.storeP tT_ok rfl rfl rfl rfl rfl rfl rfl rfl rfl ?_) | (refine LOps.ev tT_ok rfl ?_) | (refine kBox ?_; refine LOps.box rfl rfl rfl rfl ?_) | (refine kAlloc ?_; refine LOps.alloc tT_ok rfl rfl rfl rfl ?_) | (refine kMake ?_; first | (refine LOps.make tT_ok rfl rfl rfl rfl rfl rfl rfl rfl (AppB.of ?_ rfl) ?_; (focus (first | omega)))) | (refine kLoad ?_; first | (refine LOps.ans (AnsL.loadP tT_ok rfl rfl rfl rfl) ?_)) | (refine kLen ?_; first | (refine LOps.ans (AnsL.lenM tT_ok rfl rfl rfl) ?_)))
    | (refine kWL ?_; first | (refine WL.seq ?_) | (refine WL.region (by kernel_rfl) ?_) | (refine WL.ret ?_))
    | (refine lthen_n ?_)
    | (refine LPost.r1 (r := .cell 2 82) (.inl rfl) (Res1.cell tT_ok rfl rfl rfl rfl) ?_)
  exact Own2.agg1 (Own2.made (ls := []) 1 (by simp) rfl (fun x hx => by rw [List.mem_replicate] at hx; rw [hx.2]; rfl) (TrL.nils _ _) List.nodup_nil (by simp))
theorem sc_tabs (l : List Tab) (h : slW Tab.wt l ≤ 1048576) : scL (l.map Tab.toV) ≤ 2097153 * l.length := by
  induction l with
  | nil => simp [scL]
  | cons t l ih =>
    rw [slW_cons'] at h
    have h1 := ih (by omega)
    have h2 := scL_map (f := Col.toV) 2 (fun _ => Nat.le_refl 2) t.cols
    have h3 := len_slW Col.wt t.cols
    simp only [Tab.wt] at h
    simp only [List.map_cons, scL, Tab.toV, sc, List.length_cons] at *
    omega
theorem nk_cat (c : Cat) (h : c.wt ≤ 1048576) : nkT c.toV 1 ≤ 4000000000000 := by
  simp only [Cat.wt] at h
  have a1 := nkT_sc c.toV 1
  have a2 := sc_tabs c.tables h
  have a3 := len_slW Tab.wt c.tables
  simp only [Cat.toV, sc, scL] at a1 a2 ⊢
  omega
theorem lawEmptyDb_v (x : Cat) (s : S) : VCalls Try.prog 14 [x.toV] s (fun v _ => v = .bool true) := by
  have hx : x.toV.plain = true := plainL_cons (plain_TableS _) rfl
  have hr : (emptyDb x).toV.plain = true := plainL_cons (plain_DataS _) rfl
  have hh : Hold s s.next [] := .start _ _
  refine LCalls.body Try.func14 rfl (by kernel_rfl) ?_
  by_cases hb : 1048576 < x.wt
  · skip
    repeat' first
      | (refine kOps ?_; first | (refine LOps.nil ?_) | (refine LOps.ev tT_ok rfl ?_) | (refine kBox ?_; refine LOps.box rfl rfl rfl rfl ?_) | (refine kLoad ?_; first | (refine LOps.ans (AnsL.loadP tT_ok rfl rfl rfl rfl) ?_)) | (refine kCallN 29 ?_; first | (refine LOps.ans (AnsL.callP rfl rfl rfl (ok29) (szCat_no _ _ ?_ ?_ ?_ _)) ?_; (focus (omega)); (focus (omega)); (focus (omega)))))
      | (refine kWL ?_; first | (refine WL.seq ?_) | (refine WL.region (by kernel_rfl) ?_) | (refine WL.ret ?_) | (refine kCond ?_; first | (refine WL.condT rfl ?_)))
      | (refine lthen_n ?_)
      | (refine lthen_r ?_)
      | (refine LPost.r1 (r := .tmp 2) (.inl rfl) (Res1.tmp rfl) ?_)
    rfl
  have hl := len_slW Tab.wt x.tables
  have hxw : slW Tab.wt x.tables ≤ 1048576 := by simp only [Cat.wt] at hb; omega
  have hw : (emptyDb x).wt ≤ 1048576 := by
    have e : ∀ n, slW Data.wt (List.replicate n (⟨[]⟩ : Data)) = n := fun n => by
      induction n with
      | zero => rfl
      | succ n ih => rw [List.replicate_succ, slW_cons', ih]; simp [Data.wt, slW, sumW]; omega
    simp only [emptyDb, Db.wt, e]
    omega
  have h1 : (1 : Int) ≤ nkT x.toV 1 := nkT_le _ _
  have h2 : (1 : Int) ≤ nkT (emptyDb x).toV 1 := nkT_le _ _
  have h3 := nk_cat x (by omega)
  have h4 : nkT (emptyDb x).toV 1 ≤ 4000000000000 := by
    have a1 := nkT_sc (emptyDb x).toV 1
    have e : ∀ n, scL (List.replicate n (Data.toV ⟨[]⟩)) = 0 := fun n => by
      induction n with
      | zero => rfl
      | succ n ih => rw [List.replicate_succ, scL, ih]; rfl
    rw [emptyDb_toV] at a1 ⊢
    simp only [sc, scL, e] at a1 ⊢
    omega
  repeat' first
    | (refine kBox ?_ ; first | (refine LOps.boxH hh rfl rfl ?_ ; intro s n hh))
    | (refine kAlloc ?_ ; refine LOps.allocH tT_ok hh rfl rfl ?_ ; intro s n hh)
    | (refine kStore ?_ ; first | (refine LOps.storeHW tT_ok 0 hh rfl rfl rfl rfl rfl rfl rfl ?_ ; intro s hh))
    | (refine kCallN 31 ?_ ; refine LOps.lendH rfl rfl ok31 hh ?_ (fun t => toCat_o x (by omega) t) (hx) ?_ ; (focus ((repeat' first | (exact RdH.nil) | (refine RdH.cons ?_ ?_) | (refine RdV.pl ?_; (focus (first | (assumption))))); done)) ; intro s n hh)
    | (refine kCallN 65 ?_ ; refine LOps.lendH rfl rfl ok65 hh ?_ (fun t => specEmptyDb_o x (by omega) t) (hr) ?_ ; (focus ((repeat' first | (exact RdH.nil) | (refine RdH.cons ?_ ?_) | (refine RdV.th' ?_; (focus (((repeat' first | (exact .head _)); done))))); done)) ; intro s n hh)
    | (refine kCallN 66 ?_ ; refine LOps.lendH rfl rfl ok66 hh ?_ (fun t => implEmptyDb_o x (by omega) t) (hr) ?_ ; (focus ((repeat' first | (exact RdH.nil) | (refine RdH.cons ?_ ?_) | (refine RdV.th' ?_; (focus (((repeat' first | (exact .head _) | (refine .tail _ ?_)); done))))); done)) ; intro s n hh)
    | (refine kCallN 57 ?_ ; first | (refine LOps.markH 3 rfl rfl ok57 hh rfl rfl (markCatalog_t x) rfl ?_ ?_ ?_ ; (focus (first | assumption | omega)) ; (focus (first | assumption | omega)) ; intro s hh))
    | (refine kCallN 67 ?_ ; first | (refine LOps.markH 1 rfl rfl ok67 hh rfl rfl (markDb_t (emptyDb x)) rfl ?_ ?_ ?_ ; (focus (first | assumption | omega)) ; (focus (first | assumption | omega)) ; intro s hh))
    | (refine kOps ?_; first | (refine LOps.nil ?_) | (refine kG ?_; first | (refine LOps.gT rfl rfl rfl ?_) | (refine LOps.gD false rfl rfl rfl ?_ ?_; (focus (first | (simp only [decide_eq_true_eq, decide_eq_false_iff_not, Bool.not_eq_true', Bool.not_eq_false', Int.ofNat_lt, Int.ofNat_le, Int.ofNat_inj, not_true_eq_false, not_false_eq_true]; omega))))) | (refine LOps.ev tT_ok rfl ?_) | (refine kLoad ?_; first | (refine LOps.ans (AnsL.loadHW tT_ok 0 hh rfl rfl rfl rfl) ?_) | (refine LOps.ans (AnsL.loadHW tT_ok 2 hh rfl rfl rfl rfl) ?_) | (refine LOps.ans (AnsL.loadHW tT_ok 3 hh rfl rfl rfl rfl) ?_) | (refine LOps.ans (AnsL.loadHW tT_ok 4 hh rfl rfl rfl rfl) ?_) | (refine LOps.ans (AnsL.loadHW tT_ok 7 hh rfl rfl rfl rfl) ?_) | (refine LOps.ans (AnsL.loadH tT_ok 0 hh rfl rfl rfl rfl) ?_) | (refine LOps.ans (AnsL.loadH tT_ok 3 hh rfl rfl rfl rfl) ?_) | (refine LOps.ans (AnsL.loadH tT_ok 7 hh rfl rfl rfl rfl) ?_)) | (refine kCallN 29 ?_; first | (refine LOps.ans (AnsL.callP rfl rfl rfl (ok29) (szCat_ok _ _ ?_ ?_ _)) ?_; (focus (omega)); (focus (omega)))) | (refine kCallN 52 ?_; first | (refine LOps.ans (AnsL.callP rfl rfl rfl ok52 (VCalls.lookH rfl hh ?_ (fun t => eqDb_v (emptyDb x) (by omega) t))) ?_; (focus (((repeat' first | (exact RdH.nil) | (refine RdH.cons ?_ ?_) | (refine RdV.th' ?_; (focus (((repeat' first | (exact .head _) | (refine .tail _ ?_)); done))))); done))))) | (refine kCallN 68 ?_; first | (refine LOps.ans (AnsL.callP rfl rfl rfl ok68 (VCalls.lookH rfl hh ?_ (fun t => heldDb_t (emptyDb x) 1 t (by decide) h4))) ?_; (focus (((repeat' first | (exact RdH.nil) | (refine RdH.cons ?_ ?_) | (refine RdV.mk' ?_; (focus (((repeat' first | (exact .head _) | (refine .tail _ ?_)); done)))) | (refine RdV.pl ?_; (focus (first | (rfl))))); done))))))
    | (refine kWL ?_; first | (refine WL.seq ?_) | (refine WL.region (by kernel_rfl) ?_) | (refine WL.drawn (id := 10) [0, 1, 2, 3, 4] [] [[], [], [1], [0, 1, 2], [0, 1, 2, 3]] (by kernel_rfl) (by kernel_rfl) ?_) | (refine WL.skip ?_) | (refine WL.ret ?_) | (refine kCond ?_; first | (refine WL.condF rfl ?_) | (refine WL.condF' rfl ?_ ?_; (focus (first | (simp only [decide_eq_true_eq, decide_eq_false_iff_not, Bool.not_eq_true', Bool.not_eq_false', Int.ofNat_lt, Int.ofNat_le, Int.ofNat_inj, not_true_eq_false, not_false_eq_true]; omega) | (simp <;> fail))))))
    | (refine kDr ?_; first | (refine LDr.nil ?_) | (refine LDr.fl rfl rfl (.ev tT_ok rfl) ?_) | (refine kDLoad rfl ?_; first | (refine LDr.fl rfl rfl (AnsL.loadHW tT_ok 2 hh rfl rfl rfl rfl) ?_) | (refine LDr.fl rfl rfl (AnsL.loadH tT_ok 7 hh rfl rfl rfl rfl) ?_)) | (refine kDCallN 31 rfl ?_; first | (refine LDr.fl rfl rfl (AnsL.callP rfl rfl rfl (ok31) (toCat_v _ ?_ _)) ?_; (focus (omega)))) | (refine kDCallN 33 rfl ?_; first | (refine LDr.fl rfl rfl (AnsL.callP rfl rfl rfl ok33 (VCalls.lookH rfl hh ?_ (fun t => eqCat_v x (by omega) t))) ?_; (focus (((repeat' first | (exact RdH.nil) | (refine RdH.cons ?_ ?_) | (refine RdV.th' ?_; (focus (((repeat' first | (exact .head _) | (refine .tail _ ?_)); done)))) | (refine RdV.pl ?_; (focus (first | (assumption))))); done))))))
    | (refine lthen_n ?_)
    | (refine LPost.r1 (r := .tmp 2) (.inl rfl) (Res1.tmp rfl) ?_)
  rfl

theorem plain_Tab (x : Tab) : x.toV.plain = true := plainL_cons rfl (plainL_cons (plain_ColS _) rfl)
def rowsOf (c : Cat) (ts : List Int) : List Int := ts.flatMap fun k => (c.tables[k.toNat]?.map Tab.types).getD []
def rowIn (c : Cat) (k : Int) : Bool := inR k 0 ((c.tables.length : Int) - 1)
def rowTy (c : Cat) (ts : List Int) : List Int × Bool := if ts.all (rowIn c) then (rowsOf c ts, true) else ([], false)
theorem rowsOf_len (c : Cat) (h : c.wt ≤ 1048576) (ts : List Int) : (rowsOf c ts).length ≤ 1048576 * ts.length := by
  induction ts with
  | nil => simp [rowsOf]
  | cons k ts ih =>
    have h1 : ((c.tables[k.toNat]?.map Tab.types).getD []).length ≤ 1048576 := by
      cases hk : c.tables[k.toNat]? with
      | none => simp
      | some t =>
        obtain ⟨hlt, e⟩ := List.getElem?_eq_some_iff.1 hk
        have h2 := mem_slW (f := Tab.wt) hlt
        rw [e] at h2
        have h3 := len_slW Col.wt t.cols
        simp only [Cat.wt] at h
        simp only [Tab.wt] at h2
        simp only [Option.map_some, Option.getD_some, Tab.types, List.length_map]
        omega
    simp only [rowsOf, List.flatMap_cons, List.length_append, List.length_cons] at *
    omega
theorem rowsOf_take {c : Cat} {ts : List Int} {i n : Nat} (hi : i < ts.length) (hn : ts[i] = (n : Int)) (hlt : n < c.tables.length) : rowsOf c (ts.take (i + 1)) = rowsOf c (ts.take i) ++ c.tables[n].types := by
  rw [List.take_succ_eq_append_getElem hi]
  simp [rowsOf, hn, hlt]
theorem all_take {α : Type} {p : α → Bool} {l : List α} {i : Nat} (hi : i < l.length) : (l.take (i + 1)).all p = ((l.take i).all p && p l[i]) := by
  rw [List.take_succ_eq_append_getElem hi, List.all_append]
  simp
theorem rowTy_no {c : Cat} {ts : List Int} {i : Nat} (hi : i < ts.length) (h : rowIn c ts[i] = false) : rowTy c ts = ([], false) := by
  have : ts.all (rowIn c) = false := by
    rw [List.all_eq_false]
    exact ⟨ts[i], List.getElem_mem hi, by simp [h]⟩
  simp [rowTy, this]
theorem rowIn_nat {c : Cat} {k : Int} (h : rowIn c k = true) : ∃ n : Nat, k = (n : Int) ∧ n < c.tables.length := by
  simp only [rowIn, inR, Bool.and_eq_true, decide_eq_true_eq] at h
  exact ⟨k.toNat, by omega, by omega⟩
def rowV (r : List Int × Bool) : V := .tup [ints r.1, .bool r.2]

theorem specRowTypes_o (c : Cat) (ts : List Int) (h : c.wt ≤ 1048576) (ht : ts.length ≤ 1048576) (s : S) : VCalls Try.prog 53 [c.toV, ints ts] s (fun v t => Own2 (.tup [ints (rowTy c ts).1, .bool (rowTy c ts).2]) v t) := by
  have hl := len_slW Tab.wt c.tables
  have hcw := h
  simp only [Cat.wt] at hcw
  refine LCalls.body Try.func53 rfl (by kernel_rfl) ?_
  repeat' first
    | (refine kOps ?_; first | (refine LOps.nil ?_) | (refine LOps.ev tT_ok rfl ?_) | (refine kBox ?_; refine LOps.box rfl rfl rfl rfl ?_) | (refine kBsl ?_; first | (refine LOps.bsl0 tT_ok rfl rfl rfl rfl rfl ?_)))
    | (refine kWL ?_; first | (refine WL.seq ?_) | (refine WL.region (by kernel_rfl) ?_) | (refine WL.block ?_))
    | (refine lthen_n ?_)
  refine WL.zfam (t := 6) 1 rfl rfl rfl rfl ?_
  refine WL.loopD (fun i : Nat => ts.length - i) (fun i => [(1, ints ts), (2, .ptr (s.next + 0) 0), (6, .sl (s.next + 1) ((rowsOf c (ts.take i)).map iV)), (7, .int .i64 (i : Int))]) (fun i => [.var [.sl 0 (c.tables.map Tab.toV)], .fam (rowsOf c (ts.take i)).length 1])
    (fun i => i ≤ ts.length ∧ (ts.take i).all (rowIn c) = true) 2 0 (by simp) (fun _ => rfl) ⟨rfl, rfl, rfl, rfl, trivial⟩ rfl (fun i hi => ?_) (fun i hi => ?_)
  · simp [UnderK, UnderX, Own.under, V.under, V.underL, ints]
  obtain ⟨hi, ha⟩ := hi
  have hlen := rowsOf_len c h (ts.take i)
  rw [List.length_take, Nat.min_eq_left hi] at hlen
  rcases Nat.lt_or_ge i ts.length with hlt | hge
  · cases hr : rowIn c ts[i]
    · rw [rowTy_no hlt hr]
      have hga : (ts.map iV)[i]? = some (iV ts[i]) := by simp [hlt]
      generalize ts[i] = k at hga hr
      have hI : ∀ t, VCalls Try.prog 96 [.int .i64 k, .int .i64 0, .int .i64 ((c.tables.length : Int) - 1)] t (fun v t' => v = .bool false ∧ t' = t) := fun t => by rw [← hr]; exact specl1In_v _ _ _ t
      repeat' first
        | (refine kOps ?_; first | (refine LOps.nil ?_) | (refine LOps.ev tT_ok rfl ?_) | (refine kBsl ?_; first | (refine LOps.bsl0 tT_ok rfl rfl rfl rfl rfl ?_)) | (refine kLen ?_; first | (refine LOps.ans (AnsL.lenM tT_ok rfl rfl rfl) ?_)))
        | (refine kWL ?_; first | (refine WL.seq ?_) | (refine WL.region (by kernel_rfl) ?_) | (refine WL.drawn (id := 5) [0, 1, 2, 3, 4, 5, 6, 7, 8, 9] [] [[], [], [0, 1], [0, 1, 2], [], [4], [4, 5], [4, 5, 6], [0, 1, 2, 3, 4, 5, 6, 7], [0, 1, 2, 3, 4, 5, 6, 7, 8]] (by kernel_rfl) (by kernel_rfl) ?_) | (refine WL.block ?_) | (refine WL.skip ?_) | (refine WL.ret ?_) | (refine kCond ?_; first | (refine WL.condT rfl ?_) | (refine WL.condT' rfl ?_ ?_; (focus (first | (simp only [decide_eq_true_eq, decide_eq_false_iff_not, Bool.not_eq_true', Bool.not_eq_false', Int.ofNat_lt, Int.ofNat_le, Int.ofNat_inj, not_true_eq_false, not_false_eq_true]; omega))))))
        | (refine kDr ?_; first | (refine LDr.nil ?_) | (refine LDr.fl rfl rfl (.ev tT_ok rfl) ?_) | (refine kDLoad rfl ?_; first | (refine LDr.fl rfl rfl (AnsL.loadP tT_ok rfl rfl rfl rfl) ?_)) | (refine kDLen rfl ?_; first | (refine LDr.fl rfl rfl (AnsL.lenM tT_ok rfl rfl rfl) ?_)) | (refine kDBin rfl ?_; first | (refine LDr.fl rfl rfl (AnsL.sub rfl rfl ?_) ?_; (focus (constructor <;> omega)))) | (refine kDIdx rfl ?_; first | (refine LDr.fl rfl rfl (AnsL.idx tT_ok rfl rfl rfl rfl rfl hga rfl rfl) ?_)) | (refine kDCallN 96 rfl ?_; first | (refine LDr.fl rfl rfl (AnsL.callP rfl rfl rfl (ok96) (hI _)) ?_)))
        | (refine lthen_n ?_)
        | (refine lthen_r ?_)
        | (refine lblock_r ?_)
        | (refine lbackD_r ?_)
        | (refine LPost.r2 (r := .tmp 4) (r' := .tmp 5) (.inl rfl) (Res1.tmp rfl) (Res1.tmp rfl) ?_)
      exact Own2.tup1 ⟨[], .zsl, List.nodup_nil⟩ rfl
    · have hall := all_take (p := rowIn c) hlt
      rw [ha, hr] at hall
      obtain ⟨n, hn, hnt⟩ := rowIn_nat hr
      have htk := rowsOf_take hlt hn hnt
      have hga : (ts.map iV)[i]? = some (iV (n : Int)) := by simp [hlt, hn]
      have hw := mem_slW (f := Tab.wt) hnt
      have hT : ∀ t, VCalls Try.prog 117 [c.tables[n].toV] t (fun v t' => v = ints c.tables[n].types ∧ t' = t) := fun t =>
        VCalls.pureOf (plainL_cons (plain_Tab _) rfl) (plain_IntS _) (fun t => specTypesOf_o c.tables[n] (by omega) t) t
      have hgb : (c.tables.map Tab.toV)[n]? = some c.tables[n].toV := by simp [hnt]
      have htl : c.tables[n].types.length ≤ 1048576 := by
        have h3 := len_slW Col.wt c.tables[n].cols
        simp only [Tab.wt] at hw
        simp only [Tab.types, List.length_map]
        omega
      have hrn : inR (n : Int) 0 ((c.tables.length : Int) - 1) = true := by rw [← hn]; exact hr
      generalize c.tables[n] = tb at hgb htk hT htl
      have hI : ∀ t, VCalls Try.prog 96 [.int .i64 (n : Int), .int .i64 0, .int .i64 ((c.tables.length : Int) - 1)] t (fun v t' => v = .bool true ∧ t' = t) := fun t => by rw [← hrn]; exact specl1In_v _ _ _ t
      repeat' first
        | (refine kOps ?_; first | (refine LOps.nil ?_) | (refine LOps.ev tT_ok rfl ?_) | (refine kApp ?_; first | (refine LOps.app tT_ok rfl rfl rfl rfl rfl rfl rfl rfl rfl rfl rfl ?_ ?_ (AppB.of ?_ rfl) ?_; (focus (first | rfl | (simp <;> fail))); (focus (first | exact Elems.of rfl | exact Elems.map fun _ => rfl)); (focus (first | omega | (simp; omega))))) | (refine kLen ?_; first | (refine LOps.ans (AnsL.lenM tT_ok rfl rfl rfl) ?_)) | (refine kBin ?_; first | (refine LOps.ans (AnsL.add rfl rfl ?_) ?_; (focus (constructor <;> omega)))))
        | (refine kWL ?_; first | (refine WL.seq ?_) | (refine WL.region (by kernel_rfl) ?_) | (refine WL.drawn (id := 5) [0, 1, 2, 3, 4, 5, 6, 7, 8, 9] [] [[], [], [0, 1], [0, 1, 2], [], [4], [4, 5], [4, 5, 6], [0, 1, 2, 3, 4, 5, 6, 7], [0, 1, 2, 3, 4, 5, 6, 7, 8]] (by kernel_rfl) (by kernel_rfl) ?_) | (refine WL.drawn (id := 7) [0, 1, 2, 3, 4, 5, 6, 7, 8, 9, 10, 11] [10, 11] [[], [], [1], [], [], [3, 4], [3, 4, 5], [1, 2, 3, 4, 5, 6], [1, 2, 3, 4, 5, 6, 7], [1, 2, 3, 4, 5, 6, 7, 8], [0, 1, 2, 3, 4, 5, 6, 7, 8, 9], [0, 1, 2, 3, 4, 5, 6, 7, 8, 9, 10]] (by kernel_rfl) (by kernel_rfl) ?_) | (refine WL.block ?_) | (refine WL.skip ?_) | (refine kCond ?_; first | (refine WL.condF rfl ?_) | (refine WL.condT' rfl ?_ ?_; (focus (first | (simp only [decide_eq_true_eq, decide_eq_false_iff_not, Bool.not_eq_true', Bool.not_eq_false', Int.ofNat_lt, Int.ofNat_le, Int.ofNat_inj, not_true_eq_false, not_false_eq_true]; omega))))))
        | (refine kDr ?_; first | (refine LDr.nil ?_) | (refine LDr.fl rfl rfl (.ev tT_ok rfl) ?_) | (refine kDLoad rfl ?_; first | (refine LDr.fl rfl rfl (AnsL.loadP tT_ok rfl rfl rfl rfl) ?_)) | (refine kDLen rfl ?_; first | (refine LDr.fl rfl rfl (AnsL.lenM tT_ok rfl rfl rfl) ?_)) | (refine kDBin rfl ?_; first | (refine LDr.fl rfl rfl (AnsL.sub rfl rfl ?_) ?_; (focus (constructor <;> omega)))) | (refine kDIdx rfl ?_; first | (refine LDr.fl rfl rfl (AnsL.idx tT_ok rfl rfl rfl rfl rfl hga rfl rfl) ?_) | (refine LDr.fl rfl rfl (AnsL.idx tT_ok rfl rfl rfl rfl rfl hgb rfl rfl) ?_)) | (refine kDCallN 117 rfl ?_; first | (refine LDr.fl rfl rfl (AnsL.callP rfl rfl rfl (ok117) (hT _)) ?_)) | (refine kDCallN 96 rfl ?_; first | (refine LDr.fl rfl rfl (AnsL.callP rfl rfl rfl (ok96) (hI _)) ?_)) | (refine LDr.eff rfl rfl rfl ?_))
        | (refine lthen_n ?_)
        | (refine lblock_n ?_)
        | (refine And.intro ?_ ?_)
        | (exact StsL.nil)
      refine lbackD.of (i + 1) ⟨by omega, hall⟩ (by omega) ?_ ?_
      · rw [htk, List.map_append]
        exact ⟨rfl, rfl, rfl, rfl, trivial⟩
      · rw [htk]
        simp
  · rw [List.take_of_length_le hge] at ha ⊢
    repeat' first
      | (refine kOps ?_; first | (refine LOps.nil ?_) | (refine LOps.ev tT_ok rfl ?_) | (refine kLen ?_; first | (refine LOps.ans (AnsL.lenM tT_ok rfl rfl rfl) ?_)))
      | (refine kWL ?_; first | (refine WL.seq ?_) | (refine WL.region (by kernel_rfl) ?_) | (refine WL.exit ?_) | (refine WL.ret ?_) | (refine kCond ?_; first | (refine WL.condF' rfl ?_ ?_; (focus (first | (simp only [decide_eq_true_eq, decide_eq_false_iff_not, Bool.not_eq_true', Bool.not_eq_false', Int.ofNat_lt, Int.ofNat_le, Int.ofNat_inj, not_true_eq_false, not_false_eq_true]; omega))))))
      | (refine lthen_n ?_)
      | (refine lthen_e ?_)
      | (refine lblock_e ?_)
      | (refine lbackD_e ?_)
      | (refine LPost.r2 (r := .tmp 4) (r' := .tmp 5) (.inl rfl) (Res1.tmp rfl) (Res1.tmp rfl) ?_)
    have e : rowTy c ts = (rowsOf c ts, true) := by simp only [rowTy, ha, if_true]
    rw [e]
    exact Own2.tup1 (Own2.fam (f := iV) (cs := rowsOf c ts) (szf := 1) 1 rfl (fun _ => rfl) (fun _ => rfl)) rfl

theorem implRowTypes_o (c : Cat) (ts : List Int) (h : c.wt ≤ 1048576) (ht : ts.length ≤ 1048576) (s : S) : VCalls Try.prog 55 [c.toV, ints ts] s (fun v t => Own2 (.tup [ints (rowTy c ts).1, .bool (rowTy c ts).2]) v t) := by
  have hl := len_slW Tab.wt c.tables
  have hcw := h
  simp only [Cat.wt] at hcw
  refine LCalls.body Try.func55 rfl (by kernel_rfl) ?_
  repeat' first
    | (refine kOps ?_; first | (refine LOps.nil ?_) | (refine LOps.ev tT_ok rfl ?_) | (refine kBox ?_; refine LOps.box rfl rfl rfl rfl ?_) | (refine kBsl ?_; first | (refine LOps.bsl0 tT_ok rfl rfl rfl rfl rfl ?_)) | (refine kLen ?_; first | (refine LOps.ans (AnsL.lenM tT_ok rfl rfl rfl) ?_)))
    | (refine kWL ?_; first | (refine WL.seq ?_) | (refine WL.region (by kernel_rfl) ?_) | (refine WL.block ?_))
    | (refine lthen_n ?_)
  refine WL.zfam (t := 6) 1 rfl rfl rfl rfl ?_
  refine WL.loopD (fun i : Nat => ts.length - i) (fun i => [(2, .ptr (s.next + 0) 0), (6, .sl (s.next + 1) ((rowsOf c (ts.take i)).map iV)), (10, ints ts), (11, .int .i64 ts.length), (12, .int .i64 (i : Int))]) (fun i => [.var [.sl 0 (c.tables.map Tab.toV)], .fam (rowsOf c (ts.take i)).length 1])
    (fun i => i ≤ ts.length ∧ (ts.take i).all (rowIn c) = true) 2 0 (by simp) (fun _ => rfl) ⟨rfl, rfl, rfl, rfl, rfl, trivial⟩ rfl (fun i hi => ?_) (fun i hi => ?_)
  · simp [UnderK, UnderX, Own.under, V.under, V.underL, ints]
  obtain ⟨hi, ha⟩ := hi
  have hlen := rowsOf_len c h (ts.take i)
  rw [List.length_take, Nat.min_eq_left hi] at hlen
  rcases Nat.lt_or_ge i ts.length with hlt | hge
  · cases hr : rowIn c ts[i]
    · rw [rowTy_no hlt hr]
      have hga : (ts.map iV)[i]? = some (iV ts[i]) := by simp [hlt]
      generalize ts[i] = k at hga hr
      simp only [rowIn, inR, Bool.and_eq_false_iff, decide_eq_false_iff_not] at hr
      by_cases hk : k < 0
      · skip
        repeat' first
          | (refine kOps ?_; first | (refine LOps.nil ?_) | (refine kG ?_; first | (refine LOps.gF rfl rfl rfl ?_) | (refine LOps.gD true rfl rfl rfl ?_ ?_; (focus (first | (exact decide_eq_true (by assumption)))))) | (refine LOps.ev tT_ok rfl ?_) | (refine kIdx ?_; first | (refine LOps.ans (AnsL.idx tT_ok rfl rfl rfl rfl rfl hga rfl rfl) ?_)))
          | (refine kWL ?_; first | (refine WL.seq ?_) | (refine WL.region (by kernel_rfl) ?_) | (refine WL.block ?_) | (refine WL.skip ?_) | (refine WL.ret ?_) | (refine kCond ?_; first | (refine WL.condT rfl ?_) | (refine WL.condT' rfl ?_ ?_; (focus (first | (simp only [decide_eq_true_eq, decide_eq_false_iff_not, Bool.not_eq_true', Bool.not_eq_false', Int.ofNat_lt, Int.ofNat_le, Int.ofNat_inj, not_true_eq_false, not_false_eq_true]; omega))))))
          | (refine lthen_n ?_)
          | (refine lthen_r ?_)
          | (refine lblock_r ?_)
          | (refine lbackD_r ?_)
          | (refine LPost.r2 (r := .tmp 4) (r' := .tmp 5) (.inl rfl) (Res1.tmp rfl) (Res1.tmp rfl) ?_)
        exact Own2.tup1 ⟨[], .nilsl, List.nodup_nil⟩ rfl
      · have hk2 : (c.tables.length : Int) ≤ k := by omega
        repeat' first
          | (refine kOps ?_; first | (refine LOps.nil ?_) | (refine kG ?_; first | (refine LOps.gT rfl rfl rfl ?_) | (refine LOps.gD false rfl rfl rfl ?_ ?_; (focus (first | (exact decide_eq_false (by assumption)))))) | (refine LOps.ev tT_ok rfl ?_) | (refine kLoad ?_; first | (refine LOps.ans (AnsL.loadP tT_ok rfl rfl rfl rfl) ?_)) | (refine kLen ?_; first | (refine LOps.ans (AnsL.lenM tT_ok rfl rfl rfl) ?_)) | (refine kIdx ?_; first | (refine LOps.ans (AnsL.idx tT_ok rfl rfl rfl rfl rfl hga rfl rfl) ?_)))
          | (refine kWL ?_; first | (refine WL.seq ?_) | (refine WL.region (by kernel_rfl) ?_) | (refine WL.block ?_) | (refine WL.skip ?_) | (refine WL.ret ?_) | (refine kCond ?_; first | (refine WL.condT' rfl ?_ ?_; (focus (first | (exact decide_eq_true (by assumption)) | (simp only [decide_eq_true_eq, decide_eq_false_iff_not, Bool.not_eq_true', Bool.not_eq_false', Int.ofNat_lt, Int.ofNat_le, Int.ofNat_inj, not_true_eq_false, not_false_eq_true]; omega))))))
          | (refine lthen_n ?_)
          | (refine lthen_r ?_)
          | (refine lblock_r ?_)
          | (refine lbackD_r ?_)
          | (refine LPost.r2 (r := .tmp 4) (r' := .tmp 5) (.inl rfl) (Res1.tmp rfl) (Res1.tmp rfl) ?_)
        exact Own2.tup1 ⟨[], .nilsl, List.nodup_nil⟩ rfl
    · have hall := all_take (p := rowIn c) hlt
      rw [ha, hr] at hall
      obtain ⟨n, hn, hnt⟩ := rowIn_nat hr
      have htk := rowsOf_take hlt hn hnt
      have hga : (ts.map iV)[i]? = some (iV (n : Int)) := by simp [hlt, hn]
      have hw := mem_slW (f := Tab.wt) hnt
      have hT : ∀ t, VCalls Try.prog 38 [c.tables[n].toV] t (fun v t' => v = ints c.tables[n].types ∧ t' = t) := fun t =>
        VCalls.pureOf (plainL_cons (plain_Tab _) rfl) (plain_IntS _) (fun t => implTypesOf_o c.tables[n] (by omega) t) t
      have hgb : (c.tables.map Tab.toV)[n]? = some c.tables[n].toV := by simp [hnt]
      have htl : c.tables[n].types.length ≤ 1048576 := by
        have h3 := len_slW Col.wt c.tables[n].cols
        simp only [Tab.wt] at hw
        simp only [Tab.types, List.length_map]
        omega
      have hrn : inR (n : Int) 0 ((c.tables.length : Int) - 1) = true := by rw [← hn]; exact hr
      generalize c.tables[n] = tb at hgb htk hT htl
      have hk : ¬ (n : Int) < 0 := by omega
      have hk2 : ¬ (c.tables.length : Int) ≤ n := by omega
      repeat' first
        | (refine kOps ?_; first | (refine LOps.nil ?_) | (refine kG ?_; first | (refine LOps.gT rfl rfl rfl ?_)) | (refine LOps.ev tT_ok rfl ?_) | (refine kApp ?_; first | (refine LOps.app tT_ok rfl rfl rfl rfl rfl rfl rfl rfl rfl rfl rfl ?_ ?_ (AppB.of ?_ rfl) ?_; (focus (first | rfl | (simp <;> fail))); (focus (first | exact Elems.of rfl | exact Elems.map fun _ => rfl)); (focus (first | omega | (simp; omega))))) | (refine kLoad ?_; first | (refine LOps.ans (AnsL.loadP tT_ok rfl rfl rfl rfl) ?_)) | (refine kLen ?_; first | (refine LOps.ans (AnsL.lenM tT_ok rfl rfl rfl) ?_)) | (refine kBin ?_; first | (refine LOps.ans (AnsL.add rfl rfl ?_) ?_; (focus (constructor <;> omega)))) | (refine kIdx ?_; first | (refine LOps.ans (AnsL.idx tT_ok rfl rfl rfl rfl rfl hga rfl rfl) ?_) | (refine LOps.ans (AnsL.idx tT_ok rfl rfl rfl rfl rfl hgb rfl rfl) ?_)) | (refine kCallN 38 ?_; first | (refine LOps.ans (AnsL.callP rfl rfl rfl (ok38) (hT _)) ?_)))
        | (refine kWL ?_; first | (refine WL.seq ?_) | (refine WL.region (by kernel_rfl) ?_) | (refine WL.block ?_) | (refine WL.skip ?_) | (refine kCond ?_; first | (refine WL.condT' rfl ?_ ?_; (focus (first | (simp only [decide_eq_true_eq, decide_eq_false_iff_not, Bool.not_eq_true', Bool.not_eq_false', Int.ofNat_lt, Int.ofNat_le, Int.ofNat_inj, not_true_eq_false, not_false_eq_true]; omega)))) | (refine WL.condF' rfl ?_ ?_; (focus (first | (exact decide_eq_false (by assumption)))))))
        | (refine lthen_n ?_)
        | (refine lblock_n ?_)
      refine lbackD.of (i + 1) ⟨by omega, hall⟩ (by omega) ?_ ?_
      · rw [htk, List.map_append]
        exact ⟨rfl, rfl, rfl, rfl, rfl, trivial⟩
      · rw [htk]
        simp
  · rw [List.take_of_length_le hge] at ha ⊢
    repeat' first
      | (refine kOps ?_; first | (refine LOps.nil ?_) | (refine LOps.ev tT_ok rfl ?_))
      | (refine kWL ?_; first | (refine WL.seq ?_) | (refine WL.region (by kernel_rfl) ?_) | (refine WL.exit ?_) | (refine WL.ret ?_) | (refine kCond ?_; first | (refine WL.condF' rfl ?_ ?_; (focus (first | (simp only [decide_eq_true_eq, decide_eq_false_iff_not, Bool.not_eq_true', Bool.not_eq_false', Int.ofNat_lt, Int.ofNat_le, Int.ofNat_inj, not_true_eq_false, not_false_eq_true]; omega))))))
      | (refine lthen_n ?_)
      | (refine lthen_e ?_)
      | (refine lblock_e ?_)
      | (refine lbackD_e ?_)
      | (refine LPost.r2 (r := .tmp 4) (r' := .tmp 5) (.inl rfl) (Res1.tmp rfl) (Res1.tmp rfl) ?_)
    have e : rowTy c ts = (rowsOf c ts, true) := by simp only [rowTy, ha, if_true]
    rw [e]
    exact Own2.tup1 (Own2.fam (f := iV) (cs := rowsOf c ts) (szf := 1) 1 rfl (fun _ => rfl) (fun _ => rfl)) rfl

theorem intS_has {n : Nat} {v : V} (h : Has Try.prog n 60 v) : ∃ xs : List Int, v.forget = ints xs := slice_has (f := iV) Try.underlying60 (fun _ _ h => by obtain ⟨m, rfl⟩ := Has.int Try.underlying3 h; exact ⟨m, rfl⟩) h
theorem lawRowTypes_v (x : Cat) (ts : List Int) (s : S) : VCalls Try.prog 12 [x.toV, ints ts] s (fun v _ => v = .bool true) := by
  have hx : x.toV.plain = true := plainL_cons (plain_TableS _) rfl
  have hh : Hold s s.next [] := .start _ _
  refine LCalls.body Try.func12 rfl (by kernel_rfl) ?_
  by_cases hb2 : (1048576 : Int) < ts.length
  · by_cases hb : 1048576 < x.wt
    · skip
      repeat' first
        | (refine kOps ?_; first | (refine LOps.nil ?_) | (refine LOps.ev tT_ok rfl ?_) | (refine kBox ?_; refine LOps.box rfl rfl rfl rfl ?_) | (refine kLen ?_; first | (refine LOps.ans (AnsL.lenM tT_ok rfl rfl rfl) ?_)))
        | (refine kWL ?_; first | (refine WL.seq ?_) | (refine WL.region (by kernel_rfl) ?_) | (refine WL.ret ?_) | (refine kCond ?_; first | (refine WL.condT' rfl ?_ ?_; (focus (first | (exact decide_eq_true (by assumption)))))))
        | (refine lthen_n ?_)
        | (refine lthen_r ?_)
        | (refine LPost.r1 (r := .tmp 4) (.inl rfl) (Res1.tmp rfl) ?_)
      rfl
    · skip
      repeat' first
        | (refine kOps ?_; first | (refine LOps.nil ?_) | (refine LOps.ev tT_ok rfl ?_) | (refine kBox ?_; refine LOps.box rfl rfl rfl rfl ?_) | (refine kLen ?_; first | (refine LOps.ans (AnsL.lenM tT_ok rfl rfl rfl) ?_)))
        | (refine kWL ?_; first | (refine WL.seq ?_) | (refine WL.region (by kernel_rfl) ?_) | (refine WL.ret ?_) | (refine kCond ?_; first | (refine WL.condT' rfl ?_ ?_; (focus (first | (exact decide_eq_true (by assumption)))))))
        | (refine lthen_n ?_)
        | (refine lthen_r ?_)
        | (refine LPost.r1 (r := .tmp 4) (.inl rfl) (Res1.tmp rfl) ?_)
      rfl
  by_cases hb : 1048576 < x.wt
  · skip
    repeat' first
      | (refine kOps ?_; first | (refine LOps.nil ?_) | (refine LOps.ev tT_ok rfl ?_) | (refine kBox ?_; refine LOps.box rfl rfl rfl rfl ?_) | (refine kLoad ?_; first | (refine LOps.ans (AnsL.loadP tT_ok rfl rfl rfl rfl) ?_)) | (refine kLen ?_; first | (refine LOps.ans (AnsL.lenM tT_ok rfl rfl rfl) ?_)) | (refine kCallN 29 ?_; first | (refine LOps.ans (AnsL.callP rfl rfl rfl (ok29) (szCat_no _ _ ?_ ?_ ?_ _)) ?_; (focus (omega)); (focus (omega)); (focus (omega)))))
      | (refine kWL ?_; first | (refine WL.seq ?_) | (refine WL.region (by kernel_rfl) ?_) | (refine WL.skip ?_) | (refine WL.ret ?_) | (refine kCond ?_; first | (refine WL.condT rfl ?_) | (refine WL.condF' rfl ?_ ?_; (focus (first | (exact decide_eq_false (by assumption)))))))
      | (refine lthen_n ?_)
      | (refine lthen_r ?_)
      | (refine LPost.r1 (r := .tmp 4) (.inl rfl) (Res1.tmp rfl) ?_)
    rfl
  have hl := len_slW Tab.wt x.tables
  have hr1 : (rowTy x ts).1.length ≤ 1048576 * ts.length := by
    unfold rowTy
    split
    · exact rowsOf_len x (by omega) ts
    · simp
  have h1 : (1 : Int) ≤ nkT x.toV 1 := nkT_le _ _
  have h2 : (1 : Int) ≤ nkT (ints (rowTy x ts).1) 1 := nkT_le _ _
  have h2' : (1 : Int) ≤ nkT (ints ts) (nkT x.toV 1) := Int.le_trans h1 (nkT_le _ _)
  have h3 := nk_cat x (by omega)
  have h3' : nkT (ints ts) (nkT x.toV 1) ≤ 4000000000000 := by
    have a1 := nkT_sc (ints ts) (nkT x.toV 1)
    have a2 := sc_ints ts
    have b1 := nkT_sc x.toV 1
    have b2 := sc_tabs x.tables (by simp only [Cat.wt] at hb; omega)
    simp only [Cat.wt] at hb
    simp only [Cat.toV, sc, scL] at a1 b1 b2 ⊢
    omega
  have h4 : nkT (ints (rowTy x ts).1) 1 ≤ 4000000000000 := by
    have a1 := nkT_sc (ints (rowTy x ts).1) 1
    have a2 := sc_ints (rowTy x ts).1
    omega
  have hp := plain_IntS (rowTy x ts).1
  generalize hq : rowTy x ts = r at *
  obtain ⟨ls, b⟩ := r
  dsimp only at hr1 h2 h4 hp
  have hS : ∀ t, VCalls Try.prog 53 [x.toV, ints ts] t (fun v t' => Own2 (.tup [ints ls, .bool b]) v t') := fun t => by have := specRowTypes_o x ts (by omega) (by omega) t; rw [hq] at this; exact this
  have hI : ∀ t, VCalls Try.prog 55 [x.toV, ints ts] t (fun v t' => Own2 (.tup [ints ls, .bool b]) v t') := fun t => by have := implRowTypes_o x ts (by omega) (by omega) t; rw [hq] at this; exact this
  repeat' first
    | (refine kBox ?_ ; first | (refine LOps.boxH hh rfl rfl ?_ ; intro s n hh))
    | (refine kAlloc ?_ ; refine LOps.allocH tT_ok hh rfl rfl ?_ ; intro s n hh)
    | (refine kStore ?_ ; first | (refine LOps.storeHW tT_ok 0 hh rfl rfl rfl rfl rfl rfl rfl ?_ ; intro s hh))
    | (refine kCallN 31 ?_ ; refine LOps.lendH rfl rfl ok31 hh ?_ (fun t => toCat_o x (by omega) t) (hx) ?_ ; (focus ((repeat' first | (exact RdH.nil) | (refine RdH.cons ?_ ?_) | (refine RdV.pl ?_; (focus (first | (assumption))))); done)) ; intro s n hh)
    | (refine kCallN 54 ?_ ; refine LOps.lendH rfl rfl ok54 hh ?_ (fun t => toIntS_o ts (by omega) t) (plain_IntS _) ?_ ; (focus ((repeat' first | (exact RdH.nil) | (refine RdH.cons ?_ ?_) | (refine RdV.pl ?_; (focus (first | (exact plain_IntS _))))); done)) ; intro s n hh)
    | (refine kCallN 53 ?_ ; refine LOps.lendHT rfl rfl ok53 hh ?_ (fun t => hS t) (hp) rfl ?_ ; (focus ((repeat' first | (exact RdH.nil) | (refine RdH.cons ?_ ?_) | (refine RdV.th' ?_; (focus (((repeat' first | (exact .head _) | (refine .tail _ ?_)); done))))); done)) ; intro s n hh)
    | (refine kCallN 55 ?_ ; refine LOps.lendHT rfl rfl ok55 hh ?_ (fun t => hI t) (hp) rfl ?_ ; (focus ((repeat' first | (exact RdH.nil) | (refine RdH.cons ?_ ?_) | (refine RdV.th' ?_; (focus (((repeat' first | (exact .head _) | (refine .tail _ ?_)); done))))); done)) ; intro s n hh)
    | (refine kCallN 57 ?_ ; first | (refine LOps.markH 4 rfl rfl ok57 hh rfl rfl (markCatalog_t x) rfl ?_ ?_ ?_ ; (focus (first | assumption | omega)) ; (focus (first | assumption | omega)) ; intro s hh))
    | (refine kCallN 58 ?_ ; first | (refine LOps.markH 2 rfl rfl ok58 hh rfl rfl (markIntS_t ts) rfl ?_ ?_ ?_ ; (focus (first | assumption | omega)) ; (focus (first | assumption | omega)) ; intro s hh))
    | (refine kCallN 58 ?_ ; first | (refine LOps.markH 1 rfl rfl ok58 hh rfl rfl (markIntS_t ls) rfl ?_ ?_ ?_ ; (focus (first | assumption | omega)) ; (focus (first | assumption | omega)) ; intro s hh))
    | (refine kOps ?_; first | (refine LOps.nil ?_) | (refine kG ?_; first | (refine LOps.gT rfl rfl rfl ?_) | (refine LOps.gD false rfl rfl rfl ?_ ?_; (focus (first | (simp only [decide_eq_true_eq, decide_eq_false_iff_not, Bool.not_eq_true', Bool.not_eq_false', Int.ofNat_lt, Int.ofNat_le, Int.ofNat_inj, not_true_eq_false, not_false_eq_true]; omega))))) | (refine LOps.ev tT_ok rfl ?_) | (refine kLoad ?_; first | (refine LOps.ans (AnsL.loadHW tT_ok 1 hh rfl rfl rfl rfl) ?_) | (refine LOps.ans (AnsL.loadHW tT_ok 3 hh rfl rfl rfl rfl) ?_) | (refine LOps.ans (AnsL.loadH tT_ok 0 hh rfl rfl rfl rfl) ?_) | (refine LOps.ans (AnsL.loadH tT_ok 3 hh rfl rfl rfl rfl) ?_) | (refine LOps.ans (AnsL.loadH tT_ok 8 hh rfl rfl rfl rfl) ?_)) | (refine kLen ?_; first | (refine LOps.ans (AnsL.lenM tT_ok rfl rfl rfl) ?_)) | (refine kCallN 29 ?_; first | (refine LOps.ans (AnsL.callP rfl rfl rfl (ok29) (szCat_ok _ _ ?_ ?_ _)) ?_; (focus (omega)); (focus (omega)))) | (refine kCallN 56 ?_; first | (refine LOps.ans (AnsL.callP rfl rfl rfl ok56 (VCalls.lookH rfl hh ?_ (fun t => eqIntS_v ls (by omega) t))) ?_; (focus (((repeat' first | (exact RdH.nil) | (refine RdH.cons ?_ ?_) | (refine RdV.th' ?_; (focus (((repeat' first | (exact .head _) | (refine .tail _ ?_)); done))))); done)))) | (refine LOps.ans (AnsL.callP rfl rfl rfl ok56 (VCalls.lookH rfl hh ?_ (fun t => eqIntS_v ts (by omega) t))) ?_; (focus (((repeat' first | (exact RdH.nil) | (refine RdH.cons ?_ ?_) | (refine RdV.th' ?_; (focus (((repeat' first | (exact .head _) | (refine .tail _ ?_)); done))))); done))))) | (refine kCallN 59 ?_; first | (refine LOps.ans (AnsL.callP rfl rfl rfl ok59 (VCalls.lookH rfl hh ?_ (fun t => heldIntS_t ls 1 t (by decide) h4))) ?_; (focus (((repeat' first | (exact RdH.nil) | (refine RdH.cons ?_ ?_) | (refine RdV.mk' ?_; (focus (((repeat' first | (exact .head _) | (refine .tail _ ?_)); done)))) | (refine RdV.pl ?_; (focus (first | (rfl))))); done))))))
    | (refine kWL ?_; first | (refine WL.seq ?_) | (refine WL.region (by kernel_rfl) ?_) | (refine WL.drawn (id := 13) [0, 1, 2, 3, 4] [] [[], [], [1], [0, 1, 2], [0, 1, 2, 3]] (by kernel_rfl) (by kernel_rfl) ?_) | (refine WL.skip ?_) | (refine WL.ret ?_) | (refine kCond ?_; first | (refine WL.condF rfl ?_) | (refine WL.condF' rfl ?_ ?_; (focus (first | (exact decide_eq_false (by assumption)) | (simp only [decide_eq_true_eq, decide_eq_false_iff_not, Bool.not_eq_true', Bool.not_eq_false', Int.ofNat_lt, Int.ofNat_le, Int.ofNat_inj, not_true_eq_false, not_false_eq_true]; omega) | (simp <;> fail))))))
    | (refine kDr ?_; first | (refine LDr.nil ?_) | (refine LDr.fl rfl rfl (.ev tT_ok rfl) ?_) | (refine kDLoad rfl ?_; first | (refine LDr.fl rfl rfl (AnsL.loadHW tT_ok 2 hh rfl rfl rfl rfl) ?_) | (refine LDr.fl rfl rfl (AnsL.loadH tT_ok 7 hh rfl rfl rfl rfl) ?_)) | (refine kDCallN 31 rfl ?_; first | (refine LDr.fl rfl rfl (AnsL.callP rfl rfl rfl (ok31) (toCat_v _ ?_ _)) ?_; (focus (omega)))) | (refine kDCallN 33 rfl ?_; first | (refine LDr.fl rfl rfl (AnsL.callP rfl rfl rfl ok33 (VCalls.lookH rfl hh ?_ (fun t => eqCat_v x (by omega) t))) ?_; (focus (((repeat' first | (exact RdH.nil) | (refine RdH.cons ?_ ?_) | (refine RdV.th' ?_; (focus (((repeat' first | (exact .head _) | (refine .tail _ ?_)); done)))) | (refine RdV.pl ?_; (focus (first | (assumption))))); done))))))
    | (refine lthen_n ?_)
    | (refine LPost.r1 (r := .tmp 4) (.inl rfl) (Res1.tmp rfl) ?_)
  rfl

end Go.Proofs.Ytmcbblcnfdgfmaa
