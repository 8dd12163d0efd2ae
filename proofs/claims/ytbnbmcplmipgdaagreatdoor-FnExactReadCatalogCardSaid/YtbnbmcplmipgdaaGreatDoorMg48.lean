/-
  Copies as results of new memory alone. Printed by a program of our own; no condition.
  The law of reading catalogs.
  A law's wrap that hands on the world's shape: the library's variable that may hold any number.
  From a row's list and the world's shape to what every state holds of the library's variables.
  Own work; no condition.
-/
import Derived.Test.YtbnbmcplmipgdaaGreatDoorMg13
import Derived.Test.YtbnbmcplmipgdaaGreatDoorDMark
import Derived.Test.YtbnbmcplmipgdaaGreatDoorMg10
import Derived.Test.YtbnbmcplmipgdaaGreatDoorDRdI
import Derived.Test.YtbnbmcplmipgdaaGreatDoorVRow
import Derived.Test.YtbnbmcplmipgdaaGreatDoorRows
import Derived.Handed
import Derived.Shelf.Vars
import Derived.Lib.LaidU8
import Derived.Lib.LaidTab
import Derived.Lib.ItoaNum
import Derived.Lay
import Derived.LaidMore
import Derived.LaidLaws
import Derived.MakeChecks
namespace Go.Proofs.YtbnbmcplmipgdaaGreatDoor
open Go
set_option linter.unusedSimpArgs false
set_option linter.unusedVariables false


end Go.Proofs.YtbnbmcplmipgdaaGreatDoor

namespace Go.Proofs.YtbnbmcplmipgdaaGreatDoor
open Go
set_option linter.unusedSimpArgs false
set_option linter.unusedVariables false

theorem sc_cols (l : List Col) : scL (l.map Col.toV) ≤ 2 * l.length := by
  induction l with
  | nil => exact Nat.le_refl _
  | cons c l ih => simp only [List.map_cons, scL, Col.toV, sc, List.length_cons] at *; omega
theorem sc_tabs (l : List Tab) (h : slW Tab.wt l ≤ 1048576) : scL (l.map Tab.toV) ≤ 2097153 * l.length := by
  induction l with
  | nil => exact Nat.le_refl _
  | cons t l ih =>
    have e : slW Tab.wt (t :: l) = 1 + t.wt + slW Tab.wt l := by simp [slW, sumW]; omega
    have h2 := sc_cols t.cols
    have h3 := len_slW Col.wt t.cols
    have h4 : slW Col.wt t.cols ≤ t.wt := by simp only [Tab.wt]; omega
    have := ih (by omega)
    simp only [List.map_cons, scL, Tab.toV, sc, List.length_cons] at *
    omega
theorem nk_cat (c : Cat) (h : c.wt ≤ 1048576) : nkT c.toV 1 ≤ 4000000000000 := by
  simp only [Cat.wt] at h
  have a1 := nkT_sc c.toV 1
  have a2 := sc_tabs c.tables h
  have a3 := len_slW Tab.wt c.tables
  simp only [Cat.toV, sc, scL] at a1 a2 ⊢
  omega
theorem readV_wt (num : List UInt8 → Bool) (ty : List UInt8 → Int) (z : Bool) (a : List UInt8) : ((readV num ty z a).getD ⟨[]⟩).wt ≤ 1048576 := by
  unfold readV
  split
  · simp [Cat.wt, slW, sumW]
  · unfold rcP
    split
    · simp [Cat.wt, slW, sumW]
    · have h1 := readC_wt ty z (lexT num a).1
      have h2 := lexT_wt num a
      simp only [Option.getD_some, Cat.wt]
      omega
set_option maxHeartbeats 4000000 in
theorem lawReadCatalog_v (a : List UInt8) (s : S) : VCalls Tryz.prog 3 [.str a] s (fun v _ => v = .bool true) := by
  have hh : Hold s s.next [] := .start _ _
  have hS := fun t => specReadCatalog_o a t
  have hI := fun t => implReadCatalog_o a t
  rw [readV_same tyI_r tyS_r false true a (n1 := numI) (n2 := numS)] at hI
  have hw := readV_wt numS tyS true a
  unfold rdU at hS hI
  generalize readV numS tyS true a = R at hS hI hw
  generalize R.isSome = b at hS hI
  generalize R.getD ⟨[]⟩ = c at hS hI hw
  have hx : c.toV.plain = true := plainL_cons (plain_TableS _) rfl
  have h1 : (1 : Int) ≤ nkT c.toV 1 := nkT_le _ _
  have h3 := nk_cat c hw
  by_cases hb : (a.length : Int) > 1048576
  · skip
    refine LCalls.body Tryz.func3 rfl (by kernel_rfl) ?_
    repeat' first
      | (refine kOps ?_; first | (refine LOps.nil ?_) | (refine LOps.ev tT_ok rfl ?_))
      | (refine kWL ?_; first | (refine WL.seq ?_) | (refine WL.region (by kernel_rfl) ?_) | (refine WL.ret ?_) | (refine kCond ?_; first | (refine WL.condT' rfl ?_ ?_; (focus (first | (exact decide_eq_true (by assumption)))))))
      | (refine lthen_n ?_)
      | (refine lthen_r ?_)
      | (refine LPost.r1 (r := .tmp 2) (.inl rfl) (Res1.tmp rfl) ?_)
    rfl
  cases b
  all_goals
    refine LCalls.body Tryz.func3 rfl (by kernel_rfl) ?_
    repeat' first
      | (refine kAlloc ?_ ; refine LOps.allocH tT_ok hh rfl rfl ?_ ; intro s n hh)
      | (refine kStore ?_ ; first | (refine LOps.storeHW tT_ok 0 hh rfl rfl rfl rfl rfl rfl rfl ?_ ; intro s hh))
      | (refine kCallN 4 ?_ ; refine LOps.lendHT rfl rfl ok4 hh ?_ (fun t => hS t) (hx) rfl ?_ ; (focus ((repeat' first | (exact RdH.nil) | (refine RdH.cons ?_ ?_) | (refine RdV.pl ?_; (focus (first | (rfl))))); done)) ; intro s n hh)
      | (refine kCallN 5 ?_ ; refine LOps.lendHT rfl rfl ok5 hh ?_ (fun t => hI t) (hx) rfl ?_ ; (focus ((repeat' first | (exact RdH.nil) | (refine RdH.cons ?_ ?_) | (refine RdV.pl ?_; (focus (first | (rfl))))); done)) ; intro s n hh)
      | (refine kCallN 7 ?_ ; first | (refine LOps.markH 1 rfl rfl ok7 hh rfl rfl (markCatalog_t c) rfl ?_ ?_ ?_ ; (focus (first | assumption | omega)) ; (focus (first | assumption | omega)) ; intro s hh))
      | (refine kOps ?_; first | (refine LOps.nil ?_) | (refine kG ?_; first | (refine LOps.gT rfl rfl rfl ?_)) | (refine LOps.ev tT_ok rfl ?_) | (refine kLoad ?_; first | (refine LOps.ans (AnsL.loadHW tT_ok 0 hh rfl rfl rfl rfl) ?_) | (refine LOps.ans (AnsL.loadHW tT_ok 2 hh rfl rfl rfl rfl) ?_) | (refine LOps.ans (AnsL.loadHW tT_ok 4 hh rfl rfl rfl rfl) ?_)) | (refine kCallN 6 ?_; first | (refine LOps.ans (AnsL.callP rfl rfl rfl ok6 (VCalls.lookH rfl hh ?_ (fun t => eqCat_v c hw t))) ?_; (focus (((repeat' first | (exact RdH.nil) | (refine RdH.cons ?_ ?_) | (refine RdV.th' ?_; (focus (((repeat' first | (exact .head _) | (refine .tail _ ?_)); done))))); done))))) | (refine kCallN 8 ?_; first | (refine LOps.ans (AnsL.callP rfl rfl rfl ok8 (VCalls.lookH rfl hh ?_ (fun t => heldCatalog_t c 1 t (by decide) h3))) ?_; (focus (((repeat' first | (exact RdH.nil) | (refine RdH.cons ?_ ?_) | (refine RdV.mk' ?_; (focus (((repeat' first | (exact .head _) | (refine .tail _ ?_)); done)))) | (refine RdV.pl ?_; (focus (first | (rfl))))); done))))))
      | (refine kWL ?_; first | (refine WL.seq ?_) | (refine WL.region (by kernel_rfl) ?_) | (refine WL.skip ?_) | (refine WL.ret ?_) | (refine kCond ?_; first | (refine WL.condF rfl ?_) | (refine WL.condF' rfl ?_ ?_; (focus (first | (exact decide_eq_false (by assumption)) | (simp only [decide_eq_true_eq, decide_eq_false_iff_not, Bool.not_eq_true', Bool.not_eq_false', Int.ofNat_lt, Int.ofNat_le, Int.ofNat_inj, not_true_eq_false, not_false_eq_true]; omega) | (simp <;> fail))))))
      | (refine lthen_n ?_)
      | (refine LPost.r1 (r := .tmp 2) (.inl rfl) (Res1.tmp rfl) ?_)
    rfl

end Go.Proofs.YtbnbmcplmipgdaaGreatDoor

namespace Go.Proofs.YtbnbmcplmipgdaaGreatDoor
open Go Go.ChangeShapes Go.WideShapes Go.ChangeAt Go.RowKit
set_option linter.unusedSimpArgs false
set_option linter.unusedVariables false


variable {H : Type} {enc : TypeId × Value → H}
/-- As the kit's wrap with a further premise; the contract may use the world's shape. -/
theorem returns_and_shaped {a : Assume} {C : Checked} {os : Os} {f : FuncId} {fn : Func} {s : ChangeSpec} {conds : List PathCond} {apart fresh handsOn again : Bool} {X : World → Array Value → Prop}
    (hX : ∀ (w w' : World) (args : Array Value), w.heap = w'.heap → X w args → X w' args)
    (own : ownKnob C.prog.godebug = none) (started : os.Started) (noInit : C.prog.inits.idxOf? f = none) (hfn : C.prog.funcs[f]? = some fn)
    (witness : ∃ (w : World) (tape : Tape) (i : Input), w.os = os ∧ (w.forCall tape i).Shaped C.prog ∧ i.vars = [] ∧ Input.okWide C.prog (w.forCall tape i) .any w.heap.size f i ∧
      ((s.pre enc C.prog fn conds apart (w.forCall tape i).memory i.args ∧ X (w.forCall tape i).memory i.args) ∧ sizedMet enc C.prog fn (OpenSpec.ofChange s) apart (w.forCall tape i).memory i.args) ∧ a.holds C.prog (lone (Frame.enter C.prog f i.args .normal) [] (w.forCall tape i)))
    (contract : ∀ (W : World) (base : Nat) (args : Array Value) (ds gs : List (DataW H)) (before : List MemPlace),
      (∀ (j : Nat) t v, fn.params[j]? = some t → args[j]? = some v → Value.okWide C.prog W .any base t v) →
      DataW.Whole enc C.prog fn.params.toList s.vars apart W args.toList ds gs before →
      X W args → W.ShapedOpen C.prog →
      Calls C.prog f args W fun e W' => ∃ v, e = .returned v ∧ s.post enc C.prog fn apart fresh handsOn again W args v W') :
    ReturnsInHanded a C os f .any (fun w args => (s.pre enc C.prog fn conds apart w args ∧ X w args) ∧ sizedMet enc C.prog fn (OpenSpec.ofChange s) apart w args) (s.post enc C.prog fn apart fresh handsOn again) := by
  refine returnsInHanded_of_calls own started noInit witness ?_
  intro w tape i _ hsh _ hok hpre hholds
  obtain ⟨_, _, _, fn', hfn', _, _, _, _, hval⟩ := hok
  obtain rfl : fn' = fn := Option.some.inj (hfn'.symm.trans hfn)
  obtain ⟨⟨⟨ds, gs, before, hw, hc⟩, hx⟩, _⟩ := hpre
  refine (contract (w.forCall tape i) w.heap.size i.args ds gs before hval (DataW.Whole.of_heap (w' := w.forCall tape i) (by rfl) hw) (hX _ _ _ (by rfl) hx) hsh).mono fun e W' ⟨v, he, hp⟩ => ?_
  subst he
  exact ChangeSpec.post_blind hp

end Go.Proofs.YtbnbmcplmipgdaaGreatDoor

namespace Go.Proofs.YtbnbmcplmipgdaaGreatDoor
open Go Go.RowKit
set_option linter.unusedSimpArgs false
set_option linter.unusedVariables false

theorem pow10_data : (Rows.laid_internal_strconv_uint64pow10 : DataW Unit) = Lib.tabData .u64 Lib.pow10Tab := rfl
theorem gTab : Tryz.prog.globalNamed "internal/strconv.uint64pow10" = some 5 := by kernel_rfl
theorem gSyn : Tryz.prog.globalNamed "strconv.ErrSyntax" = some 1 := by kernel_rfl
theorem gRng : Tryz.prog.globalNamed "strconv.ErrRange" = some 2 := by kernel_rfl
theorem ifc_laid {laid : List (String × DataW Unit)} {W : World} {n : String} {nm : String} {d : DataW Unit} {g t : Nat} {ms : Array (String × TypeId)} (h : laidMet Tryz.prog laid W) (hm : (n, (DataW.iface nm d : DataW Unit)) ∈ laid) (hg : Tryz.prog.globalNamed n = some g)
    (ht : (Tryz.prog.globals[g]?).map (·.type) = some t) (hi : Tryz.prog.underlying t = some (.interface ms)) : TabAt W g .ifc := by
  obtain ⟨g', t', cs, fuel, p, hg', ht', hv, hd⟩ := Lib.laidMet.reads h hm
  obtain rfl := Option.some.inj (hg.symm.trans hg')
  obtain rfl := Option.some.inj (ht.symm.trans ht')
  obtain ⟨_, u, v, e, _⟩ := iface_of_trod hi hd
  refine ⟨.iface u v, ?_, .inr ⟨u, v, rfl⟩⟩
  have hc : cs = #[.iface u v] := by
    apply Array.ext'
    rw [e]
  subst hc
  have := World.var?_cell hg hv 0
  simpa using this
theorem tab_both {laid : List (String × DataW Unit)} {W : World} (hp : (laid.all fun x => x.2.handleName?.isNone) = true) (hm : ("internal/strconv.uint64pow10", (Rows.laid_internal_strconv_uint64pow10 : DataW Unit)) ∈ laid)
    (hs : ("strconv.ErrSyntax", (Rows.laid_strconv_ErrSyntax : DataW Unit)) ∈ laid) (hr : ("strconv.ErrRange", (Rows.laid_strconv_ErrRange : DataW Unit)) ∈ laid) (h : laidMetH Tryz.prog laid W) (hsh : W.ShapedOpen Tryz.prog) : TabW W := by
  rw [MakeChecks.laidMetH_plain _ _ _ hp] at h
  intro g vs e
  rcases e with _ | ⟨_, _ | ⟨_, _ | ⟨_, _ | ⟨_, e⟩⟩⟩⟩
  · obtain ⟨g, t, cs, fuel, p, hg, ht, hv, hd⟩ := Lib.laidMet.reads h hm
    obtain rfl := Option.some.inj (gTab.symm.trans hg)
    obtain rfl := Option.some.inj ((show (Tryz.prog.globals[5]?).map (·.type) = some 148 by kernel_rfl).symm.trans ht)
    rw [pow10_data] at hd
    have hc := Lib.cells_of_tab (n := 20) (e := 126) (show Tryz.prog.underlying 148 = some (.array 20 126) by kernel_rfl) (show Tryz.prog.underlying 126 = some (.int .u64) by kernel_rfl) (by kernel_rfl) (by kernel_rfl) hd
    unfold World.var? at hv
    rw [gTab] at hv
    change (match W.heap[5]? with
        | some (.cells cs _ _) => some cs
        | _ => none) = _ at hv
    split at hv
    · rename_i cs' e' fr' hh
      cases hv
      refine ⟨e', fr', hh.trans ?_⟩
      congr 2
      apply Array.ext'
      rw [hc]
      rfl
    · cases hv
  · exact cell_of_shapedOpen_int (k := .i64) (t := 3) (zero := #[.int .i64 0]) hsh (of_decide_eq_true (by kernel_rfl)) (by kernel_rfl) rfl (by kernel_rfl) (by kernel_rfl) Tryz.underlying3
  · exact ifc_laid h hs gSyn (show (Tryz.prog.globals[1]?).map (·.type) = some 108 by kernel_rfl) (show Tryz.prog.underlying 108 = some (.interface (Tryz.prog.methodsAt 108)) by kernel_rfl)
  · exact ifc_laid h hr gRng (show (Tryz.prog.globals[2]?).map (·.type) = some 108 by kernel_rfl) (show Tryz.prog.underlying 108 = some (.interface (Tryz.prog.methodsAt 108)) by kernel_rfl)
  · cases e

end Go.Proofs.YtbnbmcplmipgdaaGreatDoor
