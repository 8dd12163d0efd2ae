/-
  The law on a plan's parts. Own work; no condition.
-/
import Derived.Test.YtolhegocbkckdaaDCopy4
import Derived.Test.YtolhegocbkckdaaDPSize
import Derived.Test.YtolhegocbkckdaaDBig
import Derived.Test.YtolhegocbkckdaaDPd5
namespace Go.Proofs.Ytolhegocbkckdaa
open Go
set_option linter.unusedSimpArgs false
set_option linter.unusedVariables false

theorem specPartsOf_q (p : PL) (hw : wgt p.v ≤ 1048576) (s : S) : VCalls Try.prog 20 [p.v] s (fun v s' => v = .sl 0 (p.parts.map PE.toV) ∧ s' = s) :=
  VCalls.pureOf (plainL_cons (PL.plain p) rfl) (plain_PExprS _) (fun t => specPartsOf_c p hw t) s
theorem implPartsOf_q (p : PL) (hw : wgt p.v ≤ 1048576) (s : S) : VCalls Try.prog 19 [p.v] s (fun v s' => v = .sl 0 (p.parts.map PE.toV) ∧ s' = s) :=
  VCalls.pureOf (plainL_cons (PL.plain p) rfl) (plain_PExprS _) (fun t => implPartsOf_c p hw t) s
theorem negW {d : Int} (h : -9223372036854775807 ≤ d ∧ d ≤ 9223372036854775807) : IntKind.i64.wrap (0 - d) = -d := by
  simp only [IntKind.wrap, IntKind.bits, IntKind.signed]
  simp
  omega
theorem AnsL.negD {P : Program} {L : Kn} {s : S} {T : TypeId} {x : Operand} {d : Int} (hx : opd L x = some (.int .i64 d)) (h : -9223372036854775807 ≤ d ∧ d ≤ 9223372036854775807) : AnsL P (.unOp .neg T x) L s (.int .i64 (-d)) :=
  .of fun σ hσ _ _ _ _ _ => by simp only [vop, opd_eq hσ hx, vun, Option.bind_some, Option.map_some, negW h]
theorem lawsLow_v (d x : Nat) (s : S) : VCalls Try.prog 22 [.int .i64 (-(d : Int)), .int .i64 (-(x : Int))] s (fun v s' => v = .int .i64 (-((max d x : Nat) : Int)) ∧ s' = s) := by
  by_cases h : (-(d : Int)) < -(x : Int)
  · rw [Nat.max_eq_left (by omega)]
    refine LCalls.pure Try.func22 rfl (by kernel_rfl) (by simp) ?_
    repeat' first
      | (refine kOps ?_; first | (refine LOps.nil ?_) | (refine LOps.ev tT_ok rfl ?_))
      | (refine kWL ?_; first | (refine WL.seq ?_) | (refine WL.region (by kernel_rfl) ?_) | (refine WL.ret ?_) | (refine kCond ?_; first | (refine WL.condT' rfl ?_ ?_; (focus (first | (exact decide_eq_true (by assumption)))))))
      | (refine lthen_n ?_)
      | (refine lthen_r ?_)
      | (refine LPost.r1 (r := .tmp 4) (.inl rfl) (Res1.tmp rfl) ?_)
      | (refine PureR.mk ?_)
    rfl
  · rw [Nat.max_eq_right (by omega)]
    refine LCalls.pure Try.func22 rfl (by kernel_rfl) (by simp) ?_
    repeat' first
      | (refine kOps ?_; first | (refine LOps.nil ?_) | (refine LOps.ev tT_ok rfl ?_))
      | (refine kWL ?_; first | (refine WL.seq ?_) | (refine WL.region (by kernel_rfl) ?_) | (refine WL.skip ?_) | (refine WL.ret ?_) | (refine kCond ?_; first | (refine WL.condF' rfl ?_ ?_; (focus (first | (exact decide_eq_false (by assumption)))))))
      | (refine lthen_n ?_)
      | (refine LPost.r1 (r := .tmp 4) (.inl rfl) (Res1.tmp rfl) ?_)
      | (refine PureR.mk ?_)
    rfl
def onePL (y : PE) : PL := ⟨[], [], [], [], [y], [], false, 0⟩
theorem onePL_v (y : PE) : (onePL y).v = .agg [.sl 0 [], .sl 0 [], .sl 0 [], .sl 0 [], .sl 0 [PE.v y], .sl 0 [], .bool false, .int .i64 0] := by
  simp [onePL, PL.v, PE.toV_eq]
theorem onePL_w (y : PE) : wgt (onePL y).v = 1 + wgt y.v := by
  rw [onePL_v]
  simp [wgt, wgtL]
theorem onePL_ms {op : Nat → Nat → Nat} (h : OpOk op) (y : PE) : PE.msP op (onePL y) = y.ms op := by
  rw [PE.msP_eq h]
  have e : (onePL y).parts = [y] := rfl
  rw [e]
  exact h.z2 _
theorem onePL_rd (H : List BE) (y : PE) : RdH H [.agg [.nilsl, .nilsl, .nilsl, .nilsl, .sl 0 [PE.v y], .nilsl, .bool false, .int .i64 0]] [.agg [.sl 0 [], .sl 0 [], .sl 0 [], .sl 0 [], .sl 0 [PE.v y], .sl 0 [], .bool false, .int .i64 0]] :=
  .cons (.agg (.cons .nilsl (.cons .nilsl (.cons .nilsl (.cons .nilsl (.cons (.pl (by
    have h := plain_PExprS [y]
    simpa [PE.toV_eq] using h)) (.cons .nilsl (.cons (.pl rfl) (.cons (.pl rfl) .nil)))))))) ) .nil
set_option maxHeartbeats 200000 in
theorem lawPlanPartsL_v {b : V} (hb : Bytes b) (s : S) : VCalls Try.prog 5 [b] s (fun v _ => v = .bool true) := by
  obtain ⟨c, hbig⟩ := big_v hb
  have hh : Hold s s.next [] := .start _ _
  refine LCalls.body Try.func5 rfl (by kernel_rfl) ?_
  cases c
  · skip
    repeat' first
      | (refine kAlloc ?_ ; refine LOps.allocH tT_ok hh rfl rfl ?_ ; intro s n hh)
      | (refine kStore ?_ ; first | (refine LOps.storeH tT_ok 0 hh rfl rfl rfl rfl rfl rfl rfl rfl rfl ?_ ; intro s hh))
      | (refine kCallN 18 ?_ ; refine LOps.drawAll rfl rfl ok18 hh (specDrawPartsOf_d hb) ?_ ; intro s x hq hh)
      | (refine kOps ?_; first | (refine LOps.nil ?_) | (refine LOps.ev tT_ok rfl ?_) | (refine kLoad ?_; first | (refine LOps.ans (AnsL.loadH tT_ok 0 hh rfl rfl rfl rfl) ?_)) | (refine kCallN 8 ?_; first | (refine LOps.ans (AnsL.callP rfl rfl rfl (ok8) (hbig _)) ?_)))
      | (refine kWL ?_; first | (refine WL.seq ?_) | (refine WL.region (by kernel_rfl) ?_) | (refine WL.skip ?_) | (refine kCond ?_; first | (refine WL.condF rfl ?_)))
      | (refine lthen_n ?_)
    have hw0 : wgt x.v ≤ 200000 := Nat.le_trans hq (by decide)
    have hw : wgt x.v ≤ 1048576 := by omega
    have hI := fun t => implPartsOf_q x hw t
    have hS := fun t => specPartsOf_q x hw t
    have hSame := fun t => implSamePlan_v x x t
    rw [PE.eqP_refl x fun k _ => PE.eqB_refl k] at hSame
    have hD := fun t => implPlanDepth_v x hw t
    have hZ := fun t => implPlanSize_v x hw t
    rw [PE.msP_eq maxOk] at hD
    rw [PE.msP_eq addOk] at hZ
    have hpl := PL.parts_len x
    have hps := PL.parts_w x
    have hpw : ∀ k ∈ x.parts, wgt k.v ≤ 200000 := fun k hk => Nat.le_trans (PL.wgt_part2 hk) hw0
    generalize x.parts = ps at hI hS hD hZ hpl hps hpw
    have hm1 := sumW_mono (f := PE.ms (fun a b => max a b)) (g := fun k => 1 + wgt k.v) (l := ps) fun k _ => PE.ms_le maxOk k
    have hm2 := sumW_mono (f := PE.ms (fun a b => a + b)) (g := fun k => 1 + wgt k.v) (l := ps) fun k _ => PE.ms_le addOk k
    obtain ⟨fd, d0, dS, dB, dE⟩ : ∃ fd : Nat → Nat, fd 0 = 0 ∧ (∀ i (h : i < ps.length), fd (i + 1) = max (fd i) (ps[i].ms (fun a b => max a b))) ∧ (∀ i, fd i ≤ 200000) ∧ foldW (fun a b => max a b) (PE.ms (fun a b => max a b)) ps = fd ps.length :=
      ⟨fun i => foldW (fun a b => max a b) (PE.ms (fun a b => max a b)) (ps.take i), rfl, fun i h => foldW_take maxOk _ h, fun i => Nat.le_trans (foldW_le_take maxOk _ ps i) (Nat.le_trans hm1 (Nat.le_trans hps hw0)), by dsimp only; rw [List.take_length]⟩
    obtain ⟨fz, z0, zS, zB, zE⟩ : ∃ fz : Nat → Nat, fz 0 = 0 ∧ (∀ i (h : i < ps.length), fz (i + 1) = fz i + ps[i].ms (fun a b => a + b)) ∧ (∀ i, fz i ≤ 200000) ∧ foldW (fun a b => a + b) (PE.ms (fun a b => a + b)) ps = fz ps.length :=
      ⟨fun i => foldW (fun a b => a + b) (PE.ms (fun a b => a + b)) (ps.take i), rfl, fun i h => foldW_take addOk _ h, fun i => Nat.le_trans (foldW_le_take addOk _ ps i) (Nat.le_trans hm2 (Nat.le_trans hps hw0)), by dsimp only; rw [List.take_length]⟩
    rw [dE] at hD
    rw [zE] at hZ
    have hpl2 := Nat.le_trans hpl hw0
    clear hm1 hm2 dE zE hps hpl hw0 hw hq
    repeat' first
      | (refine kOps ?_; first | (refine LOps.nil ?_) | (refine kG ?_; first | (refine LOps.gT rfl rfl rfl ?_) | (refine LOps.gD false rfl rfl rfl ?_ ?_; (focus (first | (simp <;> fail))))) | (refine LOps.ev tT_ok rfl ?_) | (refine kLoad ?_; first | (refine LOps.ans (AnsL.loadH tT_ok 0 hh rfl rfl rfl rfl) ?_)) | (refine kLen ?_; first | (refine LOps.ans (AnsL.lenM tT_ok rfl rfl rfl) ?_)) | (refine kCallN 19 ?_; first | (refine LOps.ans (AnsL.callP rfl rfl rfl (ok19) (hI _)) ?_)) | (refine kCallN 20 ?_; first | (refine LOps.ans (AnsL.callP rfl rfl rfl (ok20) (hS _)) ?_)) | (refine kCallN 21 ?_; first | (refine LOps.ans (AnsL.callP rfl rfl rfl (ok21) (hSame _)) ?_)))
      | (refine kWL ?_; first | (refine WL.seq ?_) | (refine WL.region (by kernel_rfl) ?_) | (refine WL.block ?_) | (refine WL.skip ?_) | (refine kCond ?_; first | (refine WL.condF rfl ?_)))
      | (refine lthen_n ?_)
    refine WL.loopH (fun i : Nat => ps.length - i) (fun i => [(3, .ptr n 0), (4, .sl 0 (ps.map PE.toV)), (5, .int .i64 (fd i : Nat)), (6, .int .i64 (fz i : Nat)), (7, .int .i64 (i : Int))])
      (fun _ => [.cell n [.sl 0 (x.tables.map iV), .sl 0 (x.on.map PE.vS), .sl 0 (x.wher.map PE.toV), .sl 0 (x.order.map PE.sv), .sl 0 (x.items.map PE.toV), .sl 0 (x.names.map sV), .bool x.distinct, .int .i64 x.limit]])
      (fun i => i ≤ ps.length) 0 (Nat.zero_le _) (by rw [d0, z0]; exact ⟨rfl, rfl, rfl, rfl, rfl, trivial⟩) hh (Sel.refl _) (fun i s hi hh => ?_)
    try dsimp only at hi hh ⊢
    rcases Nat.lt_or_ge i ps.length with hlt | hge
    · have hga : (ps.map PE.toV)[i]? = some (PE.v ps[i]) := by rw [List.getElem?_map, List.getElem?_eq_getElem hlt]; simp only [Option.map_some, PE.toV_eq]
      have hyw := hpw ps[i] (List.getElem_mem hlt)
      have hD1 := fun t => implPlanDepth_v (onePL ps[i]) (by rw [onePL_w]; omega) t
      have hZ1 := fun t => implPlanSize_v (onePL ps[i]) (by rw [onePL_w]; omega) t
      rw [onePL_v, onePL_ms maxOk] at hD1
      rw [onePL_v, onePL_ms addOk] at hZ1
      clear hyw
      have t1 := dS i hlt
      have t2 := zS i hlt
      have b1 := dB (i + 1)
      have b2 := zB (i + 1)
      rw [t1] at b1
      rw [t2] at b2
      generalize ps[i] = y at hga hD1 hZ1 t1 t2 b1 b2
      generalize fd i = d at t1 b1 ⊢
      generalize fz i = z at t2 b2 ⊢
      generalize y.ms (fun a b => max a b) = u at hD1 t1 b1
      generalize y.ms (fun a b => a + b) = r at hZ1 t2 b2
      have b3 : d ≤ 200000 := Nat.le_trans (Nat.le_max_left d u) b1
      have b4 : u ≤ 200000 := Nat.le_trans (Nat.le_max_right d u) b1
      have hLo := fun t => lawsLow_v d u t
      generalize max d u = q at t1 b1 hLo
      repeat' first
        | (refine kAlloc ?_ ; refine LOps.allocH tT_ok hh rfl rfl ?_ ; intro s n hh)
        | (refine kStore ?_ ; first | (refine LOps.storeH tT_ok 0 hh rfl rfl rfl rfl rfl rfl rfl rfl rfl ?_ ; intro s hh))
        | (refine kBsl ?_ ; refine LOps.ans (AnsL.bslF tT_ok rfl rfl rfl rfl rfl rfl rfl rfl rfl) ?_)
        | (refine LOps.ans (AnsL.negD rfl ?_) ?_ ; (focus omega))
        | (refine kOps ?_; first | (refine LOps.nil ?_) | (refine LOps.ev tT_ok rfl ?_) | (refine kLoad ?_; first | (refine LOps.ans (AnsL.loadH tT_ok 0 hh rfl rfl rfl rfl) ?_)) | (refine kLen ?_; first | (refine LOps.ans (AnsL.lenM tT_ok rfl rfl rfl) ?_)) | (refine kBin ?_; first | (refine LOps.ans (AnsL.add rfl rfl ?_) ?_; (focus (constructor <;> omega)))) | (refine kIdx ?_; first | (refine LOps.ans (AnsL.idx tT_ok rfl rfl rfl rfl rfl hga rfl rfl) ?_)) | (refine kCall ?_; first | (refine LOps.ans (AnsL.callP rfl rfl rfl ok23 (VCalls.lookH rfl hh (onePL_rd _ y) (fun t => hD1 t))) ?_) | (refine LOps.ans (AnsL.callP rfl rfl rfl ok24 (VCalls.lookH rfl hh (onePL_rd _ y) (fun t => hZ1 t))) ?_)) | (refine kCallN 22 ?_; first | (refine LOps.ans (AnsL.callP rfl rfl rfl (ok22) (hLo _)) ?_)))
        | (refine kWL ?_; first | (refine WL.seq ?_) | (refine WL.region (by kernel_rfl) ?_) | (refine WL.block ?_) | (refine WL.skip ?_) | (refine kCond ?_; first | (refine WL.condT' rfl ?_ ?_; (focus (first | (simp only [decide_eq_true_eq, decide_eq_false_iff_not, Bool.not_eq_true', Bool.not_eq_false', Int.ofNat_lt, Int.ofNat_le, Int.ofNat_inj, not_true_eq_false, not_false_eq_true]; omega))))))
        | (refine lthen_n ?_)
        | (refine lblock_n ?_)
      refine lbackH.of (i + 1) ?_ hh ?_ hlt ?_
      · try dsimp only
        rw [t1, t2]
        all_goals (repeat' first | exact SubL.nil | (refine SubL.mk rfl ?_ ?_) | rfl | (simp <;> fail) | (simp; omega))
      · (repeat' first | (exact Sel.nil) | (exact Sel.refl _) | (refine' Sel.p ?_ ?_; rotate_left 1; (focus (((repeat' first | (exact Pick.here) | (refine' Pick.there ?_)); done)))))
        all_goals (repeat' first | (exact Sel.refl _) | (refine Sel.drop ?_))
      · try dsimp only
        omega
    · have he : i = ps.length := by omega
      subst he
      repeat' first
        | (refine kOps ?_; first | (refine LOps.nil ?_) | (refine kG ?_; first | (refine LOps.gT rfl rfl rfl ?_) | (refine LOps.gD true rfl rfl rfl ?_ ?_; (focus (first | (simp <;> fail))))) | (refine LOps.ev tT_ok rfl ?_) | (refine kLoad ?_; first | (refine LOps.ans (AnsL.loadH tT_ok 0 hh rfl rfl rfl rfl) ?_)) | (refine kLen ?_; first | (refine LOps.ans (AnsL.lenM tT_ok rfl rfl rfl) ?_)) | (refine kCallN 23 ?_; first | (refine LOps.ans (AnsL.callP rfl rfl rfl (ok23) (hD _)) ?_)) | (refine kCallN 24 ?_; first | (refine LOps.ans (AnsL.callP rfl rfl rfl (ok24) (hZ _)) ?_)))
        | (refine kWL ?_; first | (refine WL.seq ?_) | (refine WL.region (by kernel_rfl) ?_) | (refine WL.exit ?_) | (refine WL.ret ?_) | (refine kCond ?_; first | (refine WL.condF' rfl ?_ ?_; (focus (first | (simp only [decide_eq_true_eq, decide_eq_false_iff_not, Bool.not_eq_true', Bool.not_eq_false', Int.ofNat_lt, Int.ofNat_le, Int.ofNat_inj, not_true_eq_false, not_false_eq_true]; omega))))))
        | (refine lthen_n ?_)
        | (refine lthen_e ?_)
        | (refine lblock_e ?_)
        | (refine lbackH_e ?_)
        | (refine LPost.r1 (r := .tmp 2) (.inl rfl) (Res1.tmp rfl) ?_)
      all_goals simp
  · skip
    repeat' first
      | (refine kOps ?_; first | (refine LOps.nil ?_) | (refine LOps.ev tT_ok rfl ?_) | (refine kCallN 8 ?_; first | (refine LOps.ans (AnsL.callP rfl rfl rfl (ok8) (hbig _)) ?_)))
      | (refine kWL ?_; first | (refine WL.seq ?_) | (refine WL.region (by kernel_rfl) ?_) | (refine WL.ret ?_) | (refine kCond ?_; first | (refine WL.condT rfl ?_)))
      | (refine lthen_n ?_)
      | (refine lthen_r ?_)
      | (refine LPost.r1 (r := .tmp 2) (.inl rfl) (Res1.tmp rfl) ?_)
    rfl

end Go.Proofs.Ytolhegocbkckdaa
