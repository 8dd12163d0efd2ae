/-
  Lifting of a plan's tree by the program. Own work; no condition.
-/
import Derived.Test.YtolhegocbkckdaaDCopy4
import Derived.Test.YtolhegocbkckdaaDUps
namespace Go.Proofs.Ytolhegocbkckdaa
open Go
set_option linter.unusedSimpArgs false
set_option linter.unusedVariables false

theorem PL.wgt_part1 {p : PL} {k : PE} (hk : k ∈ p.parts) : 1 + wgt k.v ≤ wgt p.v := by
  obtain ⟨i, hi, rfl⟩ := List.getElem_of_mem hk
  exact Nat.le_trans (sumW_mem (f := fun k => 1 + wgt (PE.v k)) hi) (PL.parts_w p)
def LfC (P : Program) (g : FuncId) (e : PE) : Prop := ∀ (b u : Int) (s : S), 0 ≤ b → b ≤ 1000 → 0 ≤ u → u + wgt e.v ≤ 3000000 → e.ups = true → VCalls P g [e.v, .int .i64 b, .int .i64 u] s (fun v t => Own2 (e.lf b u).v v t)
def liftCaps (b u : Int) : List V := [.eptr [.int .i64 b] 0, .eptr [.int .i64 u] 0]
theorem liftCaps_ok (b u : Int) : OkCaps (liftCaps b u) := fun H => .cons .eptr (.cons .eptr .nil)
theorem PE.ups_spec {e : PE} (h : e.ups = true) : (0 ≤ e.up ∧ e.up ≤ 1000) ∧ (∀ k ∈ e.kids, k.ups = true) ∧ ∀ p ∈ e.sub, ∀ k ∈ p.parts, k.ups = true := by
  rw [PE.ups_eq, upOk] at h
  simp only [Bool.and_eq_true, decide_eq_true_eq, List.all_eq_true] at h
  exact ⟨h.1, h.2.1, fun p hp k hk => h.2.2 p hp k hk⟩
theorem implLift1_c (k : PE) (b u : Int) (h : LfC Try.prog 32 k) (h1 : 0 ≤ b) (h2 : b ≤ 1000) (h3 : 0 ≤ u) (h4 : u + wgt k.v ≤ 3000000) (h5 : k.ups = true) : ToG Try.prog 79 (liftCaps b u) k.v (k.lf b u).v := by
  intro s
  have hh : Hold s s.next [] := .start _ _
  have hq := fun t => h b u t h1 h2 h3 h4 h5
  unfold liftCaps
  refine LCalls.body Try.func79 rfl (by kernel_rfl) ?_
  repeat' first
    | (refine kBox ?_ ; first | (refine LOps.boxH hh rfl rfl ?_ ; intro s n hh))
    | (refine kAlloc ?_ ; refine LOps.allocH tT_ok hh rfl rfl ?_ ; intro s n hh)
    | (refine kStore ?_ ; first | (refine LOps.storeHW tT_ok 1 hh rfl rfl rfl rfl rfl rfl rfl ?_ ; intro s hh))
    | (refine kCallN 32 ?_ ; refine LOps.lendC rfl rfl rfl ok32 hh (.cons (.pl (PE.plainv k)) (.cons (.pl rfl) (.cons (.pl rfl) .nil))) (fun t => hq t) (PE.plainv _) ?_ ; intro s n hh)
    | (refine kOps ?_; first | (refine LOps.nil ?_) | (refine LOps.ev tT_ok rfl ?_) | (refine kLoad ?_; first | (refine LOps.ans (AnsL.loadH tT_ok 1 hh rfl rfl rfl rfl) ?_)))
    | (refine kWL ?_; first | (refine WL.seq ?_) | (refine WL.region (by kernel_rfl) ?_) | (refine WL.ret ?_))
    | (refine lthen_n ?_)
    | (refine' LPost.r1 (r := .cell 4 29) (.inl rfl) ?_ ?_; rotate_left 1; (focus (first | exact Res1.cellH 0 tT_ok hh rfl rfl rfl rfl | exact Res1.cellH 1 tT_ok hh rfl rfl rfl rfl | exact Res1.cellH 2 tT_ok hh rfl rfl rfl rfl | exact Res1.cellH 3 tT_ok hh rfl rfl rfl rfl | exact Res1.cellH 4 tT_ok hh rfl rfl rfl rfl | exact Res1.cellH 5 tT_ok hh rfl rfl rfl rfl | exact Res1.cellH 6 tT_ok hh rfl rfl rfl rfl | exact Res1.cellH 7 tT_ok hh rfl rfl rfl rfl | exact Res1.cellHW 0 tT_ok hh rfl rfl rfl rfl | exact Res1.cellHW 1 tT_ok hh rfl rfl rfl rfl | exact Res1.cellHW 2 tT_ok hh rfl rfl rfl rfl | exact Res1.cellHW 3 tT_ok hh rfl rfl rfl rfl | exact Res1.cellHW 4 tT_ok hh rfl rfl rfl rfl | exact Res1.cellHW 5 tT_ok hh rfl rfl rfl rfl | exact Res1.cellHW 6 tT_ok hh rfl rfl rfl rfl | exact Res1.cellHW 7 tT_ok hh rfl rfl rfl rfl)))
  exact Own2.ofH hh (by ((repeat' first | (exact ConsL.nil) | (exact Cons.zsl) | (exact Cons.nilsl) | (refine' Cons.bp ?_; ((repeat' first | (exact Pick.here) | (refine' Pick.there ?_)); done)) | (refine' Cons.ap ?_; ((repeat' first | (exact Pick.here) | (refine' Pick.there ?_)); done)) | (exact Cons.blk 0 rfl rfl rfl) | (exact Cons.blk 1 rfl rfl rfl) | (exact Cons.blk 2 rfl rfl rfl) | (exact Cons.blk 3 rfl rfl rfl) | (exact Cons.blk 4 rfl rfl rfl) | (exact Cons.blk 5 rfl rfl rfl) | (exact Cons.pl rfl rfl) | (exact Cons.pl (by assumption) (by assumption)) | (refine' ConsL.cons ?_ ?_) | (exact ConsL.pls rfl rfl) | (exact ConsL.pls (by assumption) (by assumption)) | (refine' Cons.agg ?_)); done))
theorem implLift2_c (k : PE) (b u : Int) (h : LfC Try.prog 32 k) (h1 : 0 ≤ b) (h2 : b ≤ 1000) (h3 : 0 ≤ u) (h4 : u + 1 + wgt k.v ≤ 3000000) (h5 : k.ups = true) : ToG Try.prog 80 (liftCaps b u) k.v (k.lf b (u + 1)).v := by
  intro s
  have hh : Hold s s.next [] := .start _ _
  have hq := fun t => h b (u + 1) t h1 h2 (by omega) h4 h5
  unfold liftCaps
  refine LCalls.body Try.func80 rfl (by kernel_rfl) ?_
  repeat' first
    | (refine kBox ?_ ; first | (refine LOps.boxH hh rfl rfl ?_ ; intro s n hh))
    | (refine kAlloc ?_ ; refine LOps.allocH tT_ok hh rfl rfl ?_ ; intro s n hh)
    | (refine kStore ?_ ; first | (refine LOps.storeHW tT_ok 1 hh rfl rfl rfl rfl rfl rfl rfl ?_ ; intro s hh))
    | (refine kCallN 32 ?_ ; refine LOps.lendC rfl rfl rfl ok32 hh (.cons (.pl (PE.plainv k)) (.cons (.pl rfl) (.cons (.pl rfl) .nil))) (fun t => hq t) (PE.plainv _) ?_ ; intro s n hh)
    | (refine kOps ?_; first | (refine LOps.nil ?_) | (refine LOps.ev tT_ok rfl ?_) | (refine kLoad ?_; first | (refine LOps.ans (AnsL.loadH tT_ok 1 hh rfl rfl rfl rfl) ?_)) | (refine kBin ?_; first | (refine LOps.ans (AnsL.add rfl rfl ?_) ?_; (focus (constructor <;> omega)))))
    | (refine kWL ?_; first | (refine WL.seq ?_) | (refine WL.region (by kernel_rfl) ?_) | (refine WL.ret ?_))
    | (refine lthen_n ?_)
    | (refine' LPost.r1 (r := .cell 4 29) (.inl rfl) ?_ ?_; rotate_left 1; (focus (first | exact Res1.cellH 0 tT_ok hh rfl rfl rfl rfl | exact Res1.cellH 1 tT_ok hh rfl rfl rfl rfl | exact Res1.cellH 2 tT_ok hh rfl rfl rfl rfl | exact Res1.cellH 3 tT_ok hh rfl rfl rfl rfl | exact Res1.cellH 4 tT_ok hh rfl rfl rfl rfl | exact Res1.cellH 5 tT_ok hh rfl rfl rfl rfl | exact Res1.cellH 6 tT_ok hh rfl rfl rfl rfl | exact Res1.cellH 7 tT_ok hh rfl rfl rfl rfl | exact Res1.cellHW 0 tT_ok hh rfl rfl rfl rfl | exact Res1.cellHW 1 tT_ok hh rfl rfl rfl rfl | exact Res1.cellHW 2 tT_ok hh rfl rfl rfl rfl | exact Res1.cellHW 3 tT_ok hh rfl rfl rfl rfl | exact Res1.cellHW 4 tT_ok hh rfl rfl rfl rfl | exact Res1.cellHW 5 tT_ok hh rfl rfl rfl rfl | exact Res1.cellHW 6 tT_ok hh rfl rfl rfl rfl | exact Res1.cellHW 7 tT_ok hh rfl rfl rfl rfl)))
  exact Own2.ofH hh (by ((repeat' first | (exact ConsL.nil) | (exact Cons.zsl) | (exact Cons.nilsl) | (refine' Cons.bp ?_; ((repeat' first | (exact Pick.here) | (refine' Pick.there ?_)); done)) | (refine' Cons.ap ?_; ((repeat' first | (exact Pick.here) | (refine' Pick.there ?_)); done)) | (exact Cons.blk 0 rfl rfl rfl) | (exact Cons.blk 1 rfl rfl rfl) | (exact Cons.blk 2 rfl rfl rfl) | (exact Cons.blk 3 rfl rfl rfl) | (exact Cons.blk 4 rfl rfl rfl) | (exact Cons.blk 5 rfl rfl rfl) | (exact Cons.pl rfl rfl) | (exact Cons.pl (by assumption) (by assumption)) | (refine' ConsL.cons ?_ ?_) | (exact ConsL.pls rfl rfl) | (exact ConsL.pls (by assumption) (by assumption)) | (refine' Cons.agg ?_)); done))
theorem implLift_c (e : PE) : wgt e.v ≤ 1048576 → LfC Try.prog 32 e := by
  induction e using PE.ind with
  | h e ih1 ih2 =>
    intro hw b u s hb1 hb2 hu1 hu2 hup
    obtain ⟨⟨hq1, hq2⟩, hk, hs⟩ := PE.ups_spec hup
    have hh : Hold s s.next [] := .start _ _
    have hG1 : ∀ k ∈ e.kids, ToG Try.prog 79 (liftCaps b u) k.v (k.lf b u).v := fun k hk' => by
      have := PE.wgt_kid hk'
      exact implLift1_c k b u (ih1 k hk' (by omega)) hb1 hb2 hu1 (by omega) (hk k hk')
    have hG2 : ∀ p ∈ e.sub, ∀ k ∈ p.parts, ToG Try.prog 80 (liftCaps b u) k.v (k.lf b (u + 1)).v := fun p hp k hk' => by
      have a1 := PE.wgt_sub hp
      have a2 := PL.wgt_part1 hk'
      exact implLift2_c k b u (ih2 p hp k hk' (by omega)) hb1 hb2 hu1 (by omega) (hs p hp k hk')
    have hm : ∀ x, wgt (PE.mk e.kind e.op e.nt e.value x e.pos e.kids e.sub).v ≤ 1048576 → ∀ t, VCalls Try.prog 78 [(PE.mk e.kind e.op e.nt e.value x e.pos e.kids e.sub).v, .fn 79 (liftCaps b u), .fn 80 (liftCaps b u)] t
        (fun v t => Own2 (PE.mk e.kind e.op e.nt e.value x e.pos (e.kids.map (PE.lf b u)) (e.sub.map (PL.map (PE.lf b (u + 1))))).v v t) := fun x hx t =>
      mapInside_o (PE.mk e.kind e.op e.nt e.value x e.pos e.kids e.sub) (PE.lf b u) (PE.lf b (u + 1)) _ _ _ _ ok79 ok80 (liftCaps_ok b u) (liftCaps_ok b u) hx hG1 hG2 t
    have hwx : ∀ x, wgt (PE.mk e.kind e.op e.nt e.value x e.pos e.kids e.sub).v ≤ 1048576 := fun x => by
      have : wgt (PE.mk e.kind e.op e.nt e.value x e.pos e.kids e.sub).v = wgt e.v := by simp only [PE.v, wgt, wgtL, PE.kind, PE.op, PE.nt, PE.value, PE.up, PE.pos, PE.kids, PE.sub]
      omega
    have hpx : ∀ x, (PE.mk e.kind e.op e.nt e.value x e.pos e.kids e.sub).v.plain = true := fun x => PE.plainv _
    unfold liftCaps at hm
    rw [PE.lf_eq, upBy]
    by_cases c1 : e.kind = 2
    case' pos => by_cases c2 : u ≤ e.up
    · rw [if_pos ⟨c1, c2⟩]
      have hq := hm (e.up + b) (hwx _)
      refine LCalls.body Try.func32 rfl (by kernel_rfl) ?_
      repeat' first
        | (refine kBox ?_ ; first | (refine LOps.boxH hh rfl rfl ?_ ; intro s n hh))
        | (refine kAlloc ?_ ; refine LOps.allocH tT_ok hh rfl rfl ?_ ; intro s n hh)
        | (refine kStore ?_ ; first | (refine LOps.storeH tT_ok 3 hh rfl rfl rfl rfl rfl rfl rfl rfl rfl ?_ ; intro s hh) | (refine LOps.storeHW tT_ok 1 hh rfl rfl rfl rfl rfl rfl rfl ?_ ; intro s hh))
        | (refine kCallN 78 ?_ ; refine LOps.lendC rfl rfl rfl ok78 hh (.cons (.pl (hpx (e.up + b))) (.cons (.fn (.cons (.ptr ?_ (.cons (.pl rfl) .nil)) (.cons (.ptr ?_ (.cons (.pl rfl) .nil)) .nil))) (.cons (.fn (.cons (.ptr ?_ (.cons (.pl rfl) .nil)) (.cons (.ptr ?_ (.cons (.pl rfl) .nil)) .nil))) .nil))) (fun t => hq t) (PE.plainv _) ?_ ; (focus (((repeat' first | (exact .head _) | (refine .tail _ ?_)) ; done))) ; (focus (((repeat' first | (exact .head _) | (refine .tail _ ?_)) ; done))) ; (focus (((repeat' first | (exact .head _) | (refine .tail _ ?_)) ; done))) ; (focus (((repeat' first | (exact .head _) | (refine .tail _ ?_)) ; done))) ; intro s n hh)
        | (refine kOps ?_; first | (refine LOps.nil ?_) | (refine kG ?_; first | (refine LOps.gT rfl rfl rfl ?_) | (refine LOps.gD true rfl rfl rfl ?_ ?_; (focus (first | (exact decide_eq_true (by assumption)))))) | (refine LOps.ev tT_ok rfl ?_) | (refine kLoad ?_; first | (refine LOps.ans (AnsL.loadH tT_ok 1 hh rfl rfl rfl rfl) ?_) | (refine LOps.ans (AnsL.loadH tT_ok 2 hh rfl rfl rfl rfl) ?_) | (refine LOps.ans (AnsL.loadH tT_ok 3 hh rfl rfl rfl rfl) ?_)) | (refine kBin ?_; first | (refine LOps.ans (AnsL.add rfl rfl ?_) ?_; (focus (constructor <;> omega)))))
        | (refine kWL ?_; first | (refine WL.seq ?_) | (refine WL.region (by kernel_rfl) ?_) | (refine WL.ret ?_) | (refine kCond ?_; first | (refine WL.condT' rfl ?_ ?_; (focus (first | (exact decide_eq_true (by assumption)))))))
        | (refine lthen_n ?_)
        | (refine' LPost.r1 (r := .cell 6 29) (.inl rfl) ?_ ?_; rotate_left 1; (focus (first | exact Res1.cellH 0 tT_ok hh rfl rfl rfl rfl | exact Res1.cellH 1 tT_ok hh rfl rfl rfl rfl | exact Res1.cellH 2 tT_ok hh rfl rfl rfl rfl | exact Res1.cellH 3 tT_ok hh rfl rfl rfl rfl | exact Res1.cellH 4 tT_ok hh rfl rfl rfl rfl | exact Res1.cellH 5 tT_ok hh rfl rfl rfl rfl | exact Res1.cellH 6 tT_ok hh rfl rfl rfl rfl | exact Res1.cellH 7 tT_ok hh rfl rfl rfl rfl | exact Res1.cellHW 0 tT_ok hh rfl rfl rfl rfl | exact Res1.cellHW 1 tT_ok hh rfl rfl rfl rfl | exact Res1.cellHW 2 tT_ok hh rfl rfl rfl rfl | exact Res1.cellHW 3 tT_ok hh rfl rfl rfl rfl | exact Res1.cellHW 4 tT_ok hh rfl rfl rfl rfl | exact Res1.cellHW 5 tT_ok hh rfl rfl rfl rfl | exact Res1.cellHW 6 tT_ok hh rfl rfl rfl rfl | exact Res1.cellHW 7 tT_ok hh rfl rfl rfl rfl)))
      exact Own2.ofH hh (by ((repeat' first | (exact ConsL.nil) | (exact Cons.zsl) | (exact Cons.nilsl) | (refine' Cons.bp ?_; ((repeat' first | (exact Pick.here) | (refine' Pick.there ?_)); done)) | (refine' Cons.ap ?_; ((repeat' first | (exact Pick.here) | (refine' Pick.there ?_)); done)) | (exact Cons.blk 0 rfl rfl rfl) | (exact Cons.blk 1 rfl rfl rfl) | (exact Cons.blk 2 rfl rfl rfl) | (exact Cons.blk 3 rfl rfl rfl) | (exact Cons.blk 4 rfl rfl rfl) | (exact Cons.blk 5 rfl rfl rfl) | (exact Cons.pl rfl rfl) | (exact Cons.pl (by assumption) (by assumption)) | (refine' ConsL.cons ?_ ?_) | (exact ConsL.pls rfl rfl) | (exact ConsL.pls (by assumption) (by assumption)) | (refine' Cons.agg ?_)); done))
    · rw [if_neg (by omega)]
      have hq := hm e.up (hwx _)
      refine LCalls.body Try.func32 rfl (by kernel_rfl) ?_
      repeat' first
        | (refine kBox ?_ ; first | (refine LOps.boxH hh rfl rfl ?_ ; intro s n hh))
        | (refine kAlloc ?_ ; refine LOps.allocH tT_ok hh rfl rfl ?_ ; intro s n hh)
        | (refine kStore ?_ ; first | (refine LOps.storeHW tT_ok 1 hh rfl rfl rfl rfl rfl rfl rfl ?_ ; intro s hh))
        | (refine kCallN 78 ?_ ; refine LOps.lendC rfl rfl rfl ok78 hh (.cons (.pl (hpx (e.up))) (.cons (.fn (.cons (.ptr ?_ (.cons (.pl rfl) .nil)) (.cons (.ptr ?_ (.cons (.pl rfl) .nil)) .nil))) (.cons (.fn (.cons (.ptr ?_ (.cons (.pl rfl) .nil)) (.cons (.ptr ?_ (.cons (.pl rfl) .nil)) .nil))) .nil))) (fun t => hq t) (PE.plainv _) ?_ ; (focus (((repeat' first | (exact .head _) | (refine .tail _ ?_)) ; done))) ; (focus (((repeat' first | (exact .head _) | (refine .tail _ ?_)) ; done))) ; (focus (((repeat' first | (exact .head _) | (refine .tail _ ?_)) ; done))) ; (focus (((repeat' first | (exact .head _) | (refine .tail _ ?_)) ; done))) ; intro s n hh)
        | (refine kOps ?_; first | (refine LOps.nil ?_) | (refine kG ?_; first | (refine LOps.gT rfl rfl rfl ?_) | (refine LOps.gD true rfl rfl rfl ?_ ?_; (focus (first | (exact decide_eq_true (by assumption)))))) | (refine LOps.ev tT_ok rfl ?_) | (refine kLoad ?_; first | (refine LOps.ans (AnsL.loadH tT_ok 1 hh rfl rfl rfl rfl) ?_) | (refine LOps.ans (AnsL.loadH tT_ok 3 hh rfl rfl rfl rfl) ?_)))
        | (refine kWL ?_; first | (refine WL.seq ?_) | (refine WL.region (by kernel_rfl) ?_) | (refine WL.skip ?_) | (refine WL.ret ?_) | (refine kCond ?_; first | (refine WL.condF' rfl ?_ ?_; (focus (first | (exact decide_eq_false (by assumption)))))))
        | (refine lthen_n ?_)
        | (refine' LPost.r1 (r := .cell 6 29) (.inl rfl) ?_ ?_; rotate_left 1; (focus (first | exact Res1.cellH 0 tT_ok hh rfl rfl rfl rfl | exact Res1.cellH 1 tT_ok hh rfl rfl rfl rfl | exact Res1.cellH 2 tT_ok hh rfl rfl rfl rfl | exact Res1.cellH 3 tT_ok hh rfl rfl rfl rfl | exact Res1.cellH 4 tT_ok hh rfl rfl rfl rfl | exact Res1.cellH 5 tT_ok hh rfl rfl rfl rfl | exact Res1.cellH 6 tT_ok hh rfl rfl rfl rfl | exact Res1.cellH 7 tT_ok hh rfl rfl rfl rfl | exact Res1.cellHW 0 tT_ok hh rfl rfl rfl rfl | exact Res1.cellHW 1 tT_ok hh rfl rfl rfl rfl | exact Res1.cellHW 2 tT_ok hh rfl rfl rfl rfl | exact Res1.cellHW 3 tT_ok hh rfl rfl rfl rfl | exact Res1.cellHW 4 tT_ok hh rfl rfl rfl rfl | exact Res1.cellHW 5 tT_ok hh rfl rfl rfl rfl | exact Res1.cellHW 6 tT_ok hh rfl rfl rfl rfl | exact Res1.cellHW 7 tT_ok hh rfl rfl rfl rfl)))
      exact Own2.ofH hh (by ((repeat' first | (exact ConsL.nil) | (exact Cons.zsl) | (exact Cons.nilsl) | (refine' Cons.bp ?_; ((repeat' first | (exact Pick.here) | (refine' Pick.there ?_)); done)) | (refine' Cons.ap ?_; ((repeat' first | (exact Pick.here) | (refine' Pick.there ?_)); done)) | (exact Cons.blk 0 rfl rfl rfl) | (exact Cons.blk 1 rfl rfl rfl) | (exact Cons.blk 2 rfl rfl rfl) | (exact Cons.blk 3 rfl rfl rfl) | (exact Cons.blk 4 rfl rfl rfl) | (exact Cons.blk 5 rfl rfl rfl) | (exact Cons.pl rfl rfl) | (exact Cons.pl (by assumption) (by assumption)) | (refine' ConsL.cons ?_ ?_) | (exact ConsL.pls rfl rfl) | (exact ConsL.pls (by assumption) (by assumption)) | (refine' Cons.agg ?_)); done))
    · rw [if_neg (by omega)]
      have hq := hm e.up (hwx _)
      refine LCalls.body Try.func32 rfl (by kernel_rfl) ?_
      repeat' first
        | (refine kBox ?_ ; first | (refine LOps.boxH hh rfl rfl ?_ ; intro s n hh))
        | (refine kAlloc ?_ ; refine LOps.allocH tT_ok hh rfl rfl ?_ ; intro s n hh)
        | (refine kStore ?_ ; first | (refine LOps.storeHW tT_ok 1 hh rfl rfl rfl rfl rfl rfl rfl ?_ ; intro s hh))
        | (refine kCallN 78 ?_ ; refine LOps.lendC rfl rfl rfl ok78 hh (.cons (.pl (hpx (e.up))) (.cons (.fn (.cons (.ptr ?_ (.cons (.pl rfl) .nil)) (.cons (.ptr ?_ (.cons (.pl rfl) .nil)) .nil))) (.cons (.fn (.cons (.ptr ?_ (.cons (.pl rfl) .nil)) (.cons (.ptr ?_ (.cons (.pl rfl) .nil)) .nil))) .nil))) (fun t => hq t) (PE.plainv _) ?_ ; (focus (((repeat' first | (exact .head _) | (refine .tail _ ?_)) ; done))) ; (focus (((repeat' first | (exact .head _) | (refine .tail _ ?_)) ; done))) ; (focus (((repeat' first | (exact .head _) | (refine .tail _ ?_)) ; done))) ; (focus (((repeat' first | (exact .head _) | (refine .tail _ ?_)) ; done))) ; intro s n hh)
        | (refine kOps ?_; first | (refine LOps.nil ?_) | (refine kG ?_; first | (refine LOps.gF rfl rfl rfl ?_) | (refine LOps.gD false rfl rfl rfl ?_ ?_; (focus (first | (exact decide_eq_false (by assumption)))))) | (refine LOps.ev tT_ok rfl ?_) | (refine kLoad ?_; first | (refine LOps.ans (AnsL.loadH tT_ok 3 hh rfl rfl rfl rfl) ?_)))
        | (refine kWL ?_; first | (refine WL.seq ?_) | (refine WL.region (by kernel_rfl) ?_) | (refine WL.skip ?_) | (refine WL.ret ?_) | (refine kCond ?_; first | (refine WL.condF rfl ?_)))
        | (refine lthen_n ?_)
        | (refine' LPost.r1 (r := .cell 6 29) (.inl rfl) ?_ ?_; rotate_left 1; (focus (first | exact Res1.cellH 0 tT_ok hh rfl rfl rfl rfl | exact Res1.cellH 1 tT_ok hh rfl rfl rfl rfl | exact Res1.cellH 2 tT_ok hh rfl rfl rfl rfl | exact Res1.cellH 3 tT_ok hh rfl rfl rfl rfl | exact Res1.cellH 4 tT_ok hh rfl rfl rfl rfl | exact Res1.cellH 5 tT_ok hh rfl rfl rfl rfl | exact Res1.cellH 6 tT_ok hh rfl rfl rfl rfl | exact Res1.cellH 7 tT_ok hh rfl rfl rfl rfl | exact Res1.cellHW 0 tT_ok hh rfl rfl rfl rfl | exact Res1.cellHW 1 tT_ok hh rfl rfl rfl rfl | exact Res1.cellHW 2 tT_ok hh rfl rfl rfl rfl | exact Res1.cellHW 3 tT_ok hh rfl rfl rfl rfl | exact Res1.cellHW 4 tT_ok hh rfl rfl rfl rfl | exact Res1.cellHW 5 tT_ok hh rfl rfl rfl rfl | exact Res1.cellHW 6 tT_ok hh rfl rfl rfl rfl | exact Res1.cellHW 7 tT_ok hh rfl rfl rfl rfl)))
      exact Own2.ofH hh (by ((repeat' first | (exact ConsL.nil) | (exact Cons.zsl) | (exact Cons.nilsl) | (refine' Cons.bp ?_; ((repeat' first | (exact Pick.here) | (refine' Pick.there ?_)); done)) | (refine' Cons.ap ?_; ((repeat' first | (exact Pick.here) | (refine' Pick.there ?_)); done)) | (exact Cons.blk 0 rfl rfl rfl) | (exact Cons.blk 1 rfl rfl rfl) | (exact Cons.blk 2 rfl rfl rfl) | (exact Cons.blk 3 rfl rfl rfl) | (exact Cons.blk 4 rfl rfl rfl) | (exact Cons.blk 5 rfl rfl rfl) | (exact Cons.pl rfl rfl) | (exact Cons.pl (by assumption) (by assumption)) | (refine' ConsL.cons ?_ ?_) | (exact ConsL.pls rfl rfl) | (exact ConsL.pls (by assumption) (by assumption)) | (refine' Cons.agg ?_)); done))
theorem implLifted_c (e : PE) (b : Int) (hw : wgt e.v ≤ 1048576) (s : S) : VCalls Try.prog 10 [e.v, .int .i64 b] s (fun v t => Own2 (liftTop e b).v v t) := by
  have hh : Hold s s.next [] := .start _ _
  have hU := implUps_c e hw
  have hC := implCopy_c e hw
  unfold liftTop liftB
  by_cases c1 : b < 0
  · rw [decide_eq_false (by omega)]
    simp only [Bool.false_and, Bool.false_eq_true, if_false]
    refine LCalls.body Try.func10 rfl (by kernel_rfl) ?_
    repeat' first
      | (refine kBox ?_ ; first | (refine LOps.boxH hh rfl rfl ?_ ; intro s n hh))
      | (refine kAlloc ?_ ; refine LOps.allocH tT_ok hh rfl rfl ?_ ; intro s n hh)
      | (refine kStore ?_ ; first | (refine LOps.storeHW tT_ok 1 hh rfl rfl rfl rfl rfl rfl rfl ?_ ; intro s hh))
      | (refine kCallN 31 ?_ ; refine LOps.lendC rfl rfl rfl ok31 hh (.cons (.pl (PE.plainv e)) .nil) (fun t => hC t) (PE.plainv _) ?_ ; intro s n hh)
      | (refine kOps ?_; first | (refine LOps.nil ?_) | (refine kG ?_; first | (refine LOps.gF rfl rfl rfl ?_) | (refine LOps.gD true rfl rfl rfl ?_ ?_; (focus (first | (exact decide_eq_true (by assumption)))))) | (refine LOps.ev tT_ok rfl ?_) | (refine kLoad ?_; first | (refine LOps.ans (AnsL.loadH tT_ok 1 hh rfl rfl rfl rfl) ?_)))
      | (refine kWL ?_; first | (refine WL.seq ?_) | (refine WL.region (by kernel_rfl) ?_) | (refine WL.ret ?_) | (refine kCond ?_; first | (refine WL.condT rfl ?_)))
      | (refine lthen_n ?_)
      | (refine lthen_r ?_)
      | (refine' LPost.r1 (r := .cell 4 29) (.inl rfl) ?_ ?_; rotate_left 1; (focus (first | exact Res1.cellH 0 tT_ok hh rfl rfl rfl rfl | exact Res1.cellH 1 tT_ok hh rfl rfl rfl rfl | exact Res1.cellH 2 tT_ok hh rfl rfl rfl rfl | exact Res1.cellH 3 tT_ok hh rfl rfl rfl rfl | exact Res1.cellH 4 tT_ok hh rfl rfl rfl rfl | exact Res1.cellH 5 tT_ok hh rfl rfl rfl rfl | exact Res1.cellH 6 tT_ok hh rfl rfl rfl rfl | exact Res1.cellH 7 tT_ok hh rfl rfl rfl rfl | exact Res1.cellHW 0 tT_ok hh rfl rfl rfl rfl | exact Res1.cellHW 1 tT_ok hh rfl rfl rfl rfl | exact Res1.cellHW 2 tT_ok hh rfl rfl rfl rfl | exact Res1.cellHW 3 tT_ok hh rfl rfl rfl rfl | exact Res1.cellHW 4 tT_ok hh rfl rfl rfl rfl | exact Res1.cellHW 5 tT_ok hh rfl rfl rfl rfl | exact Res1.cellHW 6 tT_ok hh rfl rfl rfl rfl | exact Res1.cellHW 7 tT_ok hh rfl rfl rfl rfl)))
    exact Own2.ofH hh (by ((repeat' first | (exact ConsL.nil) | (exact Cons.zsl) | (exact Cons.nilsl) | (refine' Cons.bp ?_; ((repeat' first | (exact Pick.here) | (refine' Pick.there ?_)); done)) | (refine' Cons.ap ?_; ((repeat' first | (exact Pick.here) | (refine' Pick.there ?_)); done)) | (exact Cons.blk 0 rfl rfl rfl) | (exact Cons.blk 1 rfl rfl rfl) | (exact Cons.blk 2 rfl rfl rfl) | (exact Cons.blk 3 rfl rfl rfl) | (exact Cons.blk 4 rfl rfl rfl) | (exact Cons.blk 5 rfl rfl rfl) | (exact Cons.pl rfl rfl) | (exact Cons.pl (by assumption) (by assumption)) | (refine' ConsL.cons ?_ ?_) | (exact ConsL.pls rfl rfl) | (exact ConsL.pls (by assumption) (by assumption)) | (refine' Cons.agg ?_)); done))
  by_cases c2 : 1000 < b
  · rw [decide_eq_true (show 0 ≤ b by omega), decide_eq_false (show ¬ b ≤ 1000 by omega)]
    simp only [Bool.true_and, Bool.false_and, Bool.false_eq_true, if_false]
    refine LCalls.body Try.func10 rfl (by kernel_rfl) ?_
    repeat' first
      | (refine kBox ?_ ; first | (refine LOps.boxH hh rfl rfl ?_ ; intro s n hh))
      | (refine kAlloc ?_ ; refine LOps.allocH tT_ok hh rfl rfl ?_ ; intro s n hh)
      | (refine kStore ?_ ; first | (refine LOps.storeHW tT_ok 1 hh rfl rfl rfl rfl rfl rfl rfl ?_ ; intro s hh))
      | (refine kCallN 31 ?_ ; refine LOps.lendC rfl rfl rfl ok31 hh (.cons (.pl (PE.plainv e)) .nil) (fun t => hC t) (PE.plainv _) ?_ ; intro s n hh)
      | (refine kOps ?_; first | (refine LOps.nil ?_) | (refine kG ?_; first | (refine LOps.gT rfl rfl rfl ?_) | (refine LOps.gF rfl rfl rfl ?_) | (refine LOps.gD true rfl rfl rfl ?_ ?_; (focus (first | (exact decide_eq_true (by assumption))))) | (refine LOps.gD false rfl rfl rfl ?_ ?_; (focus (first | (exact decide_eq_false (by assumption)))))) | (refine LOps.ev tT_ok rfl ?_) | (refine kLoad ?_; first | (refine LOps.ans (AnsL.loadH tT_ok 1 hh rfl rfl rfl rfl) ?_)))
      | (refine kWL ?_; first | (refine WL.seq ?_) | (refine WL.region (by kernel_rfl) ?_) | (refine WL.ret ?_) | (refine kCond ?_; first | (refine WL.condT rfl ?_)))
      | (refine lthen_n ?_)
      | (refine lthen_r ?_)
      | (refine' LPost.r1 (r := .cell 4 29) (.inl rfl) ?_ ?_; rotate_left 1; (focus (first | exact Res1.cellH 0 tT_ok hh rfl rfl rfl rfl | exact Res1.cellH 1 tT_ok hh rfl rfl rfl rfl | exact Res1.cellH 2 tT_ok hh rfl rfl rfl rfl | exact Res1.cellH 3 tT_ok hh rfl rfl rfl rfl | exact Res1.cellH 4 tT_ok hh rfl rfl rfl rfl | exact Res1.cellH 5 tT_ok hh rfl rfl rfl rfl | exact Res1.cellH 6 tT_ok hh rfl rfl rfl rfl | exact Res1.cellH 7 tT_ok hh rfl rfl rfl rfl | exact Res1.cellHW 0 tT_ok hh rfl rfl rfl rfl | exact Res1.cellHW 1 tT_ok hh rfl rfl rfl rfl | exact Res1.cellHW 2 tT_ok hh rfl rfl rfl rfl | exact Res1.cellHW 3 tT_ok hh rfl rfl rfl rfl | exact Res1.cellHW 4 tT_ok hh rfl rfl rfl rfl | exact Res1.cellHW 5 tT_ok hh rfl rfl rfl rfl | exact Res1.cellHW 6 tT_ok hh rfl rfl rfl rfl | exact Res1.cellHW 7 tT_ok hh rfl rfl rfl rfl)))
    exact Own2.ofH hh (by ((repeat' first | (exact ConsL.nil) | (exact Cons.zsl) | (exact Cons.nilsl) | (refine' Cons.bp ?_; ((repeat' first | (exact Pick.here) | (refine' Pick.there ?_)); done)) | (refine' Cons.ap ?_; ((repeat' first | (exact Pick.here) | (refine' Pick.there ?_)); done)) | (exact Cons.blk 0 rfl rfl rfl) | (exact Cons.blk 1 rfl rfl rfl) | (exact Cons.blk 2 rfl rfl rfl) | (exact Cons.blk 3 rfl rfl rfl) | (exact Cons.blk 4 rfl rfl rfl) | (exact Cons.blk 5 rfl rfl rfl) | (exact Cons.pl rfl rfl) | (exact Cons.pl (by assumption) (by assumption)) | (refine' ConsL.cons ?_ ?_) | (exact ConsL.pls rfl rfl) | (exact ConsL.pls (by assumption) (by assumption)) | (refine' Cons.agg ?_)); done))
  rw [decide_eq_true (show 0 ≤ b by omega), decide_eq_true (show b ≤ 1000 by omega)]
  simp only [Bool.true_and]
  unfold UpsC at hU
  have hL := fun h t => implLift_c e hw b 0 t (by omega) (by omega) (by omega) (by omega) h
  cases hu : e.ups
  · rw [hu] at hU
    simp only [Bool.false_eq_true, if_false]
    refine LCalls.body Try.func10 rfl (by kernel_rfl) ?_
    repeat' first
      | (refine kBox ?_ ; first | (refine LOps.boxH hh rfl rfl ?_ ; intro s n hh))
      | (refine kAlloc ?_ ; refine LOps.allocH tT_ok hh rfl rfl ?_ ; intro s n hh)
      | (refine kStore ?_ ; first | (refine LOps.storeHW tT_ok 1 hh rfl rfl rfl rfl rfl rfl rfl ?_ ; intro s hh))
      | (refine kCallN 31 ?_ ; refine LOps.lendC rfl rfl rfl ok31 hh (.cons (.pl (PE.plainv e)) .nil) (fun t => hC t) (PE.plainv _) ?_ ; intro s n hh)
      | (refine kOps ?_; first | (refine LOps.nil ?_) | (refine kG ?_; first | (refine LOps.gT rfl rfl rfl ?_) | (refine LOps.gD false rfl rfl rfl ?_ ?_; (focus (first | (exact decide_eq_false (by assumption)))))) | (refine LOps.ev tT_ok rfl ?_) | (refine kLoad ?_; first | (refine LOps.ans (AnsL.loadH tT_ok 1 hh rfl rfl rfl rfl) ?_)) | (refine kCallN 30 ?_; first | (refine LOps.ans (AnsL.callP rfl rfl rfl (ok30) (hU _)) ?_)))
      | (refine kWL ?_; first | (refine WL.seq ?_) | (refine WL.region (by kernel_rfl) ?_) | (refine WL.ret ?_) | (refine kCond ?_; first | (refine WL.condT rfl ?_)))
      | (refine lthen_n ?_)
      | (refine lthen_r ?_)
      | (refine' LPost.r1 (r := .cell 4 29) (.inl rfl) ?_ ?_; rotate_left 1; (focus (first | exact Res1.cellH 0 tT_ok hh rfl rfl rfl rfl | exact Res1.cellH 1 tT_ok hh rfl rfl rfl rfl | exact Res1.cellH 2 tT_ok hh rfl rfl rfl rfl | exact Res1.cellH 3 tT_ok hh rfl rfl rfl rfl | exact Res1.cellH 4 tT_ok hh rfl rfl rfl rfl | exact Res1.cellH 5 tT_ok hh rfl rfl rfl rfl | exact Res1.cellH 6 tT_ok hh rfl rfl rfl rfl | exact Res1.cellH 7 tT_ok hh rfl rfl rfl rfl | exact Res1.cellHW 0 tT_ok hh rfl rfl rfl rfl | exact Res1.cellHW 1 tT_ok hh rfl rfl rfl rfl | exact Res1.cellHW 2 tT_ok hh rfl rfl rfl rfl | exact Res1.cellHW 3 tT_ok hh rfl rfl rfl rfl | exact Res1.cellHW 4 tT_ok hh rfl rfl rfl rfl | exact Res1.cellHW 5 tT_ok hh rfl rfl rfl rfl | exact Res1.cellHW 6 tT_ok hh rfl rfl rfl rfl | exact Res1.cellHW 7 tT_ok hh rfl rfl rfl rfl)))
    exact Own2.ofH hh (by ((repeat' first | (exact ConsL.nil) | (exact Cons.zsl) | (exact Cons.nilsl) | (refine' Cons.bp ?_; ((repeat' first | (exact Pick.here) | (refine' Pick.there ?_)); done)) | (refine' Cons.ap ?_; ((repeat' first | (exact Pick.here) | (refine' Pick.there ?_)); done)) | (exact Cons.blk 0 rfl rfl rfl) | (exact Cons.blk 1 rfl rfl rfl) | (exact Cons.blk 2 rfl rfl rfl) | (exact Cons.blk 3 rfl rfl rfl) | (exact Cons.blk 4 rfl rfl rfl) | (exact Cons.blk 5 rfl rfl rfl) | (exact Cons.pl rfl rfl) | (exact Cons.pl (by assumption) (by assumption)) | (refine' ConsL.cons ?_ ?_) | (exact ConsL.pls rfl rfl) | (exact ConsL.pls (by assumption) (by assumption)) | (refine' Cons.agg ?_)); done))
  · have hL := hL hu
    rw [hu] at hU
    simp only [if_true]
    refine LCalls.body Try.func10 rfl (by kernel_rfl) ?_
    repeat' first
      | (refine kBox ?_ ; first | (refine LOps.boxH hh rfl rfl ?_ ; intro s n hh))
      | (refine kAlloc ?_ ; refine LOps.allocH tT_ok hh rfl rfl ?_ ; intro s n hh)
      | (refine kStore ?_ ; first | (refine LOps.storeHW tT_ok 1 hh rfl rfl rfl rfl rfl rfl rfl ?_ ; intro s hh))
      | (refine kCallN 32 ?_ ; refine LOps.lendC rfl rfl rfl ok32 hh (.cons (.pl (PE.plainv e)) (.cons (.pl rfl) (.cons (.pl rfl) .nil))) (fun t => hL t) (PE.plainv _) ?_ ; intro s n hh)
      | (refine kOps ?_; first | (refine LOps.nil ?_) | (refine kG ?_; first | (refine LOps.gT rfl rfl rfl ?_) | (refine LOps.gD false rfl rfl rfl ?_ ?_; (focus (first | (exact decide_eq_false (by assumption)))))) | (refine LOps.ev tT_ok rfl ?_) | (refine kLoad ?_; first | (refine LOps.ans (AnsL.loadH tT_ok 1 hh rfl rfl rfl rfl) ?_)) | (refine kCallN 30 ?_; first | (refine LOps.ans (AnsL.callP rfl rfl rfl (ok30) (hU _)) ?_)))
      | (refine kWL ?_; first | (refine WL.seq ?_) | (refine WL.region (by kernel_rfl) ?_) | (refine WL.skip ?_) | (refine WL.ret ?_) | (refine kCond ?_; first | (refine WL.condF rfl ?_)))
      | (refine lthen_n ?_)
      | (refine' LPost.r1 (r := .cell 4 29) (.inl rfl) ?_ ?_; rotate_left 1; (focus (first | exact Res1.cellH 0 tT_ok hh rfl rfl rfl rfl | exact Res1.cellH 1 tT_ok hh rfl rfl rfl rfl | exact Res1.cellH 2 tT_ok hh rfl rfl rfl rfl | exact Res1.cellH 3 tT_ok hh rfl rfl rfl rfl | exact Res1.cellH 4 tT_ok hh rfl rfl rfl rfl | exact Res1.cellH 5 tT_ok hh rfl rfl rfl rfl | exact Res1.cellH 6 tT_ok hh rfl rfl rfl rfl | exact Res1.cellH 7 tT_ok hh rfl rfl rfl rfl | exact Res1.cellHW 0 tT_ok hh rfl rfl rfl rfl | exact Res1.cellHW 1 tT_ok hh rfl rfl rfl rfl | exact Res1.cellHW 2 tT_ok hh rfl rfl rfl rfl | exact Res1.cellHW 3 tT_ok hh rfl rfl rfl rfl | exact Res1.cellHW 4 tT_ok hh rfl rfl rfl rfl | exact Res1.cellHW 5 tT_ok hh rfl rfl rfl rfl | exact Res1.cellHW 6 tT_ok hh rfl rfl rfl rfl | exact Res1.cellHW 7 tT_ok hh rfl rfl rfl rfl)))
    exact Own2.ofH hh (by ((repeat' first | (exact ConsL.nil) | (exact Cons.zsl) | (exact Cons.nilsl) | (refine' Cons.bp ?_; ((repeat' first | (exact Pick.here) | (refine' Pick.there ?_)); done)) | (refine' Cons.ap ?_; ((repeat' first | (exact Pick.here) | (refine' Pick.there ?_)); done)) | (exact Cons.blk 0 rfl rfl rfl) | (exact Cons.blk 1 rfl rfl rfl) | (exact Cons.blk 2 rfl rfl rfl) | (exact Cons.blk 3 rfl rfl rfl) | (exact Cons.blk 4 rfl rfl rfl) | (exact Cons.blk 5 rfl rfl rfl) | (exact Cons.pl rfl rfl) | (exact Cons.pl (by assumption) (by assumption)) | (refine' ConsL.cons ?_ ?_) | (exact ConsL.pls rfl rfl) | (exact ConsL.pls (by assumption) (by assumption)) | (refine' Cons.agg ?_)); done))

end Go.Proofs.Ytolhegocbkckdaa
