/-
 The law on typed trees' free columns. Own work; no condition.
-/
import Derived.Test.YtolhegocbkckdaaMg21
import Derived.Test.YtolhegocbkckdaaDTyI
import Derived.Test.YtolhegocbkckdaaDTyD
import Derived.Test.YtolhegocbkckdaaDPFree2
import Derived.Test.YtolhegocbkckdaaDBig
import Derived.Test.YtolhegocbkckdaaDTd8
namespace Go.Proofs.Ytolhegocbkckdaa
open Go
set_option linter.unusedSimpArgs false
set_option linter.unusedVariables false
theorem implFreeIn_q (e : PE) (hw : wgt e.v ≤ 1048576) (u : Int) (s : S) : VCalls Try.prog 13 [e.v, .int .i64 u] s (fun v s' => v = .sl 0 ((freeTop e u).map Bind.toV) ∧ s' = s) :=
 VCalls.pureOf (plainL_cons (PE.plainv e) (plainL_cons rfl rfl)) (plain_BindS _) (fun t => implFreeIn_o e hw u t) s
theorem specFreeIn_q (e : PE) (hw : wgt e.v ≤ 1048576) (u : Int) (s : S) : VCalls Try.prog 16 [e.v, .int .i64 u] s (fun v s' => v = .sl 0 ((freeTop e u).map Bind.toV) ∧ s' = s) :=
 VCalls.pureOf (plainL_cons (PE.plainv e) (plainL_cons rfl rfl)) (plain_BindS _) (fun t => specFreeIn_o e hw u t) s
theorem freeTop_len2 (e : PE) (u : Int) : (freeTop e u).length ≤ 1 + wgt e.v := by
 unfold freeTop
 split
 · exact PE.col_len freeAt freeAt_len e u
 · simp
theorem Cat.small_wt2 {ts : List Tab} (h : ts.length ≤ 3) (hs : ∀ t ∈ ts, t.small) : (⟨ts⟩ : Cat).wt ≤ 1048576 := by
 have e : slW Tab.wt ts ≤ ts.length * 23 := by
   clear h
   induction ts with
   | nil => exact Nat.le_refl _
   | cons c l ih =>
     have a1 := Tab.small_wt (hs c (by simp))
     have a2 := ih fun x hx => hs x (by simp [hx])
     simp only [slW, sumW, List.length_cons, List.map_cons, List.sum_cons] at a2 ⊢
     omega
 have m : ts.length * 23 ≤ 3 * 23 := Nat.mul_le_mul_right _ h
 simp only [Cat.wt]
 omega
abbrev TyArg : Type := List Tab × List (List Int) × PE
def TyArg.ok (x : TyArg) : Prop := ((0 < x.1.length ∧ x.1.length ≤ 3) ∧ ∀ t ∈ x.1, t.small) ∧ (x.2.1.length ≤ 3 ∧ ∀ r ∈ x.2.1, r.length ≤ 2) ∧ wgt x.2.2.v ≤ 2990
theorem rows_ok {env : List (List Int)} (h : ∀ r ∈ env, r.length ≤ 4) : RowsOk env := fun r hr => Nat.le_trans (h r hr) (by decide)
theorem implTypeIn_q {ts : List Tab} {e : PE} (h1 : ts.length ≤ 3) (h2 : ∀ t ∈ ts, t.small) (h3 : wgt e.v ≤ 2990) (env : List (List Int)) (h4 : env.length ≤ 9) (h5 : ∀ r ∈ env, r.length ≤ 4) (s : S) : VCalls Try.prog 26 [catV ts, envW env, e.v] s (fun v s' => v = optV (e.ty ⟨ts⟩ env) ∧ s' = s) :=
 implTypeIn_c ⟨ts⟩ (Cat.small_wt2 h1 h2) e (by omega) env (by omega) (rows_ok h5) s
theorem specTypeIn_q {ts : List Tab} {e : PE} (h1 : ts.length ≤ 3) (h2 : ∀ t ∈ ts, t.small) (h3 : wgt e.v ≤ 2990) (env : List (List Int)) (h4 : env.length ≤ 9) (h5 : ∀ r ∈ env, r.length ≤ 4) (s : S) : VCalls Try.prog 27 [catV ts, envW env, e.v] s (fun v s' => v = optV (e.ty ⟨ts⟩ env) ∧ s' = s) :=
 specTypeIn_c ⟨ts⟩ (Cat.small_wt2 h1 h2) e (by omega) env (by omega) (rows_ok h5) s
theorem lawTypedFreeL_v {b : V} (hb : Bytes b) (s : S) : VCalls Try.prog 6 [b] s (fun v _ => v = .bool true) := by
 obtain ⟨c, hbig⟩ := big_v hb
 have hh : Hold s s.next [] := .start _ _
 refine LCalls.body Try.func6 rfl (by kernel_rfl) ?_
 cases c
 · skip
   repeat' first | (refine kAlloc ?_ ; refine LOps.allocH tT_ok hh rfl rfl ?_ ; intro s n hh) | (refine kStore ?_ ; first | (refine LOps.storeH tT_ok 0 hh rfl rfl rfl rfl rfl rfl rfl rfl rfl ?_ ; intro s hh) | (refine LOps.storeH tT_ok 1 hh rfl rfl rfl rfl rfl rfl rfl rfl rfl ?_ ; intro s hh)) | (refine kCallN 25 ?_ ; refine LOps.drawAll rfl rfl ok25 hh (specDrawTypeIn_d hb) ?_ ; intro s x hq hh) | (refine kOps ?_; first | (refine LOps.nil ?_) | (refine LOps.ev tT_ok rfl ?_) | (refine kLoad ?_; first | (refine LOps.ans (AnsL.loadH tT_ok 0 hh rfl rfl rfl rfl) ?_) | (refine LOps.ans (AnsL.loadH tT_ok 1 hh rfl rfl rfl rfl) ?_)) | (refine kCallN 8 ?_; first | (refine LOps.ans (AnsL.callP rfl rfl rfl (ok8) (hbig _)) ?_))) | (refine kWL ?_; first | (refine WL.seq ?_) | (refine WL.region (by kernel_rfl) ?_) | (refine WL.skip ?_) | (refine kCond ?_; first | (refine WL.condF rfl ?_))) | (refine lthen_n ?_)
   rename_i nc _ _ _ _ _
   obtain ⟨ts, env, e⟩ := x
   obtain ⟨⟨h1, h2⟩, ⟨h3, h4⟩, h5⟩ := hq
   dsimp only at h1 h2 h3 h4 h5 hh ⊢
   have hw : wgt e.v ≤ 2990 := Nat.le_trans h5 (by decide)
   have hI := fun t => implTypeIn_q (ts := ts) (e := e) h1.2 h2 hw env (by omega) (fun r hr => Nat.le_trans (h4 r hr) (by omega)) t
   have hS := fun t => specTypeIn_q (ts := ts) (e := e) h1.2 h2 hw env (by omega) (fun r hr => Nat.le_trans (h4 r hr) (by omega)) t
   have hF := fun t => implFreeIn_q e (by omega) 0 t
   have hG := fun t => specFreeIn_q e (by omega) 0 t
   have hlen := freeTop_len2 e 0
   have hz : freeTop e 0 = e.col freeAt 0 := if_pos ⟨by omega, by omega⟩
   have hin : ∀ t, e.ty ⟨ts⟩ env = some t → ∀ b ∈ freeTop e 0, InE env b := fun t ht => by
     rw [hz]
     exact free_ty0 ht
   clear hz
   generalize freeTop e 0 = r at hF hG hlen hin
   cases ho : e.ty ⟨ts⟩ env with
   | none =>
     rw [ho] at hI hS
     replace hI : ∀ t, VCalls Try.prog 26 [catV ts, envW env, e.v] t (fun v s' => v = .tup [.int .i64 0, .bool false] ∧ s' = t) := hI
     replace hS : ∀ t, VCalls Try.prog 27 [catV ts, envW env, e.v] t (fun v s' => v = .tup [.int .i64 0, .bool false] ∧ s' = t) := hS
     repeat' first | (refine kOps ?_; first | (refine LOps.nil ?_) | (refine LOps.ev tT_ok rfl ?_) | (refine kLoad ?_; first | (refine LOps.ans (AnsL.loadH tT_ok 0 hh rfl rfl rfl rfl) ?_) | (refine LOps.ans (AnsL.loadH tT_ok 1 hh rfl rfl rfl rfl) ?_)) | (refine kCallN 13 ?_; first | (refine LOps.ans (AnsL.callP rfl rfl rfl (ok13) (hF _)) ?_)) | (refine kCallN 26 ?_; first | (refine LOps.ans (AnsL.callP rfl rfl rfl (ok26) (hI _)) ?_)) | (refine kCallN 27 ?_; first | (refine LOps.ans (AnsL.callP rfl rfl rfl (ok27) (hS _)) ?_))) | (refine kWL ?_; first | (refine WL.seq ?_) | (refine WL.region (by kernel_rfl) ?_) | (refine WL.block ?_) | (refine WL.skip ?_) | (refine kCond ?_; first | (refine WL.condF rfl ?_))) | (refine lthen_n ?_)
     refine WL.loopH (fun _ : Nat => 0) (fun _ => [(3, .ptr nc 0), (5, .ptr n 0), (7, .bool false), (10, .sl 0 (r.map Bind.toV)), (11, .int .i64 0)]) (fun _ => [.cell n [.int .i64 e.kind, .int .i64 e.op, .bool e.nt, .int .i64 e.value.kind, .int .i64 e.value.num, .str e.value.text, .int .i64 e.up, .int .i64 e.pos, .sl 0 (e.kids.map PE.toV), .sl 0 (e.sub.map PE.planV)], .cell nc [.sl 0 (ts.map Tab.toV)]])
       (fun _ => True) 0 trivial ⟨rfl, rfl, rfl, rfl, rfl, trivial⟩ hh (Sel.refl _) (fun i s hi hh => ?_)
     try dsimp only at hh ⊢
     by_cases hlt : (0 : Int) < (r.length : Int)
     · skip
       repeat' first | (refine kOps ?_; first | (refine LOps.nil ?_) | (refine kG ?_; first | (refine LOps.gT rfl rfl rfl ?_) | (refine LOps.gD true rfl rfl rfl ?_ ?_; (focus (first | (exact decide_eq_true (by assumption)))))) | (refine LOps.ev tT_ok rfl ?_) | (refine kLoad ?_; first | (refine LOps.ans (AnsL.loadH tT_ok 0 hh rfl rfl rfl rfl) ?_)) | (refine kLen ?_; first | (refine LOps.ans (AnsL.lenM tT_ok rfl rfl rfl) ?_)) | (refine kCallN 16 ?_; first | (refine LOps.ans (AnsL.callP rfl rfl rfl (ok16) (hG _)) ?_))) | (refine kWL ?_; first | (refine WL.seq ?_) | (refine WL.region (by kernel_rfl) ?_) | (refine WL.exit ?_) | (refine WL.ret ?_) | (refine kCond ?_; first | (refine WL.condF rfl ?_))) | (refine lthen_n ?_) | (refine lthen_e ?_) | (refine lblock_e ?_) | (refine lbackH_e ?_) | (refine LPost.r1 (r := .tmp 2) (.inl rfl) (Res1.tmp rfl) ?_)
       simp
     · skip
       repeat' first | (refine kOps ?_; first | (refine LOps.nil ?_) | (refine kG ?_; first | (refine LOps.gF rfl rfl rfl ?_) | (refine LOps.gD false rfl rfl rfl ?_ ?_; (focus (first | (exact decide_eq_false (by assumption)))))) | (refine LOps.ev tT_ok rfl ?_) | (refine kLoad ?_; first | (refine LOps.ans (AnsL.loadH tT_ok 0 hh rfl rfl rfl rfl) ?_)) | (refine kLen ?_; first | (refine LOps.ans (AnsL.lenM tT_ok rfl rfl rfl) ?_)) | (refine kCallN 16 ?_; first | (refine LOps.ans (AnsL.callP rfl rfl rfl (ok16) (hG _)) ?_))) | (refine kWL ?_; first | (refine WL.seq ?_) | (refine WL.region (by kernel_rfl) ?_) | (refine WL.exit ?_) | (refine WL.ret ?_) | (refine kCond ?_; first | (refine WL.condF rfl ?_))) | (refine lthen_n ?_) | (refine lthen_e ?_) | (refine lblock_e ?_) | (refine lbackH_e ?_) | (refine LPost.r1 (r := .tmp 2) (.inl rfl) (Res1.tmp rfl) ?_)
       simp
   | some t =>
     rw [ho] at hI hS
     replace hI : ∀ s, VCalls Try.prog 26 [catV ts, envW env, e.v] s (fun v s' => v = .tup [.int .i64 t, .bool true] ∧ s' = s) := hI
     replace hS : ∀ s, VCalls Try.prog 27 [catV ts, envW env, e.v] s (fun v s' => v = .tup [.int .i64 t, .bool true] ∧ s' = s) := hS
     replace hin := hin t ho
     repeat' first | (refine kOps ?_; first | (refine LOps.nil ?_) | (refine LOps.ev tT_ok rfl ?_) | (refine kLoad ?_; first | (refine LOps.ans (AnsL.loadH tT_ok 0 hh rfl rfl rfl rfl) ?_) | (refine LOps.ans (AnsL.loadH tT_ok 1 hh rfl rfl rfl rfl) ?_)) | (refine kCallN 13 ?_; first | (refine LOps.ans (AnsL.callP rfl rfl rfl (ok13) (hF _)) ?_)) | (refine kCallN 26 ?_; first | (refine LOps.ans (AnsL.callP rfl rfl rfl (ok26) (hI _)) ?_)) | (refine kCallN 27 ?_; first | (refine LOps.ans (AnsL.callP rfl rfl rfl (ok27) (hS _)) ?_))) | (refine kWL ?_; first | (refine WL.seq ?_) | (refine WL.region (by kernel_rfl) ?_) | (refine WL.block ?_) | (refine WL.skip ?_) | (refine kCond ?_; first | (refine WL.condF rfl ?_))) | (refine lthen_n ?_)
     refine WL.loopH (fun i : Nat => r.length - i) (fun i => [(3, .ptr nc 0), (4, envW env), (5, .ptr n 0), (7, .bool true), (10, .sl 0 (r.map Bind.toV)), (11, .int .i64 (i : Int))]) (fun _ => [.cell n [.int .i64 e.kind, .int .i64 e.op, .bool e.nt, .int .i64 e.value.kind, .int .i64 e.value.num, .str e.value.text, .int .i64 e.up, .int .i64 e.pos, .sl 0 (e.kids.map PE.toV), .sl 0 (e.sub.map PE.planV)], .cell nc [.sl 0 (ts.map Tab.toV)]])
       (fun i => i ≤ r.length) 0 (Nat.zero_le _) ⟨rfl, rfl, rfl, rfl, rfl, rfl, trivial⟩ hh (Sel.refl _) (fun i s hi hh => ?_)
     try dsimp only at hi hh ⊢
     rcases Nat.lt_or_ge i r.length with hlt | hge
     · have hga : (r.map Bind.toV)[i]? = some (Bind.toV r[i]) := by simp [hlt]
       have hb1 := hin r[i] (List.getElem_mem hlt)
       generalize r[i] = q at hga hb1
       obtain ⟨up, pos, qt⟩ := q
       obtain ⟨k1, row, k2, k3, k4⟩ := hb1
       dsimp only at k1 k2 k3 k4
       obtain ⟨up, rfl⟩ : ∃ m : Nat, up = m := ⟨up.toNat, by omega⟩
       obtain ⟨pos, rfl⟩ : ∃ m : Nat, pos = m := ⟨pos.toNat, by omega⟩
       have hul : up < env.length := (List.getElem?_eq_some_iff.1 k2).1
       have hgb : (env.map rwV)[up]? = some (rwV row) := by
         have k5 : env[up]? = some row := k2
         rw [List.getElem?_map, k5]
         simp
       repeat' first | (refine kOps ?_; first | (refine LOps.nil ?_) | (refine kG ?_; first | (refine LOps.gT rfl rfl rfl ?_) | (refine LOps.gD true rfl rfl rfl ?_ ?_; (focus (first | (simp <;> omega))))) | (refine LOps.ev tT_ok rfl ?_) | (refine kLen ?_; first | (refine LOps.ans (AnsL.lenM tT_ok rfl rfl rfl) ?_)) | (refine kBin ?_; first | (refine LOps.ans (AnsL.add rfl rfl ?_) ?_; (focus (constructor <;> omega))))) | (refine kWL ?_; first | (refine WL.seq ?_) | (refine WL.region (by kernel_rfl) ?_) | (refine WL.drawn (id := 12) [0, 1, 2, 3, 4, 5, 6, 7, 8, 9, 10, 11, 12, 13, 14, 15, 16, 17, 18, 19, 20, 21, 22, 23, 24, 25, 26, 27, 28, 29, 30, 31, 32] [] [[], [], [0, 1], [0, 1, 2], [0, 1, 2, 3], [], [5], [0, 1, 2, 3, 4, 5, 6], [0, 1, 2, 3, 4, 5, 6, 7], [0, 1, 2, 3, 4, 5, 6, 7, 8], [0, 1, 2, 3, 4, 5, 6, 7, 8], [0, 1, 2, 3, 4, 5, 6, 7, 8, 9, 10], [0, 1, 2, 3, 4, 5, 6, 7, 8, 9, 10, 11], [0, 1, 2, 3, 4, 5, 6, 7, 8, 9, 10, 11, 12], [0, 1, 2, 3, 4, 5, 6, 7, 8, 9, 10, 11, 12, 13], [0, 1, 2, 3, 4, 5, 6, 7, 8, 9, 10, 11, 12, 13, 14], [0, 1, 2, 3, 4, 5, 6, 7, 8, 9, 10, 11, 12, 13, 14, 15], [0, 1, 2, 3, 4, 5, 6, 7, 8, 9, 10, 11, 12, 13, 14, 15, 16], [0, 1, 2, 3, 4, 5, 6, 7, 8, 9, 10, 11, 12, 13, 14, 15, 16], [0, 1, 2, 3, 4, 5, 6, 7, 8, 9, 10, 11, 12, 13, 14, 15, 16, 17, 18], [0, 1, 2, 3, 4, 5, 6, 7, 8, 9, 10, 11, 12, 13, 14, 15, 16, 17, 18, 19], [0, 1, 2, 3, 4, 5, 6, 7, 8, 9, 10, 11, 12, 13, 14, 15, 16, 17, 18, 19, 20], [0, 1, 2, 3, 4, 5, 6, 7, 8, 9, 10, 11, 12, 13, 14, 15, 16], [0, 1, 2, 3, 4, 5, 6, 7, 8, 9, 10, 11, 12, 13, 14, 15, 16], [0, 1, 2, 3, 4, 5, 6, 7, 8, 9, 10, 11, 12, 13, 14, 15, 16], [0, 1, 2, 3, 4, 5, 6, 7, 8, 9, 10, 11, 12, 13, 14, 15, 16, 23, 24], [0, 1, 2, 3, 4, 5, 6, 7, 8, 9, 10, 11, 12, 13, 14, 15, 16, 23, 24, 25], [0, 1, 2, 3, 4, 5, 6, 7, 8, 9, 10, 11, 12, 13, 14, 15, 16, 23, 24, 25, 26], [0, 1, 2, 3, 4, 5, 6, 7, 8, 9, 10, 11, 12, 13, 14, 15, 16, 22, 23, 24, 25, 26, 27], [0, 1, 2, 3, 4, 5, 6, 7, 8, 9, 10, 11, 12, 13, 14, 15, 16, 22, 23, 24, 25, 26, 27, 28], [0, 1, 2, 3, 4, 5, 6, 7, 8, 9, 10, 11, 12, 13, 14, 15, 16, 22, 23, 24, 25, 26, 27, 28, 29], [0, 1, 2, 3, 4, 5, 6, 7, 8, 9, 10, 11, 12, 13, 14, 15, 16, 17, 18, 19, 20, 21, 22, 23, 24, 25, 26, 27, 28, 29, 30], [0, 1, 2, 3, 4, 5, 6, 7, 8, 9, 10, 11, 12, 13, 14, 15, 16, 17, 18, 19, 20, 21, 22, 23, 24, 25, 26, 27, 28, 29, 30, 31]] (by kernel_rfl) (by kernel_rfl) ?_) | (refine WL.block ?_) | (refine WL.skip ?_) | (refine kCond ?_; first | (refine WL.condT rfl ?_) | (refine WL.condF' rfl ?_ ?_; (focus (first | (simp <;> omega)))))) | (refine kDr ?_; first | (refine LDr.nil ?_) | (refine LDr.fl rfl rfl (.ev tT_ok rfl) ?_) | (refine LDr.gT rfl rfl rfl rfl rfl (.ev tT_ok rfl) ?_) | (refine kDLen rfl ?_; first | (refine LDr.fl rfl rfl (AnsL.lenM tT_ok rfl rfl rfl) ?_) | (refine LDr.gT rfl rfl rfl rfl rfl (AnsL.lenM tT_ok rfl rfl rfl) ?_)) | (refine kDIdx rfl ?_; first | (refine LDr.fl rfl rfl (AnsL.idx tT_ok rfl rfl rfl rfl rfl hga rfl rfl) ?_) | (refine LDr.gT rfl rfl rfl rfl rfl (AnsL.idx tT_ok rfl rfl rfl rfl rfl hga rfl rfl) ?_) | (refine LDr.gT rfl rfl rfl rfl rfl (AnsL.idx tT_ok rfl rfl rfl rfl rfl hgb rfl rfl) ?_)) | (refine LDr.gD false rfl rfl rfl rfl ?_ ?_; (focus (first | (simp <;> omega))))) | (refine lthen_n ?_) | (refine lblock_n ?_)
       refine lbackH.of (i + 1) ?_ hh (Sel.refl _) hlt (by omega)
       exact ⟨rfl, rfl, rfl, rfl, rfl, rfl, trivial⟩
     · skip
       repeat' first | (refine kOps ?_; first | (refine LOps.nil ?_) | (refine kG ?_; first | (refine LOps.gF rfl rfl rfl ?_) | (refine LOps.gD false rfl rfl rfl ?_ ?_; (focus (first | (simp <;> omega))))) | (refine LOps.ev tT_ok rfl ?_) | (refine kLoad ?_; first | (refine LOps.ans (AnsL.loadH tT_ok 0 hh rfl rfl rfl rfl) ?_)) | (refine kLen ?_; first | (refine LOps.ans (AnsL.lenM tT_ok rfl rfl rfl) ?_)) | (refine kCallN 16 ?_; first | (refine LOps.ans (AnsL.callP rfl rfl rfl (ok16) (hG _)) ?_))) | (refine kWL ?_; first | (refine WL.seq ?_) | (refine WL.region (by kernel_rfl) ?_) | (refine WL.exit ?_) | (refine WL.ret ?_) | (refine kCond ?_; first | (refine WL.condF rfl ?_))) | (refine lthen_n ?_) | (refine lthen_e ?_) | (refine lblock_e ?_) | (refine lbackH_e ?_) | (refine LPost.r1 (r := .tmp 2) (.inl rfl) (Res1.tmp rfl) ?_)
       simp
 · skip
   repeat' first | (refine kOps ?_; first | (refine LOps.nil ?_) | (refine LOps.ev tT_ok rfl ?_) | (refine kCallN 8 ?_; first | (refine LOps.ans (AnsL.callP rfl rfl rfl (ok8) (hbig _)) ?_))) | (refine kWL ?_; first | (refine WL.seq ?_) | (refine WL.region (by kernel_rfl) ?_) | (refine WL.ret ?_) | (refine kCond ?_; first | (refine WL.condT rfl ?_))) | (refine lthen_n ?_) | (refine lthen_r ?_) | (refine LPost.r1 (r := .tmp 2) (.inl rfl) (Res1.tmp rfl) ?_)
   rfl
end Go.Proofs.Ytolhegocbkckdaa
