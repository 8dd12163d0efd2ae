/-
  The law of scopes of sources. Own work; no condition.
-/
import Derived.Test.YtoagpmhdgllchaaDScR
namespace Go.Proofs.Ytoagpmhdgllchaa
open Go
set_option linter.unusedSimpArgs false
set_option linter.unusedVariables false

theorem VCalls.pureOfT {P : Program} {f : FuncId} {ds us : List V} (hds : V.plainL ds = true) (hd : V.plainL us = true) (h : ∀ t, VCalls P f ds t (fun v t' => Own2 (.tup us) v t')) (s : S) : VCalls P f ds s (fun v s' => v = .tup us ∧ s' = s) := by
  have hdat : V.dat (.tup us) = true := by
    have := plain_dat (.agg us) hd
    simpa [V.dat] using this
  have hfg : V.forget (.tup us) = .tup us := by
    have := plain_forget (.agg us) hd
    simp only [V.forget, V.agg.injEq] at this
    simp only [V.forget, this]
  refine VCalls.pure hdat (VCalls.turn (VCalls.lend2 (RdL.plain ds hds) h) ?_)
  rintro v s' _ ⟨rfl, rfl⟩
  have k := VTurn.thaw s (d := .agg us) hd
  exact ⟨.tup us, _, k.tup, hfg, fun l hl => ext_vars_lt s _ hl, fun l hl => ext_fams_lt s _ hl⟩
theorem scopeOf_no (c : Cat) : ∀ (l : List ESrc) (seen : List (List UInt8)) (ns r : List Named) (w : Int) (e : List UInt8), scopeOf c l seen ns = (r, w, e) → w ≠ 0 → r = []
  | [], seen, ns, r, w, e, h, hw => by
    simp only [scopeOf, Prod.mk.injEq] at h
    exact absurd h.2.1.symm hw
  | x :: l, seen, ns, r, w, e, h, hw => by
    unfold scopeOf at h
    split at h
    · simp only [Prod.mk.injEq] at h; exact h.1.symm
    · split at h
      · simp only [Prod.mk.injEq] at h; exact h.1.symm
      · exact scopeOf_no c l _ _ r w e h hw
theorem slW_app' {α : Type} (f : α → Nat) (a b : List α) : slW f (a ++ b) = slW f a + slW f b := by simp [slW, sumW]; omega
theorem bring_wt {ts : List Tab} (h : ∀ t ∈ ts, t.mid) (x : ESrc) (h1 : x.table.length ≤ 8) (h2 : x.als.length ≤ 8) : slW Named.wt (bring ⟨ts⟩ x) ≤ 200 := by
  unfold bring
  split
  · rename_i t ht
    obtain ⟨_, m2, m3⟩ := h t (List.mem_of_getElem? ht)
    have ha : (srcAlias x).length ≤ 8 := by unfold srcAlias; split <;> assumption
    have key : ∀ l : List Col, (∀ c ∈ l, c.name.length ≤ 21) → slW Named.wt (l.map fun k => (⟨srcAlias x, k.name, k.type⟩ : Named)) ≤ 30 * l.length := by
      intro l
      induction l with
      | nil => intro _; exact Nat.le_refl _
      | cons c l ih =>
        intro hl
        have a1 := ih fun y hy => hl y (by simp [hy])
        have a2 := hl c (by simp)
        simp only [slW, sumW, Named.wt, List.map_cons, List.length_cons, List.sum_cons, List.length_map] at a1 ⊢
        omega
    have := key t.cols m3
    omega
  · exact Nat.zero_le _
theorem scopeOf_wt {ts : List Tab} (h : ∀ t ∈ ts, t.mid) : ∀ (l : List ESrc) (seen : List (List UInt8)) (ns : List Named), (∀ x ∈ l, x.table.length ≤ 8 ∧ x.als.length ≤ 8) → slW Named.wt (scopeOf ⟨ts⟩ l seen ns).1 ≤ slW Named.wt ns + 200 * l.length
  | [], seen, ns, hx => by simp [scopeOf]
  | x :: l, seen, ns, hx => by
    unfold scopeOf
    split
    · exact Nat.zero_le _
    · split
      · exact Nat.zero_le _
      · have a1 := scopeOf_wt h l (seen ++ [srcAlias x]) (ns ++ bring ⟨ts⟩ x) fun y hy => hx y (by simp [hy])
        have a2 := bring_wt h x (hx x (by simp)).1 (hx x (by simp)).2
        rw [slW_app'] at a1
        simp only [List.length_cons]
        omega
theorem plain_srcs (r : List (List UInt8 × List UInt8)) : V.plain (.sl 0 ((srcs r).map ESrc.v)) = true := by
  have e : (srcs r).map ESrc.v = r.map (fun p => .agg [.str p.1, .str p.2, .sl 0 []]) := by simp [srcs, ESrc.v]
  rw [e]
  exact plain_map 3 (fun _ => rfl) (fun _ => rfl) r
theorem VCalls.lookB {P : Program} {f : FuncId} {vs ds : List V} {a b c d : Int} {s : S} (hrd : RdL s vs ds) (h : ∀ t, VCalls P f ds t (fun v t' => v = .tup [.agg [.int .i64 a, .int .i64 b, .int .i64 c], .int .i64 d] ∧ t' = t)) : VCalls P f vs s (fun v s' => v = .tup [.agg [.int .i64 a, .int .i64 b, .int .i64 c], .int .i64 d] ∧ s' = s) := by
  have e1 : ∀ n, thw n (.tup [.agg [.int .i64 a, .int .i64 b, .int .i64 c], .int .i64 d]) = (.tup [.agg [.int .i64 a, .int .i64 b, .int .i64 c], .int .i64 d], []) := fun n => rfl
  have := VCalls.lend2 (d := .tup [.agg [.int .i64 a, .int .i64 b, .int .i64 c], .int .i64 d]) hrd fun t => (h t).mono fun v t' hv => by
    obtain ⟨rfl, rfl⟩ := hv
    exact ⟨[], .tup (.cons (.agg (.cons (.scal rfl) (.cons (.scal rfl) (.cons (.scal rfl) .nil)))) (.cons (.scal rfl) .nil)), List.nodup_nil⟩
  intro E vals h1 h2
  have e2 : s.ext [] = s := ext_nil h1
  refine (this.mono fun v s' hv => ?_) E vals h1 h2
  obtain ⟨rfl, rfl⟩ := hv
  rw [thawed, e1]
  exact ⟨rfl, e2⟩
theorem Hold.extM2 {s : S} {H : List BE} (h : Hold s s.next H) (xs : List Own) : Hold (s.ext xs) (s.ext xs).next H := by
  obtain ⟨ls, h1, h2, h3⟩ := h.ex
  exact ⟨ls, h1.congr (by rw [ext_next]; omega) fun p hp => .lt (h3 p hp), h2, fun p hp => by rw [ext_next]; have := h3 p hp; omega⟩
theorem LOps.rebM2 {P : Program} {N : Nat} {ops : Array Oper} {l : List Oper} {K : Kn → S → Prop} {L : Kn} {s : S} {H : List BE} {xs : List Own} (hh : Hold s s.next H) (hk : ∀ s1 : S, Hold s1 s1.next H → LOps P N ops l K L (s1.ext [])) : LOps P N ops l K L (s.ext xs) := by
  rw [← ext_ext_nil]
  exact hk _ (hh.extM2 xs)

set_option maxHeartbeats 2000000 in
theorem lawScopeL_v {b : V} (hb : Bytes b) (s : S) : VCalls Try.prog 3 [b] s (fun v _ => v = .bool true) := by
  obtain ⟨c, hbig⟩ := big_v hb
  have hh : Hold s s.next [] := .start _ _
  refine LCalls.body Try.func3 rfl (by kernel_rfl) ?_
  cases c
  · skip
    repeat' first
      | (refine kAlloc ?_ ; refine LOps.allocH tT_ok hh rfl rfl ?_ ; intro s n hh)
      | (refine kStore ?_ ; first | (refine LOps.storeH tT_ok 0 hh rfl rfl rfl rfl rfl rfl rfl rfl rfl ?_ ; intro s hh))
      | (refine kCallN 7 ?_ ; refine LOps.drawAll rfl rfl ok7 hh (specDrawScopeOf_d hb) ?_ ; intro s x hq hh)
      | (refine kOps ?_; first | (refine LOps.nil ?_) | (refine LOps.ev tT_ok rfl ?_) | (refine kLoad ?_; first | (refine LOps.ans (AnsL.loadH tT_ok 0 hh rfl rfl rfl rfl) ?_)) | (refine kCallN 6 ?_; first | (refine LOps.ans (AnsL.callP rfl rfl rfl (ok6) (hbig _)) ?_)))
      | (refine kWL ?_; first | (refine WL.seq ?_) | (refine WL.region (by kernel_rfl) ?_) | (refine WL.skip ?_) | (refine kCond ?_; first | (refine WL.condF rfl ?_)))
      | (refine lthen_n ?_)
    obtain ⟨ts, rs⟩ := x
    obtain ⟨⟨h1, h2⟩, h3, h4⟩ := hq
    try dsimp only at h1 h2 h3 h4 hh ⊢
    have hcw := Cat.mid_wt h1 h2
    have hlen : (srcs rs).length ≤ 4 := by simpa [srcs] using h3
    have hsb : ∀ x ∈ srcs rs, x.table.length ≤ 8 ∧ x.als.length ≤ 8 := by
      intro x hx
      obtain ⟨p, hp, rfl⟩ := List.mem_map.1 hx
      exact h4 p hp
    have hpa : V.plainL [(⟨ts⟩ : Cat).toV, .sl 0 ((srcs rs).map ESrc.v)] = true := plainL_cons (plainL_cons (plain_TableS _) rfl) (plainL_cons (plain_srcs rs) rfl)
    have hI := fun t => implScopeOf_o ⟨ts⟩ (srcs rs) hcw (by omega) t
    have hS := fun t => specScopeOf_o ⟨ts⟩ (srcs rs) hcw (by omega) t
    have hwt := scopeOf_wt h2 (srcs rs) [] [] hsb
    have hno := scopeOf_no ⟨ts⟩ (srcs rs) [] []
    have huq := fun hc => scopeOf_uq ⟨ts⟩ hc (srcs rs) [] []
    generalize scopeOf ⟨ts⟩ (srcs rs) [] [] = r at hI hS hwt hno huq
    obtain ⟨ns, w, e⟩ := r
    dsimp only at hwt
    have hwt2 : slW Named.wt ns ≤ 1000 := by
      have : slW Named.wt ([] : List Named) = 0 := rfl
      omega
    have hnl := len_slW Named.wt ns
    have hps : V.plainL [.agg [.sl 0 (ns.map Named.toV)], .int .i64 w, .str e] = true := plainL_cons (plainL_cons (plain_NamedS ns) rfl) rfl
    replace hI := VCalls.pureOfT hpa hps hI
    replace hS := VCalls.pureOfT hpa hps hS
    generalize (srcs rs).map ESrc.v = lst at hI hS hh ⊢
    have hK := fun t => specCatalogOk_v ⟨ts⟩ hcw t
    by_cases hw : w = 0
    · subst hw
      cases hok : catOk ⟨ts⟩
      · rw [hok] at hK
        repeat' first
          | (refine kAlloc ?_ ; refine LOps.allocH tT_ok hh rfl rfl ?_ ; intro s n hh)
          | (refine kStore ?_ ; first | (refine LOps.storeH tT_ok 0 hh rfl rfl rfl rfl rfl rfl rfl rfl rfl ?_ ; intro s hh))
          | (refine kOps ?_; first | (refine LOps.nil ?_) | (refine kG ?_; first | (refine LOps.gT rfl rfl rfl ?_) | (refine LOps.gF rfl rfl rfl ?_) | (refine LOps.gD false rfl rfl rfl ?_ ?_; (focus (first | (simp <;> fail))))) | (refine LOps.ev tT_ok rfl ?_) | (refine kLoad ?_; first | (refine LOps.ans (AnsL.loadH tT_ok 0 hh rfl rfl rfl rfl) ?_) | (refine LOps.ans (AnsL.loadH tT_ok 1 hh rfl rfl rfl rfl) ?_) | (refine LOps.ans (AnsL.loadH tT_ok 2 hh rfl rfl rfl rfl) ?_)) | (refine kLen ?_; first | (refine LOps.ans (AnsL.lenM tT_ok rfl rfl rfl) ?_)) | (refine kCallN 10 ?_; first | (refine LOps.ans (AnsL.callP rfl rfl rfl (ok10) (hK _)) ?_)) | (refine kCallN 8 ?_; first | (refine LOps.ans (AnsL.callP rfl rfl rfl (ok8) (hI _)) ?_)) | (refine kCallN 9 ?_; first | (refine LOps.ans (AnsL.callP rfl rfl rfl (ok9) (hS _)) ?_)))
          | (refine kWL ?_; first | (refine WL.seq ?_) | (refine WL.region (by kernel_rfl) ?_) | (refine WL.skip ?_) | (refine WL.ret ?_) | (refine kCond ?_; first | (refine WL.condT rfl ?_) | (refine WL.condF' rfl ?_ ?_; (focus (first | (simp <;> fail))))))
          | (refine lthen_n ?_)
          | (refine lthen_r ?_)
          | (refine LPost.r1 (r := .tmp 2) (.inl rfl) (Res1.tmp rfl) ?_)
        rfl
      · rw [hok] at hK
        obtain ⟨hu, hq⟩ := huq hok ns e rfl (by exact List.nodup_nil) (by simp)
        have hF0 := fun i (hi : i < ns.length) t => implFind_v [⟨ns⟩] ns[i].qual ns[i].name (by show 1 + (slW Named.wt ns + 0) ≤ 1048576; omega) t
        have hst := fun t => implStarOf_v ⟨ns⟩ [] (show slW Named.wt ns ≤ 1048576 by omega) t
        have hsl := star_all ns
        repeat' first
          | (refine kAlloc ?_ ; refine LOps.allocH tT_ok hh rfl rfl ?_ ; intro s n hh)
          | (refine kStore ?_ ; first | (refine LOps.storeH tT_ok 0 hh rfl rfl rfl rfl rfl rfl rfl rfl rfl ?_ ; intro s hh))
          | (refine kOps ?_; first | (refine LOps.nil ?_) | (refine kG ?_; first | (refine LOps.gT rfl rfl rfl ?_) | (refine LOps.gD false rfl rfl rfl ?_ ?_; (focus (first | (simp <;> fail))))) | (refine LOps.ev tT_ok rfl ?_) | (refine kLoad ?_; first | (refine LOps.ans (AnsL.loadH tT_ok 0 hh rfl rfl rfl rfl) ?_) | (refine LOps.ans (AnsL.loadH tT_ok 1 hh rfl rfl rfl rfl) ?_) | (refine LOps.ans (AnsL.loadH tT_ok 2 hh rfl rfl rfl rfl) ?_)) | (refine kLen ?_; first | (refine LOps.ans (AnsL.lenM tT_ok rfl rfl rfl) ?_)) | (refine kCallN 10 ?_; first | (refine LOps.ans (AnsL.callP rfl rfl rfl (ok10) (hK _)) ?_)) | (refine kCallN 8 ?_; first | (refine LOps.ans (AnsL.callP rfl rfl rfl (ok8) (hI _)) ?_)) | (refine kCallN 9 ?_; first | (refine LOps.ans (AnsL.callP rfl rfl rfl (ok9) (hS _)) ?_)))
          | (refine kWL ?_; first | (refine WL.seq ?_) | (refine WL.region (by kernel_rfl) ?_) | (refine WL.block ?_) | (refine WL.skip ?_) | (refine kCond ?_; first | (refine WL.condF rfl ?_) | (refine WL.condF' rfl ?_ ?_; (focus (first | (simp <;> fail))))))
          | (refine lthen_n ?_)
        rename_i n5 g1 g2 g3 g4 g5
        obtain ⟨n8, rfl⟩ : ∃ q, q = n := ⟨n, rfl⟩
        refine WL.loopH (fun i : Nat => ns.length - i) (fun i => [(5, .ptr n5 0), (8, .ptr n8 0), (11, .int .i64 (i : Int))]) (fun _ => [.cell n8 [.sl 0 (ns.map Named.toV)], .cell n5 [.sl 0 (ns.map Named.toV)]])
          (fun i => i ≤ ns.length) 0 (Nat.zero_le _) ⟨rfl, rfl, rfl, trivial⟩ hh (by (repeat' first | (exact Sel.nil) | (exact Sel.refl _) | (refine' Sel.p ?_ ?_; rotate_left 1; (focus (((repeat' first | (exact Pick.here) | (refine' Pick.there ?_)); done)))))) (fun i s hi hh => ?_)
        try dsimp only at hi hh ⊢
        rcases Nat.lt_or_ge i ns.length with hlt | hge
        · have hga : (ns.map Named.toV)[i]? = some (Named.toV ns[i]) := by simp [hlt]
          have hF := hF0 i hlt
          rw [find_one hu hlt (hq _ (List.getElem_mem hlt))] at hF
          generalize ns[i] = y at hga hF
          replace hF : ∀ t, VCalls Try.prog 11 [.sl 0 [.agg [.sl 0 (ns.map Named.toV)]], .str y.qual, .str y.name] t (fun v s' => v = .tup [.agg [.int .i64 0, .int .i64 i, .int .i64 y.type], .int .i64 0] ∧ s' = t) := hF
          repeat' first
            | (refine kAlloc ?_ ; refine LOps.allocH tT_ok hh rfl rfl ?_ ; intro s n hh)
            | (refine kStore ?_ ; first | (refine LOps.storeH tT_ok 0 hh rfl rfl rfl rfl rfl rfl rfl rfl rfl ?_ ; intro s hh))
            | (refine kOps ?_; first | (refine LOps.nil ?_) | (refine LOps.ev tT_ok rfl ?_) | (refine kLoad ?_; first | (refine LOps.ans (AnsL.loadH tT_ok 1 hh rfl rfl rfl rfl) ?_)) | (refine kLen ?_; first | (refine LOps.ans (AnsL.lenM tT_ok rfl rfl rfl) ?_)) | (refine kBin ?_; first | (refine LOps.ans (AnsL.add rfl rfl ?_) ?_; (focus (constructor <;> omega)))))
            | (refine kWL ?_; first | (refine WL.seq ?_) | (refine WL.region (by kernel_rfl) ?_) | (refine WL.drawn (id := 13) [0, 1, 2, 3, 4, 5, 6, 7, 8, 9, 10, 11, 12, 13, 14, 15, 16, 17, 18, 19, 20] [18, 19] [[], [0], [], [2], [], [2, 3, 4], [2, 3, 4, 5], [2, 3, 4, 5, 6], [], [8], [], [8, 9, 10], [8, 9, 10, 11], [8, 9, 10, 11, 12], [0, 1, 2, 3, 4, 5, 6, 7, 8, 9, 10, 11, 12, 13], [0, 1, 2, 3, 4, 5, 6, 7, 8, 9, 10, 11, 12, 13, 14], [0, 1, 2, 3, 4, 5, 6, 7, 8, 9, 10, 11, 12, 13, 14, 15], [0, 1, 2, 3, 4, 5, 6, 7, 8, 9, 10, 11, 12, 13, 14, 15], [], [0, 1, 2, 3, 4, 5, 6, 7, 8, 9, 10, 11, 12, 13, 14, 15, 16, 18], [0, 1, 2, 3, 4, 5, 6, 7, 8, 9, 10, 11, 12, 13, 14, 15, 16, 17, 18, 19]] (by kernel_rfl) (by kernel_rfl) ?_) | (refine WL.drawn (id := 14) [0, 1, 2, 3, 4, 5, 6, 7, 8, 9, 10, 11, 12, 13, 14, 15, 16, 17, 18, 19, 20, 21, 22, 23] [] [[], [0], [0, 1], [0, 1, 2], [0, 1, 2, 3], [0, 1, 2, 3, 4], [0, 1, 2, 3, 4, 5], [0, 1, 2, 3, 4, 5, 6], [0, 1, 2, 3, 4, 5, 6, 7], [0, 1, 2, 3, 4, 5, 6, 7, 8], [0, 1, 2, 3, 4, 5, 6, 7], [0, 1, 2, 3, 4, 5, 6, 7, 8, 9, 10], [0, 1, 2, 3, 4, 5, 6, 7, 8, 9, 10, 11], [0, 1, 2, 3, 4, 5, 6, 7, 8, 9, 10, 11, 12], [0, 1, 2, 3, 4, 5, 6, 7, 8, 9, 10, 11, 12, 13], [0, 1, 2, 3, 4, 5, 6, 7, 8, 9, 10, 11, 12, 13, 14], [0, 1, 2, 3, 4, 5, 6, 7, 8, 9, 10, 11, 12, 13], [0, 1, 2, 3, 4, 5, 6, 7, 8, 9, 10, 11, 12, 13, 16], [0, 1, 2, 3, 4, 5, 6, 7, 8, 9, 10, 11, 12, 13], [0, 1, 2, 3, 4, 5, 6, 7, 8, 9, 10, 11, 12, 13, 16, 17, 18], [0, 1, 2, 3, 4, 5, 6, 7, 8, 9, 10, 11, 12, 13, 16, 17, 18, 19], [0, 1, 2, 3, 4, 5, 6, 7, 8, 9, 10, 11, 12, 13, 16, 17, 18, 19, 20], [0, 1, 2, 3, 4, 5, 6, 7, 8, 9, 10, 11, 12, 13, 14, 15, 16, 17, 18, 19, 20, 21], [0, 1, 2, 3, 4, 5, 6, 7, 8, 9, 10, 11, 12, 13, 14, 15, 16, 17, 18, 19, 20, 21, 22]] (by kernel_rfl) (by kernel_rfl) ?_) | (refine WL.block ?_) | (refine WL.skip ?_) | (refine kCond ?_; first | (refine WL.condT' rfl ?_ ?_; (focus (first | (simp only [decide_eq_true_eq, decide_eq_false_iff_not, Bool.not_eq_true', Bool.not_eq_false', Int.ofNat_lt, Int.ofNat_le, Int.ofNat_inj, not_true_eq_false, not_false_eq_true]; omega)))) | (refine WL.condF' rfl ?_ ?_; (focus (first | (simp <;> fail))))))
            | (refine kDr ?_; first | (refine LDr.nil ?_) | (refine LDr.fl rfl rfl (.ev tT_ok rfl) ?_) | (refine LDr.fl rfl rfl (AnsL.bslF tT_ok rfl rfl rfl rfl rfl rfl rfl rfl rfl) ?_) | (refine LDr.gT rfl rfl rfl rfl rfl (.ev tT_ok rfl) ?_) | (refine kDLoad rfl ?_; first | (refine LDr.gT rfl rfl rfl rfl rfl (AnsL.loadH tT_ok 0 hh rfl rfl rfl rfl) ?_) | (refine LDr.fl rfl rfl (AnsL.loadH tT_ok 1 hh rfl rfl rfl rfl) ?_) | (refine LDr.gT rfl rfl rfl rfl rfl (AnsL.loadH tT_ok 1 hh rfl rfl rfl rfl) ?_)) | (refine kDIdx rfl ?_; first | (refine LDr.fl rfl rfl (AnsL.idx tT_ok rfl rfl rfl rfl rfl hga rfl rfl) ?_) | (refine LDr.gT rfl rfl rfl rfl rfl (AnsL.idx tT_ok rfl rfl rfl rfl rfl hga rfl rfl) ?_)) | (refine kDCallN 11 rfl ?_; first | (refine LDr.fl rfl rfl (AnsL.callP rfl rfl rfl (ok11) (hF _)) ?_)) | (refine LDr.gD false rfl rfl rfl rfl ?_ ?_; (focus (first | (simp <;> fail)))) | (refine LDr.eff rfl rfl rfl ?_))
            | (refine lthen_n ?_)
            | (refine lblock_n ?_)
            | (refine And.intro ?_ ?_)
            | (exact StsL.nil)
            | (refine StsL.cons ?_ ?_)
            | (refine StL.fl rfl rfl (.ev tT_ok rfl))
            | (refine StL.fl rfl rfl (AnsL.bslF tT_ok rfl rfl rfl rfl rfl rfl rfl rfl rfl))
            | (refine StL.fl rfl rfl (AnsL.loadH tT_ok 2 hh rfl rfl rfl rfl))
            | (refine StL.fl rfl rfl (AnsL.idx tT_ok rfl rfl rfl rfl rfl hga rfl rfl))
            | (refine StL.fl rfl rfl (AnsL.callP rfl rfl rfl (ok11) (hF _)))
          refine lbackH.of (i + 1) ?_ hh ?_ hlt (by omega)
          · exact ⟨rfl, rfl, rfl, trivial⟩
          · (repeat' first | (exact Sel.nil) | (exact Sel.refl _) | (refine' Sel.p ?_ ?_; rotate_left 1; (focus (((repeat' first | (exact Pick.here) | (refine' Pick.there ?_)); done)))))
        · skip
          repeat' first
            | (refine kOps ?_; first | (refine LOps.nil ?_) | (refine LOps.ev tT_ok rfl ?_) | (refine kLoad ?_; first | (refine LOps.ans (AnsL.loadH tT_ok 1 hh rfl rfl rfl rfl) ?_)) | (refine kLen ?_; first | (refine LOps.ans (AnsL.lenM tT_ok rfl rfl rfl) ?_)))
            | (refine kWL ?_; first | (refine WL.seq ?_) | (refine WL.region (by kernel_rfl) ?_) | (refine WL.drawn (id := 16) [0, 1, 2, 3, 4, 5, 6, 7] [] [[], [0], [0, 1], [], [3], [3, 4], [0, 1, 2, 3, 4, 5], [0, 1, 2, 3, 4, 5, 6]] (by kernel_rfl) (by kernel_rfl) ?_) | (refine WL.exit ?_) | (refine WL.ret ?_) | (refine kCond ?_; first | (refine WL.condF' rfl ?_ ?_; (focus (first | (simp only [decide_eq_true_eq, decide_eq_false_iff_not, Bool.not_eq_true', Bool.not_eq_false', Int.ofNat_lt, Int.ofNat_le, Int.ofNat_inj, not_true_eq_false, not_false_eq_true]; omega))))))
            | (refine kDr ?_; first | (refine LDr.nil ?_) | (refine LDr.fl rfl rfl (.ev tT_ok rfl) ?_) | (refine kDLoad rfl ?_; first | (refine LDr.fl rfl rfl (AnsL.loadH tT_ok 1 hh rfl rfl rfl rfl) ?_)) | (refine kDLen rfl ?_; first | (refine LDr.fl rfl rfl (AnsL.lenM tT_ok rfl rfl rfl) ?_)) | (refine kDCallN 12 rfl ?_; first | (refine LDr.fl rfl rfl (AnsL.callP rfl rfl rfl (ok12) (hst _)) ?_)))
            | (refine lthen_n ?_)
            | (refine lthen_e ?_)
            | (refine lblock_e ?_)
            | (refine lbackH_e ?_)
            | (refine LPost.r1 (r := .tmp 2) (.inl rfl) (Res1.tmp rfl) ?_)
          simp [hsl]
    · have h0 : ns = [] := hno ns w e rfl hw
      subst h0
      repeat' first
        | (refine kAlloc ?_ ; refine LOps.allocH tT_ok hh rfl rfl ?_ ; intro s n hh)
        | (refine kStore ?_ ; first | (refine LOps.storeH tT_ok 0 hh rfl rfl rfl rfl rfl rfl rfl rfl rfl ?_ ; intro s hh))
        | (refine kOps ?_; first | (refine LOps.nil ?_) | (refine kG ?_; first | (refine LOps.gT rfl rfl rfl ?_) | (refine LOps.gF rfl rfl rfl ?_) | (refine LOps.gD true rfl rfl rfl ?_ ?_; (focus (first | (simp only [decide_eq_true_eq, decide_eq_false_iff_not, Bool.not_eq_true', Bool.not_eq_false', Int.ofNat_lt, Int.ofNat_le, Int.ofNat_inj, not_true_eq_false, not_false_eq_true]; omega)))) | (refine LOps.gD false rfl rfl rfl ?_ ?_; (focus (first | (exact decide_eq_false (by assumption)) | (simp <;> fail))))) | (refine LOps.ev tT_ok rfl ?_) | (refine kLoad ?_; first | (refine LOps.ans (AnsL.loadH tT_ok 0 hh rfl rfl rfl rfl) ?_) | (refine LOps.ans (AnsL.loadH tT_ok 1 hh rfl rfl rfl rfl) ?_)) | (refine kLen ?_; first | (refine LOps.ans (AnsL.lenM tT_ok rfl rfl rfl) ?_)) | (refine kCallN 8 ?_; first | (refine LOps.ans (AnsL.callP rfl rfl rfl (ok8) (hI _)) ?_)) | (refine kCallN 9 ?_; first | (refine LOps.ans (AnsL.callP rfl rfl rfl (ok9) (hS _)) ?_)))
        | (refine kWL ?_; first | (refine WL.seq ?_) | (refine WL.region (by kernel_rfl) ?_) | (refine WL.skip ?_) | (refine WL.ret ?_) | (refine kCond ?_; first | (refine WL.condT rfl ?_) | (refine WL.condF rfl ?_)))
        | (refine lthen_n ?_)
        | (refine lthen_r ?_)
        | (refine LPost.r1 (r := .tmp 2) (.inl rfl) (Res1.tmp rfl) ?_)
      all_goals rfl
  · skip
    repeat' first
      | (refine kOps ?_; first | (refine LOps.nil ?_) | (refine LOps.ev tT_ok rfl ?_) | (refine kCallN 6 ?_; first | (refine LOps.ans (AnsL.callP rfl rfl rfl (ok6) (hbig _)) ?_)))
      | (refine kWL ?_; first | (refine WL.seq ?_) | (refine WL.region (by kernel_rfl) ?_) | (refine WL.ret ?_) | (refine kCond ?_; first | (refine WL.condT rfl ?_)))
      | (refine lthen_n ?_)
      | (refine lthen_r ?_)
      | (refine LPost.r1 (r := .tmp 2) (.inl rfl) (Res1.tmp rfl) ?_)
    rfl

end Go.Proofs.Ytoagpmhdgllchaa
