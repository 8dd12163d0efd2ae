/-
  A list without one pair of parentheses: the program's WithoutPair, walked. Own work; no condition.
-/
import Derived.Test.YtoededaekidbcaaDDelW
import Derived.Test.YtoededaekidbcaaDPairL
namespace Go.Proofs.Ytoededaekidbcaa
open Go
set_option linter.unusedSimpArgs false
set_option linter.unusedVariables false

theorem plain_pairs (ps : List (Int × Int)) : (V.sl 0 (ps.map pairV)).plain = true := by
  have e : ps.map pairV = (ps.map fun p => [p.1, p.2]).map ints := by rw [List.map_map]; rfl
  rw [e]
  exact plain_IntSS _
theorem cloneTok0_v (s : S) : VCalls Try.prog 36 [.sl 0 []] s (fun v t => v = .sl 0 [] ∧ t = s) := by
  refine VCalls.pureOf rfl rfl (fun s => ?_) s
  refine LCalls.body Try.func36 rfl (by kernel_rfl) ?_
  repeat' first
    | (refine WL.regionNil tT_ok rfl rfl rfl rfl (fun b hb => ?_) ; cases b)
    | (refine kOps ?_; first | (refine LOps.nil ?_) | (refine LOps.ev tT_ok rfl ?_) | (refine kBsl ?_; first | (refine LOps.bsl0 tT_ok rfl rfl rfl rfl rfl ?_)) | (refine kApp ?_; first | (refine LOps.app0 tT_ok rfl rfl rfl rfl rfl rfl rfl rfl rfl rfl rfl ?_ (AppB.of ?_ rfl) ?_; (focus (first | exact Elems.of rfl | exact Elems.map fun _ => rfl | exact PE.els _ (fun _ => rfl) _)); (focus (first | omega | (simp <;> fail))))))
    | (refine kWL ?_; first | (refine WL.seq ?_) | (refine WL.region (by kernel_rfl) ?_) | (refine WL.skip ?_) | (refine WL.ret ?_) | (refine kCond ?_; first | (refine WL.condT rfl ?_) | (refine WL.condF rfl ?_)))
    | (refine lthen_n ?_)
    | (refine lthen_r ?_)
    | (refine LPost.r1 (r := .tmp 2) (.inl rfl) (Res1.tmp rfl) ?_)
  · exact Own2.fam (f := Token.toV) (cs := []) (szf := 3) 3 (by simp [nthO]) (fun _ => rfl) (fun _ => rfl)
  · exact ⟨[], .nilsl, List.nodup_nil⟩

set_option maxHeartbeats 4000000 in
theorem implWithoutPair_o (l : List Token) (hl : l.length ≤ 1048576) (k : Int) (s : S) : VCalls Try.prog 16 [.sl 0 (l.map Token.toV), .int .i64 k] s (fun v t => Own2 (.sl 0 ((wP l k).map Token.toV)) v t) := by
  have hP := fun t => VCalls.pureOf (ds := [.sl 0 (l.map Token.toV)]) (by simpa [V.plainL] using plain_TokenS l) (plain_pairs (pairs l)) (fun t => implPairsOf_o l hl t) t
  have hpl := pairs_len l
  by_cases hne : l = []
  · subst hne
    have hC := fun t => cloneTok0_v t
    have hw : wP [] k = [] := wP_out (by show ¬ (0 ≤ k ∧ k < 0); omega)
    rw [hw]
    change ∀ t, VCalls _ _ [.sl 0 []] t (fun v s' => v = .sl 0 [] ∧ s' = t) at hP
    by_cases hk : k < 0
    · skip
      refine LCalls.body Try.func16 rfl (by kernel_rfl) ?_
      repeat' first
        | (refine kOps ?_; first | (refine LOps.nil ?_) | (refine kG ?_; first | (refine LOps.gF rfl rfl rfl ?_) | (refine LOps.gD true rfl rfl rfl ?_ ?_; (focus (first | (exact decide_eq_true (by assumption)))))) | (refine LOps.ev tT_ok rfl ?_) | (refine kCallN 36 ?_; first | (refine LOps.ans (AnsL.callP rfl rfl rfl (ok36) (hC _)) ?_)) | (refine kCallN 9 ?_; first | (refine LOps.ans (AnsL.callP rfl rfl rfl (ok9) (hP _)) ?_)))
        | (refine kWL ?_; first | (refine WL.seq ?_) | (refine WL.region (by kernel_rfl) ?_) | (refine WL.ret ?_) | (refine kCond ?_; first | (refine WL.condT rfl ?_)))
        | (refine lthen_n ?_)
        | (refine lthen_r ?_)
        | (refine LPost.r1 (r := .tmp 4) (.inl rfl) (Res1.tmp rfl) ?_)
      exact ⟨[], .emp, List.nodup_nil⟩
    · have hk2 : k ≥ 0 := by omega
      refine LCalls.body Try.func16 rfl (by kernel_rfl) ?_
      repeat' first
        | (refine kOps ?_; first | (refine LOps.nil ?_) | (refine kG ?_; first | (refine LOps.gT rfl rfl rfl ?_) | (refine LOps.gD false rfl rfl rfl ?_ ?_; (focus (first | (exact decide_eq_false (by assumption)))))) | (refine LOps.ev tT_ok rfl ?_) | (refine kLen ?_; first | (refine LOps.ans (AnsL.lenS tT_ok rfl rfl rfl rfl) ?_)) | (refine kCallN 36 ?_; first | (refine LOps.ans (AnsL.callP rfl rfl rfl (ok36) (hC _)) ?_)) | (refine kCallN 9 ?_; first | (refine LOps.ans (AnsL.callP rfl rfl rfl (ok9) (hP _)) ?_)))
        | (refine kWL ?_; first | (refine WL.seq ?_) | (refine WL.region (by kernel_rfl) ?_) | (refine WL.ret ?_) | (refine kCond ?_; first | (refine WL.condT' rfl ?_ ?_; (focus (first | (exact decide_eq_true (by assumption)))))))
        | (refine lthen_n ?_)
        | (refine lthen_r ?_)
        | (refine LPost.r1 (r := .tmp 4) (.inl rfl) (Res1.tmp rfl) ?_)
      exact ⟨[], .emp, List.nodup_nil⟩
  refine VCalls.trimT ?_
  have hh : Hold s s.next [] := .start _ _
  by_cases hk : 0 ≤ k ∧ k < ((pairs l).length : Int)
  · obtain ⟨q, rfl⟩ : ∃ q : Nat, k = (q : Int) := ⟨k.toNat, by omega⟩
    have hq : q < (pairs l).length := by omega
    obtain ⟨a, b, e, hab, hbl⟩ := pairs_bnd hq
    have hg : ((pairs l).map pairV)[q]? = some (.sl 0 [.int .i64 (a : Int), .int .i64 (b : Int)]) := by simp [hq, e, pairV]
    rw [wP_in hq e, ← cutP_erase hab hbl]
    have hk0 : ¬ (q : Int) < 0 := by omega
    have hk1 : ¬ (q : Int) ≥ ((pairs l).length : Int) := by omega
    have hlb : l.length < 4611686018427387904 := by omega
    have hea : a < (l.eraseIdx b).length := by rw [List.length_eraseIdx_of_lt hbl]; omega
    have hel : (l.eraseIdx b).length = l.length - 1 := List.length_eraseIdx_of_lt hbl
    have hel2 : ((l.eraseIdx b).eraseIdx a).length = l.length - 1 - 1 := by rw [List.length_eraseIdx_of_lt hea, hel]
    have hlb2 : l.length - 1 < 4611686018427387904 := by omega
    refine LCalls.body Try.func16 rfl (by kernel_rfl) ?_
    repeat' first
      | (refine kCallN 36 ?_ ; refine LOps.call rfl rfl (appO_nil _) ok36 (cloneTok_c l hne hl hh) (fun v t hv => ?_) ; obtain ⟨s, c, lv, rest, rfl, rfl, hc, hr, hh⟩ := hv)
      | (refine kCallN 37 ?_ ; refine LOps.call rfl rfl (appO_nil _) ok37 (delete_c l hbl rfl hlb hc hr hh) (fun v t hv => ?_) ; obtain ⟨s, rest2, rfl, rfl, hr2, hh⟩ := hv)
      | (refine kCallN 37 ?_ ; refine LOps.call rfl rfl (appO_nil _) ok37 (delete_c (l.eraseIdx b) hea hel hlb2 (by omega) hr2 hh) (fun v t hv => ?_) ; obtain ⟨s, rest3, rfl, rfl, hr3, hh⟩ := hv)
      | (refine kOps ?_; first | (refine LOps.nil ?_) | (refine kG ?_; first | (refine LOps.gT rfl rfl rfl ?_)) | (refine LOps.ev tT_ok rfl ?_) | (refine kLen ?_; first | (refine LOps.ans (AnsL.lenM tT_ok rfl rfl rfl) ?_)) | (refine kCallN 9 ?_; first | (refine LOps.ans (AnsL.callP rfl rfl rfl (ok9) (hP _)) ?_)))
      | (refine kWL ?_; first | (refine WL.seq ?_) | (refine WL.region (by kernel_rfl) ?_) | (refine WL.drawn (id := 5) [0, 1, 2, 3, 4, 5, 6, 7, 8, 9, 10, 11, 12, 13, 14, 15] [14, 15] [[], [], [], [1, 2], [1, 2, 3], [1, 2, 3, 4], [1, 2, 3, 4, 5], [], [], [7, 8], [7, 8, 9], [7, 8, 9, 10], [7, 8, 9, 10, 11], [7, 8, 9, 10, 11, 12], [0, 1, 2, 3, 4, 5, 6, 7, 8, 9, 10, 11, 12, 13], [0, 1, 2, 3, 4, 5, 6, 7, 8, 9, 10, 11, 12, 13, 14]] (by kernel_rfl) (by kernel_rfl) ?_) | (refine WL.drawn (id := 6) [0, 1, 2, 3, 4, 5, 6, 7, 8, 9, 10, 11, 12, 13, 14, 15] [14] [[], [], [], [1, 2], [1, 2, 3], [1, 2, 3, 4], [1, 2, 3, 4, 5], [], [], [7, 8], [7, 8, 9], [7, 8, 9, 10], [7, 8, 9, 10, 11], [7, 8, 9, 10, 11, 12], [0, 1, 2, 3, 4, 5, 6, 7, 8, 9, 10, 11, 12, 13], [0, 1, 2, 3, 4, 5, 6, 7, 8, 9, 10, 11, 12, 13, 14]] (by kernel_rfl) (by kernel_rfl) ?_) | (refine WL.skip ?_) | (refine WL.ret ?_) | (refine kCond ?_; first | (refine WL.condF' rfl ?_ ?_; (focus (first | (exact decide_eq_false (by assumption)))))))
      | (refine kDr ?_; first | (refine LDr.nil ?_) | (refine LDr.fl rfl rfl (.ev tT_ok rfl) ?_) | (refine kDBin rfl ?_; first | (refine LDr.fl rfl rfl (AnsL.add rfl rfl ?_) ?_; (focus (constructor <;> omega)))) | (refine kDIdx rfl ?_; first | (refine LDr.fl rfl rfl (AnsL.idx tT_ok rfl rfl rfl rfl rfl hg rfl rfl) ?_) | (refine LDr.fl rfl rfl (AnsL.idxZ tT_ok rfl rfl rfl rfl rfl ?_ rfl rfl rfl) ?_; (focus (decide)))) | (refine LDr.eff rfl rfl rfl ?_))
      | (refine lthen_n ?_)
      | (refine LPost.r1 (r := .tmp 4) (.inl rfl) (Res1.tmp rfl) ?_)
      | (refine And.intro ?_ ?_)
      | (exact StsL.nil)
    exact ⟨s, c, lv, rest3, _, rfl, by rw [hel2], hh⟩
  · rw [wP_out hk]
    by_cases hk0 : k < 0
    · skip
      refine LCalls.body Try.func16 rfl (by kernel_rfl) ?_
      repeat' first
        | (refine kCallN 36 ?_ ; refine LOps.call rfl rfl (appO_nil _) ok36 (cloneTok_c l hne hl hh) (fun v t hv => ?_) ; obtain ⟨s, c, lv, rest, rfl, rfl, hc, hr, hh⟩ := hv)
        | (refine kOps ?_; first | (refine LOps.nil ?_) | (refine kG ?_; first | (refine LOps.gF rfl rfl rfl ?_) | (refine LOps.gD true rfl rfl rfl ?_ ?_; (focus (first | (exact decide_eq_true (by assumption)))))) | (refine LOps.ev tT_ok rfl ?_) | (refine kCallN 9 ?_; first | (refine LOps.ans (AnsL.callP rfl rfl rfl (ok9) (hP _)) ?_)))
        | (refine kWL ?_; first | (refine WL.seq ?_) | (refine WL.region (by kernel_rfl) ?_) | (refine WL.ret ?_) | (refine kCond ?_; first | (refine WL.condT rfl ?_)))
        | (refine lthen_n ?_)
        | (refine lthen_r ?_)
        | (refine LPost.r1 (r := .tmp 4) (.inl rfl) (Res1.tmp rfl) ?_)
      exact ⟨s, c, lv, rest, _, rfl, rfl, hh⟩
    · have hk1 : k ≥ ((pairs l).length : Int) := by omega
      refine LCalls.body Try.func16 rfl (by kernel_rfl) ?_
      repeat' first
        | (refine kCallN 36 ?_ ; refine LOps.call rfl rfl (appO_nil _) ok36 (cloneTok_c l hne hl hh) (fun v t hv => ?_) ; obtain ⟨s, c, lv, rest, rfl, rfl, hc, hr, hh⟩ := hv)
        | (refine kOps ?_; first | (refine LOps.nil ?_) | (refine kG ?_; first | (refine LOps.gT rfl rfl rfl ?_) | (refine LOps.gD false rfl rfl rfl ?_ ?_; (focus (first | (exact decide_eq_false (by assumption)))))) | (refine LOps.ev tT_ok rfl ?_) | (refine kLen ?_; first | (refine LOps.ans (AnsL.lenM tT_ok rfl rfl rfl) ?_)) | (refine kCallN 9 ?_; first | (refine LOps.ans (AnsL.callP rfl rfl rfl (ok9) (hP _)) ?_)))
        | (refine kWL ?_; first | (refine WL.seq ?_) | (refine WL.region (by kernel_rfl) ?_) | (refine WL.ret ?_) | (refine kCond ?_; first | (refine WL.condT' rfl ?_ ?_; (focus (first | (exact decide_eq_true (by assumption)))))))
        | (refine lthen_n ?_)
        | (refine lthen_r ?_)
        | (refine LPost.r1 (r := .tmp 4) (.inl rfl) (Res1.tmp rfl) ?_)
      exact ⟨s, c, lv, rest, _, rfl, rfl, hh⟩

end Go.Proofs.Ytoededaekidbcaa
