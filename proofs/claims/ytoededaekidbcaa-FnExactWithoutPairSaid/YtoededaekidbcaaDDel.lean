/-
  The library's deletion of one element from a slice of one's own, at tokens. Own work; no condition.
-/
import Derived.Test.YtoededaekidbcaaVDel2
import Derived.Test.YtoededaekidbcaaVTT
import Derived.Test.YtoededaekidbcaaDFam
namespace Go.Proofs.Ytoededaekidbcaa
open Go
set_option linter.unusedSimpArgs false
set_option linter.unusedVariables false

theorem tok_sz (l : List Token) : ∀ u ∈ l.map Token.toV, u.cells.length = 3 := fun u hu => by obtain ⟨p, _, rfl⟩ := List.mem_map.1 hu; rfl
theorem tok_one (l : List Token) : (V.flat (l.map Token.toV)).all V.one = true := by
  induction l with
  | nil => rfl
  | cons t l ih => rw [List.map_cons, flat_cons, List.all_append, ih, Bool.and_true]; rfl

set_option maxHeartbeats 4000000 in
theorem delete_c (l : List Token) {i : Nat} (hi : i < l.length) {c lv n : Nat} {s : S} {H : List BE} {rest : List V} (hn : l.length = n) (hb : n < 4611686018427387904) (hnc : n ≤ c) (hrl : rest.length = (c - n) * 3) (hh : Hold s s.next (.cell lv (V.flat (l.map Token.toV) ++ rest) :: H)) :
    VCalls Try.prog 37 [.slm (.is c) lv 0 n, .int .i64 (i : Int), .int .i64 ((i : Int) + 1)] (s.ext []) (fun v t => ∃ (s' : S) (rest' : List V), t = s'.ext [] ∧ v = .slm (.is c) lv 0 (n - 1) ∧ rest'.length = (c - (n - 1)) * 3 ∧ Hold s' s'.next (.cell lv (V.flat ((l.eraseIdx i).map Token.toV) ++ rest') :: H)) := by
  have hus := tok_sz l
  have hone := tok_one l
  have hun : (l.map Token.toV).length = n := by rw [List.length_map, hn]
  have hj : ((i : Int) + 1) = ((i + 1 : Nat) : Int) := by omega
  have hne : ¬ (i : Int) = (i : Int) + 1 := by omega
  have hin : i + 1 ≤ n := by omega
  have hi1 : i ≤ n := by omega
  have hi2 : i ≤ i + 1 := by omega
  have hc0 : 0 < c := by omega
  have hn0 : 0 < n := by omega
  have hjm : (i + 1) + (n - (i + 1)) = n := by omega
  have hhj : i + (n - (i + 1)) ≤ n := by omega
  have hoo : 0 < n - (i + 1) → (if c = i + 1 then 0 else (i + 1) * 3) = (i + 1) * 3 := fun h => by rw [if_neg (by omega)]
  have hk1 : i + (n - (i + 1)) ≤ n := by omega
  have hm1 : 0 < n - (i + (n - (i + 1))) := by omega
  have htd : (l.map Token.toV).take i ++ (l.map Token.toV).drop (i + 1) = (l.eraseIdx i).map Token.toV := by rw [List.eraseIdx_eq_take_drop_succ, List.map_append, List.map_take, List.map_drop]
  have hkk : i + (n - (i + 1)) = n - 1 := by omega
  have hcn : n - (i + (n - (i + 1))) ≤ c - (i + (n - (i + 1))) := by omega
  have hpl : (V.flat ((l.map Token.toV).take i ++ (l.map Token.toV).drop (i + 1))).length = (if c = i + (n - (i + 1)) then 0 else (i + (n - (i + 1))) * 3) := by
    rw [htd, flat_uniform (tok_sz _), List.length_map, List.length_eraseIdx_of_lt hi, hn, hkk, if_neg (by omega)]
  replace hh := hh.ext0
  generalize s.ext [] = s at hh ⊢
  refine LCalls.body Try.func37 rfl (by kernel_rfl) ?_
  repeat' first
    | (refine kApp ?_ ; refine LOps.appI (us := l.map Token.toV) (j := i + 1) (n := n) tT_ok 0 rfl rfl rfl rfl rfl rfl rfl rfl hh hun hus hone hrl hnc hc0 hoo hjm hhj ?_ ; intro s rest hr hh)
    | (refine LOps.clr tT_ok 0 rfl rfl rfl rfl rfl rfl rfl hh hpl (by rw [hr] ; exact Nat.mul_le_mul_right _ hcn) hm1 ?_ ; intro s rest' hr2 hh)
    | (refine kOps ?_; first | (refine LOps.nil ?_) | (refine LOps.ev tT_ok rfl ?_) | (refine kSlc ?_; first | (refine LOps.ans (AnsL.slc3 (x1 := i) (x2 := i + 1) (x3 := n) tT_ok rfl rfl rfl rfl rfl rfl rfl rfl hj rfl hi2 hin hnc hc0) ?_) | (refine LOps.ans (AnsL.slcLH (x1 := i + (n - (i + 1))) (x2 := n) tT_ok rfl rfl rfl rfl rfl rfl rfl rfl hk1 hnc hc0) ?_)))
    | (refine kWL ?_; first | (refine WL.seq ?_) | (refine WL.region (by kernel_rfl) ?_) | (refine WL.drawn (id := 5) [0, 1, 2, 3, 4, 5, 6, 7] [6, 7] [[], [], [0, 1], [], [], [3, 4], [0, 1, 2, 3, 4, 5], [0, 1, 2, 3, 4, 5, 6]] (by kernel_rfl) (by kernel_rfl) ?_) | (refine WL.skip ?_) | (refine WL.ret ?_) | (refine kCond ?_; first | (refine WL.condF' rfl ?_ ?_; (focus (first | (exact decide_eq_false (by assumption)))))))
    | (refine kDr ?_; first | (refine LDr.nil ?_) | (refine LDr.fl rfl rfl (.ev tT_ok rfl) ?_) | (refine kDSlc rfl ?_; first | (refine LDr.fl rfl rfl (AnsL.slcK (k := i) tT_ok rfl rfl rfl rfl rfl rfl hi1 hn0) ?_) | (refine LDr.fl rfl rfl (AnsL.slcL2 (x1 := i + 1) tT_ok rfl rfl rfl rfl rfl hj hin hnc hc0) ?_)) | (refine LDr.eff rfl rfl rfl ?_))
    | (refine lthen_n ?_)
    | (refine LPost.r1 (r := .tmp 6) (.inl rfl) (Res1.tmp rfl) ?_)
    | (refine And.intro ?_ ?_)
    | (exact StsL.nil)
  rw [htd] at hh
  refine ⟨s, rest', rfl, ?_, ?_, hh⟩
  · rw [hkk]
  · rw [hr2, hr, hkk]

end Go.Proofs.Ytoededaekidbcaa
