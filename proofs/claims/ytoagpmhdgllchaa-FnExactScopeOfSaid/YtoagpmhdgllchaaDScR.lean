/-
  The contract of the program's ScopeOf. Own work; no condition.
-/
import Derived.Test.YtoagpmhdgllchaaDScQ
namespace Go.Proofs.Ytoagpmhdgllchaa
open Go
set_option linter.unusedSimpArgs false
set_option linter.unusedVariables false

theorem implScopeOf_o (c : Cat) (l : List ESrc) (h : c.wt ≤ 1048576) (hl : l.length ≤ 1048576) (s : S) : VCalls Try.prog 8 [c.toV, .sl 0 (l.map ESrc.v)] s (fun v t => Own2 (scopeV (scopeOf c l [] [])) v t) := by
  have hT := len_slW Tab.wt c.tables
  have hcw := h
  simp only [Cat.wt] at hcw
  have hh : Hold s s.next [] := .start _ _
  refine LCalls.body Try.func8 rfl (by kernel_rfl) ?_
  repeat' first
    | (refine kBox ?_ ; first | (refine LOps.boxH hh rfl rfl ?_ ; intro s n hh))
    | (refine kAlloc ?_ ; refine LOps.allocH tT_ok hh rfl rfl ?_ ; intro s n hh)
    | (refine kStore ?_ ; first | (refine LOps.storeH tT_ok 0 hh rfl rfl rfl rfl rfl rfl rfl rfl rfl ?_ ; intro s hh))
    | (refine kOps ?_; first | (refine LOps.nil ?_) | (refine LOps.ev tT_ok rfl ?_) | (refine kLen ?_; first | (refine LOps.ans (AnsL.lenM tT_ok rfl rfl rfl) ?_)))
    | (refine kWL ?_; first | (refine WL.seq ?_) | (refine WL.region (by kernel_rfl) ?_) | (refine WL.block ?_))
    | (refine lthen_n ?_)
  rename_i n2 h2 s2 n4 h4 s3 h3
  obtain ⟨n7, rfl⟩ : ∃ q, q = n := ⟨n, rfl⟩
  refine WL.zfamC 0 0 3 rfl rfl rfl hh (fun s id7 hh => ?_)
  replace hh := hh _ rfl _ rfl
  refine WL.loopH (fun i : Nat => l.length - i) (fun i => [(1, .sl 0 (l.map ESrc.v)), (2, .ptr n2 0), (4, .ptr n4 0), (7, .ptr n7 0), (17, .sl 0 (l.map ESrc.v)), (18, .int .i64 (l.length : Int)), (19, .int .i64 (i : Int))])
    (fun i => [.acc id7 3 ((brings c (l.take i)).map Named.toV) ((brings c (l.take i)).map Named.toV), .cell n7 [.sl id7 ((brings c (l.take i)).map Named.toV)], .cell n4 [.nilsl], .cell n2 [.sl 0 (c.tables.map Tab.toV)]])
    (fun i => i ≤ l.length ∧ scopeOf c l [] [] = scopeAt c l i) 0 ⟨by simp, (scopeAt_0 c l).symm⟩ ⟨rfl, rfl, rfl, rfl, rfl, rfl, rfl, trivial⟩ hh (Sel.refl _) (fun i s hI hh => ?_)
  obtain ⟨hi, hc⟩ := hI
  try dsimp only at hi hc hh ⊢
  rw [hc]
  have hN := brings_len c h (l.take i)
  rw [List.length_take, Nat.min_eq_left hi] at hN
  rcases Nat.lt_or_ge i l.length with hlt | hge
  · rw [scopeAt_lt c hlt]
    have hga : (l.map ESrc.v)[i]? = some (ESrc.v l[i]) := by simp [hlt]
    have hT := fun t => implTableAt_v c l[i].table h t
    have hA := fun t => implAliasOf_v l[i] t
    by_cases h1 : c.at l[i].table < 0
    · rw [if_pos h1]
      generalize l[i] = x at hga hT hA h1
      generalize c.at x.table = k at hT h1
      repeat' first
        | (refine kAlloc ?_ ; refine LOps.allocH tT_ok hh rfl rfl ?_ ; intro s n hh)
        | (refine kStore ?_ ; first | (refine LOps.storeH tT_ok 0 hh rfl rfl rfl rfl rfl rfl rfl rfl rfl ?_ ; intro s hh) | (refine LOps.storeH tT_ok 3 hh rfl rfl rfl rfl rfl rfl rfl rfl rfl ?_ ; intro s hh))
        | (refine kOps ?_; first | (refine LOps.nil ?_) | (refine LOps.ev tT_ok rfl ?_) | (refine kLoad ?_; first | (refine LOps.ans (AnsL.loadH tT_ok 0 hh rfl rfl rfl rfl) ?_) | (refine LOps.ans (AnsL.loadH tT_ok 4 hh rfl rfl rfl rfl) ?_)) | (refine kIdx ?_; first | (refine LOps.ans (AnsL.idx tT_ok rfl rfl rfl rfl rfl hga rfl rfl) ?_)) | (refine kCallN 32 ?_; first | (refine LOps.ans (AnsL.callP rfl rfl rfl (ok32) (hT _)) ?_)))
        | (refine kWL ?_; first | (refine WL.seq ?_) | (refine WL.region (by kernel_rfl) ?_) | (refine WL.drawn (id := 7) [0, 1, 2, 3, 4, 5] [3] [[], [], [1], [0], [0, 3], [0, 1, 2, 3, 4]] (by kernel_rfl) (by kernel_rfl) ?_) | (refine WL.block ?_) | (refine WL.skip ?_) | (refine WL.ret ?_) | (refine kCond ?_; first | (refine WL.condT' rfl ?_ ?_; (focus (first | (exact decide_eq_true (by assumption)) | (simp only [decide_eq_true_eq, decide_eq_false_iff_not, Bool.not_eq_true', Bool.not_eq_false', Int.ofNat_lt, Int.ofNat_le, Int.ofNat_inj, not_true_eq_false, not_false_eq_true]; omega))))))
        | (refine kDr ?_; first | (refine LDr.nil ?_) | (refine LDr.fl rfl rfl (.ev tT_ok rfl) ?_) | (refine kDLoad rfl ?_; first | (refine LDr.fl rfl rfl (AnsL.loadH tT_ok 0 hh rfl rfl rfl rfl) ?_)) | (refine LDr.eff rfl rfl rfl ?_))
        | (refine lthen_n ?_)
        | (refine lthen_r ?_)
        | (refine lblock_r ?_)
        | (refine lbackH_r ?_)
        | (refine' LPost.r3 (r := .cell 4 32) (r' := .tmp 5) (r'' := .tmp 6) (.inl rfl) ?_ (Res1.tmp rfl) (Res1.tmp rfl) ?_; rotate_left 1; (focus (first | (exact Res1.cellH 3 tT_ok hh rfl rfl rfl rfl))))
        | (refine And.intro ?_ ?_)
        | (exact StsL.nil)
        | (refine StsL.cons ?_ ?_)
        | (refine StL.fl rfl rfl (.ev tT_ok rfl))
        | (refine StL.fl rfl rfl (AnsL.loadH tT_ok 0 hh rfl rfl rfl rfl))
      exact Own2.ofT hh (by ((repeat' first | (exact ConsL.nil) | (exact ConsL.pls rfl rfl) | (exact Cons.pl rfl rfl) | (exact Cons.zsl) | (exact Cons.nilsl) | (refine' Cons.bp ?_; ((repeat' first | (exact Pick.here) | (refine' Pick.there ?_)); done)) | (refine' Cons.ap ?_; ((repeat' first | (exact Pick.here) | (refine' Pick.there ?_)); done)) | (exact Cons.blk 0 rfl rfl rfl) | (exact Cons.blk 1 rfl rfl rfl) | (exact Cons.blk 2 rfl rfl rfl) | (exact Cons.blk 3 rfl rfl rfl) | (exact Cons.pl (by assumption) (by assumption)) | (exact ConsL.pls (by assumption) (by assumption)) | (refine' ConsL.cons ?_ ?_) | (refine' Cons.agg ?_)); done))
    · rw [if_neg h1]
      obtain ⟨k, hk, hkl⟩ := Cat.at_lt c l[i].table (by omega)
      have hbt := brings_take c hlt
      rw [bring_at c l[i] k hk hkl] at hbt
      have hgb : (c.tables.map Tab.toV)[k]? = some c.tables[k].toV := by simp [hkl]
      have hcl : c.tables[k].cols.length ≤ 1048576 := by
        have a1 := mem_slW (f := Tab.wt) hkl
        have a2 := len_slW Col.wt c.tables[k].cols
        simp only [Tab.wt] at a1
        omega
      rw [hk] at hT
      generalize l[i] = x at hga hT hA hbt ⊢
      generalize hal : srcAlias x = al at hA hbt ⊢
      have hsl : i ≤ (l.map ESrc.v).length := by rw [List.length_map]; omega
      repeat' first
        | (refine kAlloc ?_ ; refine LOps.allocH tT_ok hh rfl rfl ?_ ; intro s n hh)
        | (refine kStore ?_ ; first | (refine LOps.storeH tT_ok 0 hh rfl rfl rfl rfl rfl rfl rfl rfl rfl ?_ ; intro s hh))
        | (refine kOps ?_; first | (refine LOps.nil ?_) | (refine LOps.ev tT_ok rfl ?_) | (refine kLoad ?_; first | (refine LOps.ans (AnsL.loadH tT_ok 0 hh rfl rfl rfl rfl) ?_) | (refine LOps.ans (AnsL.loadH tT_ok 4 hh rfl rfl rfl rfl) ?_)) | (refine kLen ?_; first | (refine LOps.ans (AnsL.lenG tT_ok rfl rfl rfl) ?_)) | (refine kIdx ?_; first | (refine LOps.ans (AnsL.idx tT_ok rfl rfl rfl rfl rfl hga rfl rfl) ?_)) | (refine kSlc ?_; first | (refine LOps.ans (AnsL.slcT (n := i) tT_ok rfl rfl rfl rfl rfl hsl) ?_)) | (refine kCallN 16 ?_; first | (refine LOps.ans (AnsL.callP rfl rfl rfl (ok16) (hA _)) ?_)) | (refine kCallN 32 ?_; first | (refine LOps.ans (AnsL.callP rfl rfl rfl (ok32) (hT _)) ?_)))
        | (refine kWL ?_; first | (refine WL.seq ?_) | (refine WL.region (by kernel_rfl) ?_) | (refine WL.block ?_) | (refine WL.skip ?_) | (refine kCond ?_; first | (refine WL.condF rfl ?_) | (refine WL.condT' rfl ?_ ?_; (focus (first | (simp only [decide_eq_true_eq, decide_eq_false_iff_not, Bool.not_eq_true', Bool.not_eq_false', Int.ofNat_lt, Int.ofNat_le, Int.ofNat_inj, not_true_eq_false, not_false_eq_true]; omega))))))
        | (refine lthen_n ?_)
      have hSl : ((l.map ESrc.v).take i).length = i := by rw [List.length_take, Nat.min_eq_left hsl]
      have hAl : ((l.take i).map srcAlias).length = i := by rw [List.length_map, List.length_take, Nat.min_eq_left hi]
      refine WL.loopH (fun m : Nat => i - m) (fun m => [(1, .sl 0 (l.map ESrc.v)), (2, .ptr n2 0), (4, .ptr n4 0), (7, .ptr n7 0), (17, .sl 0 (l.map ESrc.v)), (18, .int .i64 (l.length : Int)), (19, .int .i64 (i : Int)), (10, .int .i64 (k : Int)), (11, .str al), (37, .sl 0 ((l.map ESrc.v).take i)), (38, .int .i64 (((l.map ESrc.v).take i).length : Int)), (39, .int .i64 (m : Int))])
        (fun _ => [.acc id7 3 ((brings c (l.take i)).map Named.toV) ((brings c (l.take i)).map Named.toV), .cell n7 [.sl id7 ((brings c (l.take i)).map Named.toV)], .cell n4 [.nilsl], .cell n2 [.sl 0 (c.tables.map Tab.toV)]])
        (fun m => m ≤ i ∧ al ∉ ((l.take i).map srcAlias).take m) 0 ⟨Nat.zero_le _, by simp⟩ ⟨rfl, rfl, rfl, rfl, rfl, rfl, rfl, rfl, rfl, rfl, rfl, rfl, trivial⟩ hh (by (repeat' first | (exact Sel.nil) | (exact Sel.refl _) | (refine' Sel.p ?_ ?_; rotate_left 1; (focus (((repeat' first | (exact Pick.here) | (refine' Pick.there ?_)); done)))))) (fun m s hm hh => ?_)
      obtain ⟨hm, hno⟩ := hm
      try dsimp only at hm hno hh ⊢
      rcases Nat.lt_or_ge m i with hmi | hmi
      · have hml : m < l.length := by omega
        have hgy : ((l.map ESrc.v).take i)[m]? = some (ESrc.v l[m]) := by simp [hmi, hml]
        have hAy := fun t => implAliasOf_v l[m] t
        have hmem : ((l.take i).map srcAlias).take (m + 1) = ((l.take i).map srcAlias).take m ++ [srcAlias l[m]] := by
          rw [List.take_succ_eq_append_getElem (by rw [hAl]; exact hmi)]
          simp
        have hin : srcAlias l[m] ∈ (l.take i).map srcAlias := by
          refine List.mem_map.2 ⟨l[m], ?_, rfl⟩
          rw [List.mem_take_iff_getElem]
          exact ⟨m, by omega, rfl⟩
        generalize l[m] = y at hgy hAy hmem hin
        generalize srcAlias y = ay at hAy hmem hin
        by_cases he : ay = al
        · rw [he] at hin hAy
          rw [if_pos hin]
          repeat' first
            | (refine kAlloc ?_ ; refine LOps.allocH tT_ok hh rfl rfl ?_ ; intro s n hh)
            | (refine kStore ?_ ; first | (refine LOps.storeH tT_ok 0 hh rfl rfl rfl rfl rfl rfl rfl rfl rfl ?_ ; intro s hh) | (refine LOps.storeH tT_ok 3 hh rfl rfl rfl rfl rfl rfl rfl rfl rfl ?_ ; intro s hh))
            | (refine kOps ?_; first | (refine LOps.nil ?_) | (refine LOps.ev tT_ok rfl ?_) | (refine kLoad ?_; first | (refine LOps.ans (AnsL.loadH tT_ok 0 hh rfl rfl rfl rfl) ?_)) | (refine kIdx ?_; first | (refine LOps.ans (AnsL.idx tT_ok rfl rfl rfl rfl rfl hgy rfl rfl) ?_)) | (refine kCallN 16 ?_; first | (refine LOps.ans (AnsL.callP rfl rfl rfl (ok16) (hAy _)) ?_)))
            | (refine kWL ?_; first | (refine WL.seq ?_) | (refine WL.region (by kernel_rfl) ?_) | (refine WL.block ?_) | (refine WL.skip ?_) | (refine WL.ret ?_) | (refine kCond ?_; first | (refine WL.condT' rfl ?_ ?_; (focus (first | (simp only [decide_eq_true_eq, decide_eq_false_iff_not, Bool.not_eq_true', Bool.not_eq_false', Int.ofNat_lt, Int.ofNat_le, Int.ofNat_inj, not_true_eq_false, not_false_eq_true]; omega) | (simp <;> fail))))))
            | (refine lthen_n ?_)
            | (refine lthen_r ?_)
            | (refine lblock_r ?_)
            | (refine lbackH_r ?_)
            | (refine' LPost.r3 (r := .cell 4 32) (r' := .tmp 5) (r'' := .tmp 6) (.inl rfl) ?_ (Res1.tmp rfl) (Res1.tmp rfl) ?_; rotate_left 1; (focus (first | (exact Res1.cellH 3 tT_ok hh rfl rfl rfl rfl))))
          exact Own2.ofT hh (by ((repeat' first | (exact ConsL.nil) | (exact ConsL.pls rfl rfl) | (exact Cons.pl rfl rfl) | (exact Cons.zsl) | (exact Cons.nilsl) | (refine' Cons.bp ?_; ((repeat' first | (exact Pick.here) | (refine' Pick.there ?_)); done)) | (refine' Cons.ap ?_; ((repeat' first | (exact Pick.here) | (refine' Pick.there ?_)); done)) | (exact Cons.blk 0 rfl rfl rfl) | (exact Cons.blk 1 rfl rfl rfl) | (exact Cons.blk 2 rfl rfl rfl) | (exact Cons.blk 3 rfl rfl rfl) | (exact Cons.pl (by assumption) (by assumption)) | (exact ConsL.pls (by assumption) (by assumption)) | (refine' ConsL.cons ?_ ?_) | (refine' Cons.agg ?_)); done))
        · skip
          repeat' first
            | (refine kAlloc ?_ ; refine LOps.allocH tT_ok hh rfl rfl ?_ ; intro s n hh)
            | (refine kStore ?_ ; first | (refine LOps.storeH tT_ok 0 hh rfl rfl rfl rfl rfl rfl rfl rfl rfl ?_ ; intro s hh))
            | (refine kOps ?_; first | (refine LOps.nil ?_) | (refine LOps.ev tT_ok rfl ?_) | (refine kLoad ?_; first | (refine LOps.ans (AnsL.loadH tT_ok 0 hh rfl rfl rfl rfl) ?_)) | (refine kBin ?_; first | (refine LOps.ans (AnsL.add rfl rfl ?_) ?_; (focus (constructor <;> omega)))) | (refine kIdx ?_; first | (refine LOps.ans (AnsL.idx tT_ok rfl rfl rfl rfl rfl hgy rfl rfl) ?_)) | (refine kCallN 16 ?_; first | (refine LOps.ans (AnsL.callP rfl rfl rfl (ok16) (hAy _)) ?_)))
            | (refine kWL ?_; first | (refine WL.seq ?_) | (refine WL.region (by kernel_rfl) ?_) | (refine WL.block ?_) | (refine WL.skip ?_) | (refine kCond ?_; first | (refine WL.condT' rfl ?_ ?_; (focus (first | (simp only [decide_eq_true_eq, decide_eq_false_iff_not, Bool.not_eq_true', Bool.not_eq_false', Int.ofNat_lt, Int.ofNat_le, Int.ofNat_inj, not_true_eq_false, not_false_eq_true]; omega)))) | (refine WL.condF' rfl ?_ ?_; (focus (first | (exact decide_eq_false (by assumption)))))))
            | (refine lthen_n ?_)
            | (refine lblock_n ?_)
          refine lbackH.of (m + 1) ?_ hh ?_ ⟨hmi, ?_⟩ (by omega)
          · exact ⟨rfl, rfl, rfl, rfl, rfl, rfl, rfl, rfl, rfl, rfl, rfl, rfl, trivial⟩
          · (repeat' first | (exact Sel.nil) | (exact Sel.refl _) | (refine' Sel.p ?_ ?_; rotate_left 1; (focus (((repeat' first | (exact Pick.here) | (refine' Pick.there ?_)); done)))))
          · rw [hmem, List.mem_append, List.mem_singleton]
            rintro (h3 | h3)
            · exact hno h3
            · exact he h3.symm
      · have hno2 : al ∉ (l.take i).map srcAlias := by
          rw [List.take_of_length_le (by rw [hAl]; exact hmi)] at hno
          exact hno
        rw [if_neg hno2]
        generalize c.tables[k] = tb at hgb hbt hcl
        generalize brings c (l.take i) = N0 at hh hbt hN ⊢
        repeat' first
          | (refine kOps ?_; first | (refine LOps.nil ?_) | (refine LOps.ev tT_ok rfl ?_) | (refine kLoad ?_; first | (refine LOps.ans (AnsL.loadH tT_ok 3 hh rfl rfl rfl rfl) ?_)) | (refine kLen ?_; first | (refine LOps.ans (AnsL.lenM tT_ok rfl rfl rfl) ?_)) | (refine kIdx ?_; first | (refine LOps.ans (AnsL.idx tT_ok rfl rfl rfl rfl rfl hgb rfl rfl) ?_)))
          | (refine kWL ?_; first | (refine WL.seq ?_) | (refine WL.region (by kernel_rfl) ?_) | (refine WL.block ?_) | (refine WL.exit ?_) | (refine kCond ?_; first | (refine WL.condF' rfl ?_ ?_; (focus (first | (simp only [decide_eq_true_eq, decide_eq_false_iff_not, Bool.not_eq_true', Bool.not_eq_false', Int.ofNat_lt, Int.ofNat_le, Int.ofNat_inj, not_true_eq_false, not_false_eq_true]; omega))))))
          | (refine lthen_n ?_)
          | (refine lthen_e ?_)
          | (refine lblock_e ?_)
          | (refine lbackH_e ?_)
        rw [← List.append_nil (N0.map Named.toV)] at hh
        refine WL.loopH (fun j : Nat => tb.cols.length - j) (fun j => [(1, .sl 0 (l.map ESrc.v)), (2, .ptr n2 0), (4, .ptr n4 0), (7, .ptr n7 0), (17, .sl 0 (l.map ESrc.v)), (18, .int .i64 (l.length : Int)), (19, .int .i64 (i : Int)), (11, .str al), (55, .sl 0 (tb.cols.map Col.toV)), (56, .int .i64 (tb.cols.length : Int)), (57, .int .i64 (j : Int))])
          (fun j => [.acc id7 3 (N0.map Named.toV ++ (tb.cols.take j).map fun y => (⟨al, y.name, y.type⟩ : Named).toV) (N0.map Named.toV ++ (tb.cols.take j).map fun y => (⟨al, y.name, y.type⟩ : Named).toV), .cell n7 [.sl id7 (N0.map Named.toV ++ (tb.cols.take j).map fun y => (⟨al, y.name, y.type⟩ : Named).toV)], .cell n4 [.nilsl], .cell n2 [.sl 0 (c.tables.map Tab.toV)]])
          (fun j => j ≤ tb.cols.length) 0 (Nat.zero_le _) ⟨rfl, rfl, rfl, rfl, rfl, rfl, rfl, rfl, rfl, rfl, rfl, trivial⟩ hh (by (repeat' first | (exact Sel.nil) | (exact Sel.refl _) | (refine' Sel.p ?_ ?_; rotate_left 1; (focus (((repeat' first | (exact Pick.here) | (refine' Pick.there ?_)); done)))))) (fun j s hj hh => ?_)
        try dsimp only at hj hh ⊢
        have hbl : ((tb.cols.take j).map fun y => (⟨al, y.name, y.type⟩ : Named).toV).length = j := by rw [List.length_map, List.length_take, Nat.min_eq_left hj]
        rcases Nat.lt_or_ge j tb.cols.length with hlj | hgj
        · have hgc : (tb.cols.map Col.toV)[j]? = some (Col.toV tb.cols[j]) := by simp [hlj]
          have htk : tb.cols.take (j + 1) = tb.cols.take j ++ [tb.cols[j]] := List.take_succ_eq_append_getElem hlj
          generalize tb.cols[j] = y at hgc htk
          repeat' first
            | (refine kAlloc ?_ ; refine LOps.allocH tT_ok hh rfl rfl ?_ ; intro s n hh)
            | (refine kStore ?_ ; first | (refine LOps.storeH tT_ok 0 hh rfl rfl rfl rfl rfl rfl rfl rfl rfl ?_ ; intro s hh) | (refine LOps.storeH tT_ok 2 hh rfl rfl rfl rfl rfl rfl rfl rfl rfl ?_ ; intro s hh))
            | (refine kBsl ?_ ; refine' LOps.bslH tT_ok rfl rfl rfl rfl rfl rfl rfl rfl hh ?_ ?_ ?_ ; rotate_left 2 ; (focus ((repeat' first | (exact ConsL.pls rfl rfl)); done)) ; (focus ((repeat' first | (exact ElsH.of rfl)); done)) ; intro s n hh)
            | (refine kApp ?_ ; first | (refine' LOps.appH tT_ok 2 rfl rfl rfl rfl rfl rfl rfl rfl rfl rfl hh ?_ ?_ (AppB.of ?_ rfl) ?_ ; rotate_left 3 ; (focus (first | (refine' ConsSp.ap ?_; ((repeat' first | (exact Pick.here)); done)))) ; (focus ((repeat' first | (exact Elems.of rfl)); done)) ; (focus (first | omega | (simp ; omega))) ; intro s hh))
            | (refine kOps ?_; first | (refine LOps.nil ?_) | (refine LOps.ev tT_ok rfl ?_) | (refine kLoad ?_; first | (refine LOps.ans (AnsL.loadH tT_ok 0 hh rfl rfl rfl rfl) ?_) | (refine LOps.ans (AnsL.loadH tT_ok 2 hh rfl rfl rfl rfl) ?_)) | (refine kBin ?_; first | (refine LOps.ans (AnsL.add rfl rfl ?_) ?_; (focus (constructor <;> omega)))) | (refine kIdx ?_; first | (refine LOps.ans (AnsL.idx tT_ok rfl rfl rfl rfl rfl hgc rfl rfl) ?_)))
            | (refine kWL ?_; first | (refine WL.seq ?_) | (refine WL.region (by kernel_rfl) ?_) | (refine WL.block ?_) | (refine WL.skip ?_) | (refine kCond ?_; first | (refine WL.condT' rfl ?_ ?_; (focus (first | (simp only [decide_eq_true_eq, decide_eq_false_iff_not, Bool.not_eq_true', Bool.not_eq_false', Int.ofNat_lt, Int.ofNat_le, Int.ofNat_inj, not_true_eq_false, not_false_eq_true]; omega))))))
            | (refine lthen_n ?_)
            | (refine lblock_n ?_)
          have hN1 : N0.map Named.toV ++ (tb.cols.take (j + 1)).map (fun y => (⟨al, y.name, y.type⟩ : Named).toV) = (N0.map Named.toV ++ (tb.cols.take j).map fun y => (⟨al, y.name, y.type⟩ : Named).toV) ++ [(⟨al, y.name, y.type⟩ : Named).toV] := by
            rw [htk, List.map_append, ← List.append_assoc]
            rfl
          refine lbackH.of (j + 1) ?_ hh ?_ hlj (by omega)
          · exact ⟨rfl, rfl, rfl, rfl, rfl, rfl, rfl, rfl, rfl, rfl, rfl, trivial⟩
          · dsimp only
            rw [hN1]
            (repeat' first | (exact Sel.nil) | (exact Sel.refl _) | (refine' Sel.p ?_ ?_; rotate_left 1; (focus (((repeat' first | (exact Pick.here) | (refine' Pick.there ?_)); done)))))
        · rw [List.take_of_length_le hgj] at hh
          repeat' first
            | (refine kOps ?_; first | (refine LOps.nil ?_) | (refine LOps.ev tT_ok rfl ?_) | (refine kBin ?_; first | (refine LOps.ans (AnsL.add rfl rfl ?_) ?_; (focus (constructor <;> omega)))))
            | (refine kWL ?_; first | (refine WL.seq ?_) | (refine WL.region (by kernel_rfl) ?_) | (refine WL.exit ?_) | (refine kCond ?_; first | (refine WL.condF' rfl ?_ ?_; (focus (first | (simp only [decide_eq_true_eq, decide_eq_false_iff_not, Bool.not_eq_true', Bool.not_eq_false', Int.ofNat_lt, Int.ofNat_le, Int.ofNat_inj, not_true_eq_false, not_false_eq_true]; omega))))))
            | (refine lthen_n ?_)
            | (refine lthen_e ?_)
            | (refine lblock_n ?_)
            | (refine lblock_e ?_)
            | (refine lbackH_e ?_)
          refine lbackH.of (i + 1) ?_ hh ?_ ⟨hlt, rfl⟩ (by omega)
          · exact ⟨rfl, rfl, rfl, rfl, rfl, rfl, rfl, trivial⟩
          · try dsimp only
            rw [hbt, List.map_append, List.map_map]
            (repeat' first | (exact Sel.nil) | (exact Sel.refl _) | (refine' Sel.p ?_ ?_; rotate_left 1; (focus (((repeat' first | (exact Pick.here) | (refine' Pick.there ?_)); done)))))
  · rw [scopeAt_end c l i hge]
    rw [List.take_of_length_le hge] at hh
    repeat' first
      | (refine kStore ?_ ; first | (refine LOps.storeH tT_ok 2 hh rfl rfl rfl rfl rfl rfl rfl rfl rfl ?_ ; intro s hh))
      | (refine kOps ?_; first | (refine LOps.nil ?_) | (refine LOps.ev tT_ok rfl ?_) | (refine kLoad ?_; first | (refine LOps.ans (AnsL.loadH tT_ok 1 hh rfl rfl rfl rfl) ?_)))
      | (refine kWL ?_; first | (refine WL.seq ?_) | (refine WL.region (by kernel_rfl) ?_) | (refine WL.exit ?_) | (refine WL.ret ?_) | (refine kCond ?_; first | (refine WL.condF' rfl ?_ ?_; (focus (first | (simp only [decide_eq_true_eq, decide_eq_false_iff_not, Bool.not_eq_true', Bool.not_eq_false', Int.ofNat_lt, Int.ofNat_le, Int.ofNat_inj, not_true_eq_false, not_false_eq_true]; omega))))))
      | (refine lthen_n ?_)
      | (refine lthen_e ?_)
      | (refine lblock_e ?_)
      | (refine lbackH_e ?_)
      | (refine' LPost.r3 (r := .cell 4 32) (r' := .tmp 5) (r'' := .tmp 6) (.inl rfl) ?_ (Res1.tmp rfl) (Res1.tmp rfl) ?_; rotate_left 1; (focus (first | (exact Res1.cellH 2 tT_ok hh rfl rfl rfl rfl))))
    exact Own2.ofT hh (by ((repeat' first | (exact ConsL.nil) | (exact ConsL.pls rfl rfl) | (exact Cons.pl rfl rfl) | (exact Cons.zsl) | (exact Cons.nilsl) | (refine' Cons.bp ?_; ((repeat' first | (exact Pick.here) | (refine' Pick.there ?_)); done)) | (refine' Cons.ap ?_; ((repeat' first | (exact Pick.here) | (refine' Pick.there ?_)); done)) | (exact Cons.blk 0 rfl rfl rfl) | (exact Cons.blk 1 rfl rfl rfl) | (exact Cons.blk 2 rfl rfl rfl) | (exact Cons.blk 3 rfl rfl rfl) | (exact Cons.pl (by assumption) (by assumption)) | (exact ConsL.pls (by assumption) (by assumption)) | (refine' ConsL.cons ?_ ?_) | (refine' Cons.agg ?_)); done))

end Go.Proofs.Ytoagpmhdgllchaa
