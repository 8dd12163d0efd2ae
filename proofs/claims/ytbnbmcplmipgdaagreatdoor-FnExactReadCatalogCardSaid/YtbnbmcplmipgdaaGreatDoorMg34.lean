/-
  What stands in quotes, of the program.
  Worlds that a call of the library's leaves behind: draws, and blocks behind the heap.
  The decimal text of a number: strconv.Itoa by the library's contract, the program's Digits and the reference's.
  Own work; no condition.
-/
import Derived.Test.YtbnbmcplmipgdaaGreatDoorDLexY
import Derived.Test.YtbnbmcplmipgdaaGreatDoorVRel
import Derived.Sort.Grow
import Derived.Sort.Row
import Derived.Deep.Draws
import Derived.Test.YtbnbmcplmipgdaaGreatDoorMg13
import Derived.Test.YtbnbmcplmipgdaaGreatDoorMg8
import Derived.Test.YtbnbmcplmipgdaaGreatDoorDDig
import Derived.Shelf.Strconv.Itoa3
namespace Go.Proofs.YtbnbmcplmipgdaaGreatDoor
open Go
set_option linter.unusedSimpArgs false
set_option linter.unusedVariables false

/-- The answer of the program's reader of quotes. -/
def quotW (a : Nat) : Option (List UInt8 × Nat) → List V
  | some x => [.str x.1, .int .i64 ((a + 1 + x.2 : Nat) : Int), .bool true]
  | none => [.str [], .int .i64 0, .bool false]
theorem quotW_scal (a : Nat) (o : Option (List UInt8 × Nat)) : (quotW a o).all V.scal = true ∧ V.plainL (quotW a o) = true := by cases o <;> exact ⟨rfl, rfl⟩
set_option maxHeartbeats 2000000 in
theorem implreadQuoted_v (l : List UInt8) (hl : l.length ≤ 1048576) (a : Nat) (ha : a < l.length) (s : S) : VCalls Tryz.prog 72 [.str l, .int .i64 (a : Int)] s (fun v s' => v = .tup (quotW a (quotS l[a] (l.drop (a + 1)))) ∧ s' = s) := by
  refine VCalls.pureS rfl (quotW_scal _ _).1 (quotW_scal _ _).2 (fun s => ?_) s
  have hh : Hold s s.next [] := .start _ _
  have hga : l[a]? = some l[a] := by simp [ha]
  generalize l[a] = q at hga ⊢
  refine LCalls.body0 Tryz.func72 rfl (by kernel_rfl) ?_
  repeat' first
    | (refine kOps ?_; first | (refine LOps.nil ?_) | (refine LOps.ev tT_ok rfl ?_) | (refine kBsl ?_; first | (refine LOps.bsl0 tT_ok rfl rfl rfl rfl rfl ?_)) | (refine kBin ?_; first | (refine LOps.ans (AnsL.add rfl rfl ?_) ?_; (focus (constructor <;> omega)))) | (refine kSidx ?_; first | (refine LOps.ans (AnsL.sidx tT_ok rfl rfl rfl rfl hga) ?_)))
    | (refine kWL ?_; first | (refine WL.seq ?_) | (refine WL.region (by kernel_rfl) ?_) | (refine WL.block ?_))
    | (refine lthen_n ?_)
  refine WL.zfamH (t := 8) 1 rfl rfl hh (fun s id hh => ?_)
  refine WL.loopH (fun y : Nat × List UInt8 => l.length - y.1) (fun y => [(0, .str l), (7, .int .u8 (q.toNat : Int)), (8, .sl id (bL y.2)), (9, .int .i64 (y.1 : Int))]) (fun y => [.acc id 1 (bL y.2) (bL y.2)])
    (fun y => a + 1 ≤ y.1 ∧ y.1 ≤ l.length ∧ y.2.length ≤ y.1 ∧ quotS q (l.drop (a + 1)) = (quotS q (l.drop y.1)).map (fun x => (y.2 ++ x.1, x.2 + (y.1 - (a + 1))))) (a + 1, []) ⟨Nat.le_refl _, by dsimp only; omega, Nat.zero_le _, by simp⟩ ⟨rfl, rfl, rfl, rfl, trivial⟩ hh (Sel.refl _) (fun y s hI hh => ?_)
  obtain ⟨i, out⟩ := y
  obtain ⟨g1, g2, g3, g4⟩ := hI
  dsimp only at g1 g2 g3 g4 hh ⊢
  have hB : (bL out).length ≤ 1048577 := by rw [bL_len]; omega
  rcases Nat.lt_or_ge i l.length with hlt | hge
  · have hlt' : (i : Int) < (l.length : Int) := by omega
    have hg : l[i]? = some l[i] := by simp [hlt]
    have hd : l.drop i = l[i] :: l.drop (i + 1) := List.drop_eq_getElem_cons hlt
    rw [hd] at g4
    have hst : ∀ b, bL (out ++ [b]) = bL out ++ [V.int .u8 (b.toNat : Int)] := fun b => by rw [bL_app]; rfl
    by_cases hb : l[i] = q
    · have hbn : (l[i].toNat : Int) = (q.toNat : Int) := by rw [hb]
      rw [hb] at g4
      have hE : vbytes (bL out) = some out := bL_bytes out
      by_cases hend : i + 1 < l.length
      · have hend' : ¬ (i : Int) + 1 = (l.length : Int) := by omega
        have hg2 : l[i + 1]? = some l[i + 1] := by simp [hend]
        rw [List.drop_eq_getElem_cons hend] at g4
        by_cases hc : l[i + 1] = q
        · rw [hc, quotS_two, Option.map_map] at g4
          have hcn : ¬ (l[i + 1].toNat : Int) ≠ (q.toNat : Int) := by rw [hc]; omega
          rw [hc] at hg2 hcn
          generalize hBo : bL out = B at hh hB hst ⊢
          repeat' first
            | (refine kBsl ?_ ; refine' LOps.bslH tT_ok rfl rfl rfl rfl rfl rfl rfl rfl hh ?_ ?_ ?_ ; rotate_left 2 ; (focus ((repeat' first | (exact ConsL.pls rfl rfl)); done)) ; (focus ((repeat' first | (exact ElsH.of rfl)); done)) ; intro s n hh)
            | (refine kApp ?_ ; first | (refine' LOps.appH tT_ok 1 rfl rfl rfl rfl rfl rfl rfl rfl rfl rfl hh ?_ ?_ (AppB.of ?_ rfl) ?_ ; rotate_left 3 ; (focus (first | (refine' ConsSp.ap ?_; ((repeat' first | (exact Pick.here)); done)))) ; (focus ((repeat' first | (exact Elems.of rfl)); done)) ; (focus (first | omega | (simp ; omega))) ; intro s hh))
            | (refine kOps ?_; first | (refine LOps.nil ?_) | (refine kG ?_; first | (refine LOps.gT rfl rfl rfl ?_) | (refine LOps.gD false rfl rfl rfl ?_ ?_; (focus (first | (exact decide_eq_false (by assumption)))))) | (refine LOps.ev tT_ok rfl ?_) | (refine kBin ?_; first | (refine LOps.ans (AnsL.add rfl rfl ?_) ?_; (focus (constructor <;> omega)))) | (refine kSidx ?_; first | (refine LOps.ans (AnsL.sidx (j := i + 1) tT_ok rfl rfl rfl rfl hg2) ?_) | (refine LOps.ans (AnsL.sidx tT_ok rfl rfl rfl rfl hg) ?_)))
            | (refine kWL ?_; first | (refine WL.seq ?_) | (refine WL.region (by kernel_rfl) ?_) | (refine WL.block ?_) | (refine WL.skip ?_) | (refine kCond ?_; first | (refine WL.condT' rfl ?_ ?_; (focus (first | (exact decide_eq_true (by assumption))))) | (refine WL.condF' rfl ?_ ?_; (focus (first | (simp <;> fail))))))
            | (refine lthen_n ?_)
            | (refine lblock_n ?_)
          have e : B ++ [V.int .u8 (q.toNat : Int)] = bL (out ++ [q]) := (hst q).symm
          rw [e] at hh
          refine lbackH.of (i + 2, out ++ [q]) ⟨rfl, rfl, by rw [← e]; rfl, rfl, trivial⟩ hh (Sel.refl _) ⟨by dsimp only; omega, by dsimp only; omega, by simp only [List.length_append, List.length_singleton]; omega, ?_⟩ (by dsimp only; omega)
          dsimp only
          rw [g4]
          congr 1
          funext x
          simp only [Function.comp_apply, List.append_assoc, List.cons_append, List.nil_append, Prod.mk.injEq, true_and]
          omega
        · rw [quotS_stop hc] at g4
          have hcn : (l[i + 1].toNat : Int) ≠ (q.toNat : Int) := fun h => hc (UInt8.toNat_inj.1 (by omega))
          generalize bL out = B at hh hB hE ⊢
          repeat' first
            | (refine LOps.ans (AnsL.toStrQ tT_ok rfl rfl rfl rfl rfl rfl rfl rfl hE) ?_)
            | (refine kOps ?_; first | (refine LOps.nil ?_) | (refine kG ?_; first | (refine LOps.gT rfl rfl rfl ?_) | (refine LOps.gD false rfl rfl rfl ?_ ?_; (focus (first | (exact decide_eq_false (by assumption)))))) | (refine LOps.ev tT_ok rfl ?_) | (refine kBin ?_; first | (refine LOps.ans (AnsL.add rfl rfl ?_) ?_; (focus (constructor <;> omega)))) | (refine kSidx ?_; first | (refine LOps.ans (AnsL.sidx (j := i + 1) tT_ok rfl rfl rfl rfl hg2) ?_) | (refine LOps.ans (AnsL.sidx tT_ok rfl rfl rfl rfl hg) ?_)))
            | (refine kWL ?_; first | (refine WL.seq ?_) | (refine WL.region (by kernel_rfl) ?_) | (refine WL.block ?_) | (refine WL.skip ?_) | (refine WL.ret ?_) | (refine kCond ?_; first | (refine WL.condT' rfl ?_ ?_; (focus (first | (exact decide_eq_true (by assumption)) | (simp only [decide_eq_true_eq, decide_eq_false_iff_not, Bool.not_eq_true', Bool.not_eq_false', Int.ofNat_lt, Int.ofNat_le, Int.ofNat_inj, not_true_eq_false, not_false_eq_true]; omega))))))
            | (refine lthen_n ?_)
            | (refine lthen_r ?_)
            | (refine lblock_r ?_)
            | (refine lbackH_r ?_)
            | (refine LPost.r3 (r := .tmp 4) (r' := .tmp 5) (r'' := .tmp 6) (.inl rfl) (Res1.tmp rfl) (Res1.tmp rfl) (Res1.tmp rfl) ?_)
          rw [g4]
          simp only [Option.map_some, quotW, List.append_nil]
          rw [show ((a + 1 + (1 + (i - (a + 1))) : Nat) : Int) = (i : Int) + 1 by omega]
          try rfl
      · have hend' : (i : Int) + 1 = (l.length : Int) := by omega
        rw [List.drop_of_length_le (show l.length ≤ i + 1 by omega), quotS_end] at g4
        generalize bL out = B at hh hB hE ⊢
        repeat' first
          | (refine LOps.ans (AnsL.toStrQ tT_ok rfl rfl rfl rfl rfl rfl rfl rfl hE) ?_)
          | (refine kOps ?_; first | (refine LOps.nil ?_) | (refine kG ?_; first | (refine LOps.gF rfl rfl rfl ?_) | (refine LOps.gD true rfl rfl rfl ?_ ?_; (focus (first | (exact decide_eq_true (by assumption)))))) | (refine LOps.ev tT_ok rfl ?_) | (refine kBin ?_; first | (refine LOps.ans (AnsL.add rfl rfl ?_) ?_; (focus (constructor <;> omega)))) | (refine kSidx ?_; first | (refine LOps.ans (AnsL.sidx tT_ok rfl rfl rfl rfl hg) ?_)))
          | (refine kWL ?_; first | (refine WL.seq ?_) | (refine WL.region (by kernel_rfl) ?_) | (refine WL.block ?_) | (refine WL.skip ?_) | (refine WL.ret ?_) | (refine kCond ?_; first | (refine WL.condT rfl ?_) | (refine WL.condT' rfl ?_ ?_; (focus (first | (exact decide_eq_true (by assumption)))))))
          | (refine lthen_n ?_)
          | (refine lthen_r ?_)
          | (refine lblock_r ?_)
          | (refine lbackH_r ?_)
          | (refine LPost.r3 (r := .tmp 4) (r' := .tmp 5) (r'' := .tmp 6) (.inl rfl) (Res1.tmp rfl) (Res1.tmp rfl) (Res1.tmp rfl) ?_)
        rw [g4]
        simp only [Option.map_some, quotW, List.append_nil]
        rw [show ((a + 1 + (1 + (i - (a + 1))) : Nat) : Int) = (i : Int) + 1 by omega]
        try rfl
    · rw [quotS_ne hb, Option.map_map] at g4
      have hbn : ¬ (l[i].toNat : Int) = (q.toNat : Int) := fun h => hb (UInt8.toNat_inj.1 (by omega))
      generalize l[i] = b at hg hbn g4
      generalize hBo : bL out = B at hh hB hst ⊢
      repeat' first
        | (refine kBsl ?_ ; refine' LOps.bslH tT_ok rfl rfl rfl rfl rfl rfl rfl rfl hh ?_ ?_ ?_ ; rotate_left 2 ; (focus ((repeat' first | (exact ConsL.pls rfl rfl)); done)) ; (focus ((repeat' first | (exact ElsH.of rfl)); done)) ; intro s n hh)
        | (refine kApp ?_ ; first | (refine' LOps.appH tT_ok 1 rfl rfl rfl rfl rfl rfl rfl rfl rfl rfl hh ?_ ?_ (AppB.of ?_ rfl) ?_ ; rotate_left 3 ; (focus (first | (refine' ConsSp.ap ?_; ((repeat' first | (exact Pick.here)); done)))) ; (focus ((repeat' first | (exact Elems.of rfl)); done)) ; (focus (first | omega | (simp ; omega))) ; intro s hh))
        | (refine kOps ?_; first | (refine LOps.nil ?_) | (refine LOps.ev tT_ok rfl ?_) | (refine kBin ?_; first | (refine LOps.ans (AnsL.add rfl rfl ?_) ?_; (focus (constructor <;> omega)))) | (refine kSidx ?_; first | (refine LOps.ans (AnsL.sidx tT_ok rfl rfl rfl rfl hg) ?_)))
        | (refine kWL ?_; first | (refine WL.seq ?_) | (refine WL.region (by kernel_rfl) ?_) | (refine WL.block ?_) | (refine WL.skip ?_) | (refine kCond ?_; first | (refine WL.condT' rfl ?_ ?_; (focus (first | (exact decide_eq_true (by assumption))))) | (refine WL.condF' rfl ?_ ?_; (focus (first | (exact decide_eq_false (by assumption)))))))
        | (refine lthen_n ?_)
        | (refine lblock_n ?_)
      have e : B ++ [V.int .u8 (b.toNat : Int)] = bL (out ++ [b]) := (hst b).symm
      rw [e] at hh
      refine lbackH.of (i + 1, out ++ [b]) ⟨rfl, rfl, by rw [← e]; rfl, rfl, trivial⟩ hh (Sel.refl _) ⟨by dsimp only; omega, by dsimp only; omega, by simp only [List.length_append, List.length_singleton]; omega, ?_⟩ (by dsimp only; omega)
      dsimp only
      rw [g4]
      congr 1
      funext x
      simp only [Function.comp_apply, List.append_assoc, List.cons_append, List.nil_append, Prod.mk.injEq, true_and]
      omega
  · have hlt' : ¬ (i : Int) < (l.length : Int) := by omega
    rw [List.drop_of_length_le hge] at g4
    have hn : quotS q (l.drop (a + 1)) = none := g4
    rw [hn]
    repeat' first
      | (refine kOps ?_; first | (refine LOps.nil ?_) | (refine LOps.ev tT_ok rfl ?_))
      | (refine kWL ?_; first | (refine WL.seq ?_) | (refine WL.region (by kernel_rfl) ?_) | (refine WL.exit ?_) | (refine WL.ret ?_) | (refine kCond ?_; first | (refine WL.condF' rfl ?_ ?_; (focus (first | (exact decide_eq_false (by assumption)))))))
      | (refine lthen_n ?_)
      | (refine lthen_e ?_)
      | (refine lblock_e ?_)
      | (refine lbackH_e ?_)
      | (refine LPost.r3 (r := .tmp 4) (r' := .tmp 5) (r'' := .tmp 6) (.inl rfl) (Res1.tmp rfl) (Res1.tmp rfl) (Res1.tmp rfl) ?_)
    rfl

end Go.Proofs.YtbnbmcplmipgdaaGreatDoor

namespace Go.Proofs.YtbnbmcplmipgdaaGreatDoor
open Go
set_option linter.unusedSimpArgs false
set_option linter.unusedVariables false

/-- What is drawn, and what is laid behind the heap, no state is told of. -/
theorem RelS.grown {s : S} (os : List Obj) : ∀ {E : Env}, RelS E s → ∃ E' : Env, E'.w = Sort.grow E.w os.toArray ∧ Step E s E' s ∧ RelS E' s := by
  induction os with
  | nil => intro E h; exact ⟨E, by simp, .refl _ _, h⟩
  | cons o os ih =>
    intro E h
    obtain ⟨a, b⟩ := step_raw h o
    obtain ⟨E', e, c, d⟩ := ih b
    refine ⟨E', ?_, a.trans c, d⟩
    rw [e]
    show Sort.grow (E.w.alloc o) _ = _
    rw [Sort.alloc_eq_grow, Sort.grow_grow]
    congr 1
    simp
theorem RelS.drewN {s : S} (k : Nat) : ∀ {E : Env}, RelS E s → ∃ E' : Env, E'.w = E.w.drewN k ∧ Step E s E' s ∧ RelS E' s := by
  induction k with
  | zero => intro E h; exact ⟨E, rfl, .refl _ _, h⟩
  | succ k ih =>
    intro E h
    obtain ⟨E', e, c, d⟩ := ih h
    obtain ⟨a, b⟩ := step_drew d
    refine ⟨E'.drew, ?_, c.trans a, b⟩
    show E'.w.drew = _
    rw [e]
    rfl

end Go.Proofs.YtbnbmcplmipgdaaGreatDoor

namespace Go.Proofs
open Go.Shelf
def Tryz.laysItoa_ren : Go.Shelf.Ren := ⟨fun | 171 => 107 | 243 => 115 | 246 => 122 | 283 => 126 | 284 => 127 | 285 => 128 | 286 => 129 | 129 => 131 | 317 => 130 | 318 => 132 | 319 => 133 | 320 => 134 | 337 => 135 | 338 => 136 | n => n, fun | 3 => 3 | 9 => 9 | 2 => 2 | 4 => 4 | 171 => 138 | 0 => 0 | 53 => 126 | 37 => 99 | 5 => 5 | 173 => 141 | 212 => 148 | 51 => 112 | 20 => 20 | 213 => 149 | 46 => 105 | 232 => 152 | 233 => 153 | n => n, fun | 17 => 5 | 18 => 6 | 19 => 7 | n => n⟩
theorem Tryz.laysItoa : Go.Proofs.LaysM.n171 Tryz.prog Tryz.laysItoa_ren := {
  mixed := by kernel_rfl
  f129 := Tryz.func131.trans (congrArg some (by kernel_rfl))
  f171 := Tryz.func107.trans (congrArg some (by kernel_rfl))
  f243 := Tryz.func115.trans (congrArg some (by kernel_rfl))
  f246 := Tryz.func122.trans (congrArg some (by kernel_rfl))
  f283 := Tryz.func126.trans (congrArg some (by kernel_rfl))
  f284 := Tryz.func127.trans (congrArg some (by kernel_rfl))
  f285 := Tryz.func128.trans (congrArg some (by kernel_rfl))
  f286 := Tryz.func129.trans (congrArg some (by kernel_rfl))
  f317 := Tryz.func130.trans (congrArg some (by kernel_rfl))
  f318 := Tryz.func132.trans (congrArg some (by kernel_rfl))
  f319 := Tryz.func133.trans (congrArg some (by kernel_rfl))
  f320 := Tryz.func134.trans (congrArg some (by kernel_rfl))
  f337 := Tryz.func135.trans (congrArg some (by kernel_rfl))
  f338 := Tryz.func136.trans (congrArg some (by kernel_rfl))
  t0 := Tryz.underlying0
  a0 := Tryz.isAgg0
  z0 := Tryz.sizeOf0
  v0 := Tryz.zeroValue0
  t2 := Tryz.underlying2
  a2 := Tryz.isAgg2
  z2 := Tryz.sizeOf2
  v2 := Tryz.zeroValue2
  t3 := Tryz.underlying3
  a3 := Tryz.isAgg3
  z3 := Tryz.sizeOf3
  v3 := Tryz.zeroValue3
  t4 := Tryz.underlying4
  a4 := Tryz.isAgg4
  z4 := Tryz.sizeOf4
  v4 := Tryz.zeroValue4
  t5 := Tryz.underlying5
  a5 := Tryz.isAgg5
  z5 := Tryz.sizeOf5
  v5 := Tryz.zeroValue5
  t9 := Tryz.underlying9
  a9 := Tryz.isAgg9
  z9 := Tryz.sizeOf9
  v9 := Tryz.zeroValue9
  t20 := Tryz.underlying20
  a20 := Tryz.isAgg20
  z20 := Tryz.sizeOf20
  v20 := Tryz.zeroValue20
  t37 := Tryz.underlying99
  a37 := Tryz.isAgg99
  z37 := Tryz.sizeOf99
  v37 := Tryz.zeroValue99
  t46 := Tryz.underlying105
  a46 := Tryz.isAgg105
  z46 := Tryz.sizeOf105
  v46 := Tryz.zeroValue105
  t51 := Tryz.underlying112
  a51 := Tryz.isAgg112
  z51 := Tryz.sizeOf112
  v51 := Tryz.zeroValue112
  t53 := Tryz.underlying126
  a53 := Tryz.isAgg126
  z53 := Tryz.sizeOf126
  v53 := Tryz.zeroValue126
  t171 := Tryz.underlying138
  a171 := Tryz.isAgg138
  z171 := Tryz.sizeOf138
  v171 := Tryz.zeroValue138
  t173 := Tryz.underlying141
  a173 := Tryz.isAgg141
  z173 := Tryz.sizeOf141
  v173 := Tryz.zeroValue141
  t212 := Tryz.underlying148
  a212 := Tryz.isAgg148
  z212 := Tryz.sizeOf148
  v212 := Tryz.zeroValue148
  t213 := Tryz.underlying149
  a213 := Tryz.isAgg149
  z213 := Tryz.sizeOf149
  t232 := Tryz.underlying152
  a232 := Tryz.isAgg152
  z232 := Tryz.sizeOf152
  v232 := Tryz.zeroValue152
  t233 := Tryz.underlying153
  a233 := Tryz.isAgg153
  z233 := Tryz.sizeOf153
  v233 := Tryz.zeroValue153
  g17 := by kernel_rfl
  g18 := by kernel_rfl
  g19 := by kernel_rfl
  i0 := by kernel_rfl
  i2 := by kernel_rfl
  i3 := by kernel_rfl
  i4 := by kernel_rfl
  i5 := by kernel_rfl
  i9 := by kernel_rfl
  i20 := by kernel_rfl
  i37 := by kernel_rfl
  i46 := by kernel_rfl
  i51 := by kernel_rfl
  i53 := by kernel_rfl
  i171 := by kernel_rfl
  i173 := by kernel_rfl
  i212 := by kernel_rfl
  i232 := by kernel_rfl
  i233 := by kernel_rfl
  m17 := by kernel_rfl
  m18 := by kernel_rfl
  m19 := by kernel_rfl }
end Go.Proofs
namespace Go.Proofs.YtbnbmcplmipgdaaGreatDoor
open Go
set_option linter.unusedSimpArgs false
set_option linter.unusedVariables false

theorem gT : Tryz.prog.globalNamed "internal/strconv.uint64pow10" = some 5 := by kernel_rfl
theorem RelS.tabIs {E : Env} {s : S} (h : RelS E s) : Lib.TabIs Tryz.prog E.w "internal/strconv.uint64pow10" .u64 Lib.pow10Tab := by
  obtain ⟨⟨e, fr, h1⟩, _⟩ := h.tab 5 (.tab _) (.head _)
  show World.var? _ _ _ = _
  unfold World.var?
  rw [gT]
  show (match E.w.heap[5]? with
      | some (.cells cs _ _) => some cs
      | _ => none) = _
  rw [h1]
  rfl
theorem strconvItoa_v (n : Int) (s : S) : VCalls Tryz.prog 107 [.int .i64 n] s (fun v s' => v = .str (Lib.itoa n) ∧ s' = s) := by
  refine VCalls.wf fun hwf => ?_
  have hw : -9223372036854775808 ≤ n ∧ n ≤ 9223372036854775807 := by
    simpa [V.wf, IntKind.min, IntKind.max, IntKind.signed, IntKind.bits] using hwf
  intro E vals h1 h2
  cases h2 with
  | cons hv ht =>
    cases ht
    cases hv
    refine (Any.strconv_Itoa Tryz.laysItoa n hw.1 hw.2 E.w h1.tabIs).mono ?_
    rintro e w' ⟨rfl, k, os, rfl⟩
    obtain ⟨E1, e1, a1, b1⟩ := h1.drewN k
    obtain ⟨E2, e2, a2, b2⟩ := b1.grown os.toList
    refine ⟨E2, _, _, s, rfl, by rw [e2, e1], ⟨rfl, rfl⟩, b2, .str ?_, a1.trans a2⟩
    have := itoa_len n hw.1 hw.2
    exact le_maxLen (by omega)
theorem implDigits_v (n : Int) (s : S) : VCalls Tryz.prog 101 [.int .i64 n] s (fun v s' => v = .str (Lib.itoa n) ∧ s' = s) := by
  refine LCalls.pure Tryz.func101 rfl (by kernel_rfl) (by simp) ?_
  repeat' first
    | (refine kOps ?_; first | (refine LOps.nil ?_) | (refine LOps.ev tT_ok rfl ?_) | (refine kCallN 107 ?_; first | (refine LOps.ans (AnsL.callP rfl rfl rfl (ok107) (strconvItoa_v n _)) ?_)))
    | (refine kWL ?_; first | (refine WL.seq ?_) | (refine WL.region (by kernel_rfl) ?_) | (refine WL.ret ?_))
    | (refine lthen_n ?_)
    | (refine LPost.r1 (r := .tmp 2) (.inl rfl) (Res1.tmp rfl) ?_)
    | (refine PureR.mk ?_)
  rfl


end Go.Proofs.YtbnbmcplmipgdaaGreatDoor
