/-
  Past what is between tokens, and what stands in quotes, of the program. Own work; no condition.
-/
import Derived.Test.YtbnbmcplmipgdaaGreatDoorMg32
namespace Go.Proofs.YtbnbmcplmipgdaaGreatDoor
open Go
set_option linter.unusedSimpArgs false
set_option linter.unusedVariables false

theorem AnsL.slcFrom {P : Program} {L : Kn} {s : S} {tt : BT} (ht : tt.ok P) {u w : List UInt8} {T : TypeId} {t : Ty} {x i : Operand} {n : Nat} {k : IntKind} (hx : opd L x = some (.str u)) (hT : tt.get T = some t) (hkd : t.kd = .string) (hi : opd L i = some (.int k (n : Int)))
    (hn : n ≤ u.length) (hw : u.drop n = w) : AnsL P (.slice T x (some i) none none) L s (.str w) := by
  subst hw
  refine AnsL.slc (lo' := some (.int k (n : Int))) (hi' := none) (mx' := none) hx (by simp only [opdO, hi]) rfl rfl ?_
  simp only [vslice, ht.get hT, hkd, Option.bind_some, bound, Int.toNat_natCast, Int.natCast_nonneg, if_true]
  rw [if_pos ⟨hn, Nat.le_refl _⟩, List.take_of_length_le (by simp)]
theorem ws_index (b : UInt8) : decide (Lib.indexByte [32, 9, 10, 13] b ≥ 0) = isWs b := by
  unfold isWs
  by_cases h1 : b = 32
  · subst h1; decide
  by_cases h2 : b = 9
  · subst h2; decide
  by_cases h3 : b = 10
  · subst h3; decide
  by_cases h4 : b = 13
  · subst h4; decide
  have e : ∀ {c : UInt8}, ¬ b = c → (c == b) = false := fun {c} h => by
    rw [beq_eq_false_iff_ne]; exact fun e => h e.symm
  simp [Lib.indexByte, e h1, e h2, e h3, e h4, h1, h2, h3, h4]
theorem pre_at2 (l : List UInt8) (i : Nat) (a b : UInt8) : [a, b].isPrefixOf (l.drop i) = at2 l i a b := by
  unfold at2
  have e : ∀ k, (l.drop i)[k]? = l[i + k]? := fun k => List.getElem?_drop
  have e0 := e 0
  have e1 := e 1
  rw [Nat.add_zero] at e0
  rw [← e0, ← e1]
  generalize l.drop i = l
  have hb : ∀ x y : UInt8, (x == y) = decide (y = x) := fun x y => by
    rw [Bool.eq_iff_iff]
    simp only [beq_iff_eq, decide_eq_true_eq]
    exact ⟨fun h => h.symm, fun h => h.symm⟩
  match l with
  | [] => simp [List.isPrefixOf]
  | [x] => simp [List.isPrefixOf]
  | x :: y :: l => simp [List.isPrefixOf, hb]
theorem indexByte_seek (c : UInt8) : ∀ l : List UInt8, (Lib.indexByte l c = -1 ∧ seek (fun b => decide (b = c)) l = l.length) ∨ (Lib.indexByte l c = (seek (fun b => decide (b = c)) l : Nat) ∧ seek (fun b => decide (b = c)) l < l.length)
  | [] => .inl ⟨rfl, rfl⟩
  | b :: l => by
    unfold Lib.indexByte seek
    by_cases h : b = c
    · subst h
      exact .inr ⟨by simp, by simp⟩
    · have e : (b == c) = false := beq_eq_false_iff_ne.2 h
      simp only [e, h, decide_false, Bool.false_eq_true, if_false]
      rcases indexByte_seek c l with ⟨h1, h2⟩ | ⟨h1, h2⟩
      · exact .inl ⟨by rw [h1]; rfl, by rw [h2]; rfl⟩
      · refine .inr ⟨?_, by simp only [List.length_cons]; omega⟩
        rw [h1, if_neg (by rw [beq_iff_eq]; omega)]
        omega
theorem seek_at (p : UInt8 → Bool) : ∀ (l : List UInt8) (h : seek p l < l.length), p l[seek p l] = true
  | [], h => by simp at h
  | b :: l, h => by
    unfold seek at h ⊢
    split
    · rename_i hb; simpa using hb
    · rename_i hb
      rw [if_neg hb] at h
      simp only [List.length_cons] at h
      exact seek_at p l (by omega)
theorem index_seekC : ∀ l : List UInt8, Lib.index l [42, 47] = match seekC l with
    | none => -1
    | some k => (k : Int)
  | [] => by unfold Lib.index seekC; rfl
  | b :: l => by
    have ih := index_seekC l
    have hp := pre_at2 (b :: l) 0 42 47
    rw [List.drop_zero] at hp
    have hs : at2 (b :: l) 0 42 47 = decide (b = 42 ∧ l.head? = some 47) := by
      unfold at2
      cases l with
      | nil => simp
      | cons c l => simp
    rw [hs] at hp
    unfold Lib.index seekC
    rw [hp]
    by_cases c : b = 42 ∧ l.head? = some 47
    · rw [if_pos c, decide_eq_true c, if_pos rfl]
      rfl
    · rw [if_neg c, decide_eq_false c, if_neg (by decide), ih]
      cases seekC l with
      | none => rfl
      | some k =>
        show (if ((k : Int) == -1) = true then (-1 : Int) else (k : Int) + 1) = ((k + 1 : Nat) : Int)
        have : ¬ ((k : Int) == -1) = true := by rw [beq_iff_eq]; omega
        rw [if_neg this]
        omega
def skipV (p : Int) : List V := if p < 0 then [.int .i64 (-p - 1), .bool false] else [.int .i64 p, .bool true]
@[simp] theorem skipV_dat (p : Int) : V.datL (skipV p) = true := by unfold skipV; split <;> rfl
theorem skipV_pos (n : Nat) : skipV (n : Int) = [.int .i64 (n : Int), .bool true] := if_neg (by omega)
theorem skipV_neg (n : Nat) : skipV (-(n : Int) - 1) = [.int .i64 (n : Int), .bool false] := by
  unfold skipV
  rw [if_pos (by omega), show -(-(n : Int) - 1) - 1 = n by omega]
set_option maxHeartbeats 2000000 in
theorem implskip_v (l : List UInt8) (hl : l.length ≤ 1048576) (i : Nat) (hi : i ≤ l.length) (s : S) : VCalls Tryz.prog 39 [.str l, .int .i64 (i : Int)] s (fun v s' => v = .tup (skipV (pass l i)) ∧ s' = s) := by
  refine LCalls.pure Tryz.func39 rfl (by kernel_rfl) (by simp [V.dat]) ?_
  repeat' first
    | (refine kOps ?_; first | (refine LOps.nil ?_) | (refine LOps.ev tT_ok rfl ?_))
    | (refine kWL ?_; first | (refine WL.seq ?_) | (refine WL.region (by kernel_rfl) ?_) | (refine WL.block ?_))
    | (refine lthen_n ?_)
  refine WL.loopD (fun k : Nat => l.length - k) (fun k => [(0, .str l), (1, .int .i64 (k : Int))]) (fun _ => []) (fun k => k ≤ l.length ∧ pass l i = pass l k) 0 i ⟨hi, rfl⟩ (fun _ => rfl) ⟨rfl, rfl, trivial⟩ rfl (fun k hk => ?_) (fun k hk => ?_)
  · simp [UnderK, UnderX, V.under, V.underL]
  obtain ⟨hk, hc⟩ := hk
  rcases Nat.lt_or_ge k l.length with hlt | hge
  · have hlt' : (k : Int) < (l.length : Int) := by omega
    have hg : l[k]? = some l[k] := by simp [hlt]
    have hI := fun t => stringsIndexByte_v [32, 9, 10, 13] (by decide) l[k] t
    have hd : l.drop k = l.drop k := rfl
    have w := ws_index l[k]
    have hP1 := fun t => stringsHasPrefix_v (l.drop k) [45, 45] t
    have hP2 := fun t => stringsHasPrefix_v (l.drop k) [47, 42] t
    rw [pre_at2] at hP1 hP2
    have hws : ∀ b, isWs l[k] = b → isWs l[k] = b := fun _ h => h
    generalize Lib.indexByte [32, 9, 10, 13] l[k] = ix at hI w
    cases e : isWs l[k]
    · rw [e] at w
      have w' : ¬ ix ≥ 0 := of_decide_eq_false w
      cases c : at2 l k 45 45
      · rw [c] at hP1
        cases d : at2 l k 47 42
        · rw [d] at hP2
          rw [pass_tok hlt e c d] at hc
          repeat' first
            | (refine kOps ?_; first | (refine LOps.nil ?_) | (refine LOps.ev tT_ok rfl ?_) | (refine kSidx ?_; first | (refine LOps.ans (AnsL.sidx tT_ok rfl rfl rfl rfl hg) ?_)) | (refine kSlc ?_; first | (refine LOps.ans (AnsL.slcFrom tT_ok rfl rfl rfl rfl hk rfl) ?_)) | (refine kCallN 65 ?_; first | (refine LOps.ans (AnsL.callP rfl rfl rfl (ok65) (hI _)) ?_)) | (refine kCallN 66 ?_; first | (refine LOps.ans (AnsL.callP rfl rfl rfl (ok66) (hP1 _)) ?_) | (refine LOps.ans (AnsL.callP rfl rfl rfl (ok66) (hP2 _)) ?_)))
            | (refine kWL ?_; first | (refine WL.seq ?_) | (refine WL.region (by kernel_rfl) ?_) | (refine WL.block ?_) | (refine WL.skip ?_) | (refine WL.ret ?_) | (refine kCond ?_; first | (refine WL.condF rfl ?_) | (refine WL.condT' rfl ?_ ?_; (focus (first | (exact decide_eq_true (by assumption))))) | (refine WL.condF' rfl ?_ ?_; (focus (first | (assumption))))))
            | (refine lthen_n ?_)
            | (refine lthen_r ?_)
            | (refine lblock_r ?_)
            | (refine lbackD_r ?_)
            | (refine LPost.r2 (r := .tmp 4) (r' := .tmp 5) (.inl rfl) (Res1.tmp rfl) (Res1.tmp rfl) ?_)
            | (refine PureR.mk ?_)
          rw [hc, skipV_pos]; rfl
        · rw [d] at hP2
          have hk2 : k + 2 ≤ l.length := by
            simp only [at2, Bool.and_eq_true, decide_eq_true_eq] at d
            have := (List.getElem?_eq_some_iff.1 d.2).1
            omega
          have hX := fun t => stringsIndex_v (l.drop (k + 2)) [42, 47] (by rw [List.length_drop]; omega) t
          rw [index_seekC] at hX
          have hd2 : (l.drop k).drop 2 = l.drop (k + 2) := by rw [List.drop_drop]
          have hk3 : 2 ≤ (l.drop k).length := by rw [List.length_drop]; omega
          cases q : seekC (l.drop (k + 2)) with
          | none =>
            rw [q] at hX
            dsimp only at hX
            rw [pass_open hlt e c d q] at hc
            repeat' first
              | (refine kOps ?_; first | (refine LOps.nil ?_) | (refine LOps.ev tT_ok rfl ?_) | (refine kSidx ?_; first | (refine LOps.ans (AnsL.sidx tT_ok rfl rfl rfl rfl hg) ?_)) | (refine kSlc ?_; first | (refine LOps.ans (AnsL.slcFrom tT_ok rfl rfl rfl rfl hk rfl) ?_) | (refine LOps.ans (AnsL.slcFrom (n := 2) tT_ok rfl rfl rfl rfl hk3 hd2) ?_)) | (refine kCallN 65 ?_; first | (refine LOps.ans (AnsL.callP rfl rfl rfl (ok65) (hI _)) ?_)) | (refine kCallN 66 ?_; first | (refine LOps.ans (AnsL.callP rfl rfl rfl (ok66) (hP1 _)) ?_) | (refine LOps.ans (AnsL.callP rfl rfl rfl (ok66) (hP2 _)) ?_)) | (refine kCallN 67 ?_; first | (refine LOps.ans (AnsL.callP rfl rfl rfl (ok67) (hX _)) ?_)))
              | (refine kWL ?_; first | (refine WL.seq ?_) | (refine WL.region (by kernel_rfl) ?_) | (refine WL.block ?_) | (refine WL.skip ?_) | (refine WL.ret ?_) | (refine kCond ?_; first | (refine WL.condT rfl ?_) | (refine WL.condF rfl ?_) | (refine WL.condT' rfl ?_ ?_; (focus (first | (exact decide_eq_true (by assumption))))) | (refine WL.condF' rfl ?_ ?_; (focus (first | (assumption))))))
              | (refine lthen_n ?_)
              | (refine lthen_r ?_)
              | (refine lblock_r ?_)
              | (refine lbackD_r ?_)
              | (refine LPost.r2 (r := .tmp 4) (r' := .tmp 5) (.inl rfl) (Res1.tmp rfl) (Res1.tmp rfl) ?_)
              | (refine PureR.mk ?_)
            rw [hc, skipV_neg]; rfl
          | some m =>
            rw [q] at hX
            dsimp only at hX
            have hm := seekC_lt q
            rw [List.length_drop] at hm
            rw [pass_com hlt e c d q] at hc
            repeat' first
              | (refine kOps ?_; first | (refine LOps.nil ?_) | (refine LOps.ev tT_ok rfl ?_) | (refine kBin ?_; first | (refine LOps.ans (AnsL.add rfl rfl ?_) ?_; (focus (constructor <;> omega)))) | (refine kSidx ?_; first | (refine LOps.ans (AnsL.sidx tT_ok rfl rfl rfl rfl hg) ?_)) | (refine kSlc ?_; first | (refine LOps.ans (AnsL.slcFrom tT_ok rfl rfl rfl rfl hk rfl) ?_) | (refine LOps.ans (AnsL.slcFrom (n := 2) tT_ok rfl rfl rfl rfl hk3 hd2) ?_)) | (refine kCallN 65 ?_; first | (refine LOps.ans (AnsL.callP rfl rfl rfl (ok65) (hI _)) ?_)) | (refine kCallN 66 ?_; first | (refine LOps.ans (AnsL.callP rfl rfl rfl (ok66) (hP1 _)) ?_) | (refine LOps.ans (AnsL.callP rfl rfl rfl (ok66) (hP2 _)) ?_)) | (refine kCallN 67 ?_; first | (refine LOps.ans (AnsL.callP rfl rfl rfl (ok67) (hX _)) ?_)))
              | (refine kWL ?_; first | (refine WL.seq ?_) | (refine WL.region (by kernel_rfl) ?_) | (refine WL.block ?_) | (refine WL.skip ?_) | (refine kCond ?_; first | (refine WL.condT rfl ?_) | (refine WL.condF rfl ?_) | (refine WL.condT' rfl ?_ ?_; (focus (first | (exact decide_eq_true (by assumption))))) | (refine WL.condF' rfl ?_ ?_; (focus (first | (assumption))))))
              | (refine lthen_n ?_)
              | (refine lblock_n ?_)
            all_goals
              refine lbackD.of (k + 2 + m + 2) ?_ ?_ ?_ ?_
              · first | omega | (refine ⟨?_, ?_⟩; (focus (first | omega | (simp; omega))); (first | omega | (simp_all [hc] <;> fail) | (simp_all [hc]; omega))) | (simp_all [hc] <;> fail) | (simp_all [hc]; omega)
              · first | omega | (simp; omega) | simp_all
              · repeat' first
                  | exact SubL.nil
                  | (refine SubL.mk rfl ?_ ?_)
                  | rfl
                  | (simp [hc] <;> fail)
                  | (simp [hc]; omega)
              · first | rfl | (simp [hc] <;> fail) | (simp [hc]; omega)
      · rw [c] at hP1
        have hX := fun t => stringsIndexByte_v (l.drop k) (by rw [List.length_drop]; omega) 10 t
        have hz := pass_line hlt e c
        have hb : l[k] = 45 := by
          simp only [at2, Bool.and_eq_true, decide_eq_true_eq, hg, Option.some.injEq] at c
          exact c.1
        have hst := seek_step (p := fun b => decide (b = 10)) hlt (by rw [hb]; rfl)
        rcases indexByte_seek 10 (l.drop k) with ⟨q1, q2⟩ | ⟨q1, q2⟩
        · rw [q1] at hX
          rw [hz, q2, List.length_drop, show k + (l.length - k) = l.length by omega, pass_end (Nat.le_refl _)] at hc
          repeat' first
            | (refine kOps ?_; first | (refine LOps.nil ?_) | (refine LOps.ev tT_ok rfl ?_) | (refine kSidx ?_; first | (refine LOps.ans (AnsL.sidx tT_ok rfl rfl rfl rfl hg) ?_)) | (refine kSlc ?_; first | (refine LOps.ans (AnsL.slcFrom tT_ok rfl rfl rfl rfl hk rfl) ?_)) | (refine kCallN 65 ?_; first | (refine LOps.ans (AnsL.callP rfl rfl rfl (ok65) (hI _)) ?_) | (refine LOps.ans (AnsL.callP rfl rfl rfl (ok65) (hX _)) ?_)) | (refine kCallN 66 ?_; first | (refine LOps.ans (AnsL.callP rfl rfl rfl (ok66) (hP1 _)) ?_)))
            | (refine kWL ?_; first | (refine WL.seq ?_) | (refine WL.region (by kernel_rfl) ?_) | (refine WL.block ?_) | (refine WL.skip ?_) | (refine WL.ret ?_) | (refine kCond ?_; first | (refine WL.condT rfl ?_) | (refine WL.condT' rfl ?_ ?_; (focus (first | (exact decide_eq_true (by assumption))))) | (refine WL.condF' rfl ?_ ?_; (focus (first | (assumption))))))
            | (refine lthen_n ?_)
            | (refine lthen_r ?_)
            | (refine lblock_r ?_)
            | (refine lbackD_r ?_)
            | (refine LPost.r2 (r := .tmp 4) (r' := .tmp 5) (.inl rfl) (Res1.tmp rfl) (Res1.tmp rfl) ?_)
            | (refine PureR.mk ?_)
          rw [hc, skipV_pos]; rfl
        · rw [q1] at hX
          have ha : l[k + seek (fun b => decide (b = 10)) (l.drop k)]? = some 10 := by
            rw [← List.getElem?_drop, List.getElem?_eq_getElem q2]
            have := seek_at (fun b => decide (b = 10)) (l.drop k) q2
            rw [of_decide_eq_true this]
          rw [List.length_drop] at q2
          rw [hz] at hc
          generalize seek (fun b => decide (b = 10)) (l.drop k) = m at hX hc ha q2 hst
          have hlm : k + m < l.length := by omega
          have hw2 : isWs l[k + m] = true := by
            rw [List.getElem?_eq_getElem hlm] at ha
            rw [Option.some.inj ha]; rfl
          rw [pass_ws hlm hw2] at hc
          repeat' first
            | (refine kOps ?_; first | (refine LOps.nil ?_) | (refine LOps.ev tT_ok rfl ?_) | (refine kBin ?_; first | (refine LOps.ans (AnsL.add rfl rfl ?_) ?_; (focus (constructor <;> omega)))) | (refine kSidx ?_; first | (refine LOps.ans (AnsL.sidx tT_ok rfl rfl rfl rfl hg) ?_)) | (refine kSlc ?_; first | (refine LOps.ans (AnsL.slcFrom tT_ok rfl rfl rfl rfl hk rfl) ?_)) | (refine kCallN 65 ?_; first | (refine LOps.ans (AnsL.callP rfl rfl rfl (ok65) (hI _)) ?_) | (refine LOps.ans (AnsL.callP rfl rfl rfl (ok65) (hX _)) ?_)) | (refine kCallN 66 ?_; first | (refine LOps.ans (AnsL.callP rfl rfl rfl (ok66) (hP1 _)) ?_)))
            | (refine kWL ?_; first | (refine WL.seq ?_) | (refine WL.region (by kernel_rfl) ?_) | (refine WL.block ?_) | (refine WL.skip ?_) | (refine kCond ?_; first | (refine WL.condT rfl ?_) | (refine WL.condF rfl ?_) | (refine WL.condT' rfl ?_ ?_; (focus (first | (exact decide_eq_true (by assumption))))) | (refine WL.condF' rfl ?_ ?_; (focus (first | (assumption))))))
            | (refine lthen_n ?_)
            | (refine lblock_n ?_)
          all_goals
            refine lbackD.of (k + m + 1) ?_ ?_ ?_ ?_
            · first | omega | (refine ⟨?_, ?_⟩; (focus (first | omega | (simp; omega))); (first | omega | (simp_all [hc] <;> fail) | (simp_all [hc]; omega))) | (simp_all [hc] <;> fail) | (simp_all [hc]; omega)
            · first | omega | (simp; omega) | simp_all
            · repeat' first
                | exact SubL.nil
                | (refine SubL.mk rfl ?_ ?_)
                | rfl
                | (simp [hc] <;> fail)
                | (simp [hc]; omega)
            · first | rfl | (simp [hc] <;> fail) | (simp [hc]; omega)
    · rw [e] at w
      have w' : ix ≥ 0 := of_decide_eq_true w
      rw [pass_ws hlt e] at hc
      repeat' first
        | (refine kOps ?_; first | (refine LOps.nil ?_) | (refine LOps.ev tT_ok rfl ?_) | (refine kBin ?_; first | (refine LOps.ans (AnsL.add rfl rfl ?_) ?_; (focus (constructor <;> omega)))) | (refine kSidx ?_; first | (refine LOps.ans (AnsL.sidx tT_ok rfl rfl rfl rfl hg) ?_)) | (refine kSlc ?_; first | (refine LOps.ans (AnsL.slcFrom tT_ok rfl rfl rfl rfl hk rfl) ?_)) | (refine kCallN 65 ?_; first | (refine LOps.ans (AnsL.callP rfl rfl rfl (ok65) (hI _)) ?_)))
        | (refine kWL ?_; first | (refine WL.seq ?_) | (refine WL.region (by kernel_rfl) ?_) | (refine WL.block ?_) | (refine WL.skip ?_) | (refine kCond ?_; first | (refine WL.condT' rfl ?_ ?_; (focus (first | (assumption) | (exact decide_eq_true (by assumption)))))))
        | (refine lthen_n ?_)
        | (refine lblock_n ?_)
      all_goals
        refine lbackD.of (k + 1) ?_ ?_ ?_ ?_
        · first | omega | (refine ⟨?_, ?_⟩; (focus (first | omega | (simp; omega))); (first | omega | (simp_all [hc] <;> fail) | (simp_all [hc]; omega))) | (simp_all [hc] <;> fail) | (simp_all [hc]; omega)
        · first | omega | (simp; omega) | simp_all
        · repeat' first
            | exact SubL.nil
            | (refine SubL.mk rfl ?_ ?_)
            | rfl
            | (simp [hc] <;> fail)
            | (simp [hc]; omega)
        · first | rfl | (simp [hc] <;> fail) | (simp [hc]; omega)
  · have hlt' : ¬ (k : Int) < (l.length : Int) := by omega
    rw [pass_end hge] at hc
    repeat' first
      | (refine kOps ?_; first | (refine LOps.nil ?_) | (refine LOps.ev tT_ok rfl ?_))
      | (refine kWL ?_; first | (refine WL.seq ?_) | (refine WL.region (by kernel_rfl) ?_) | (refine WL.exit ?_) | (refine WL.ret ?_) | (refine kCond ?_; first | (refine WL.condF' rfl ?_ ?_; (focus (first | (exact decide_eq_false (by assumption)))))))
      | (refine lthen_n ?_)
      | (refine lthen_e ?_)
      | (refine lblock_e ?_)
      | (refine lbackD_e ?_)
      | (refine LPost.r2 (r := .tmp 4) (r' := .tmp 5) (.inl rfl) (Res1.tmp rfl) (Res1.tmp rfl) ?_)
      | (refine PureR.mk ?_)
    rw [hc, skipV_pos]; rfl

end Go.Proofs.YtbnbmcplmipgdaaGreatDoor
