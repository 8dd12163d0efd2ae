/-
  One token of a source, of the reference. Own work; no condition.
-/
import Derived.Test.YtbnbmcplmipgdaaGreatDoorDLexU
import Derived.Test.YtbnbmcplmipgdaaGreatDoorVPtr
namespace Go.Proofs.YtbnbmcplmipgdaaGreatDoor
open Go
set_option linter.unusedSimpArgs false
set_option linter.unusedVariables false

/-- What the reference takes for a token, and the place behind it. -/
def oneC (l : List UInt8) (i : Nat) (b : UInt8) : Token × Option Nat :=
  if ltrI (b.toNat : Int) = true then (if keyI (fold (wordT l i)) ≠ 0 then (⟨1, fold (wordT l i), i⟩, some (runE l i)) else (⟨2, wordT l i, i⟩, some (runE l i)))
  else if figI (b.toNat : Int) = true then (⟨3, wordT l i, i⟩, some (runE l i))
  else if b = 34 then match quotS 34 (l.drop (i + 1)) with
    | some x => (⟨2, x.1, i⟩, some (i + 1 + x.2))
    | none => (⟨2, [], i⟩, none)
  else if b = 39 then match quotS 39 (l.drop (i + 1)) with
    | some x => (⟨4, x.1, i⟩, some (i + 1 + x.2))
    | none => (⟨4, [], i⟩, none)
  else (⟨5, sgnT l i, i⟩, some (i + (sgnT l i).length))
def oneK (num : List UInt8 → Bool) (c : Token × Option Nat) : Option (Token × Nat) := match c.2 with
  | some e => chkT num c.1 e
  | none => none
theorem oneB_C (num : List UInt8 → Bool) (l : List UInt8) (i : Nat) (b : UInt8) : oneB num l i b = oneK num (oneC l i b) := by
  unfold oneB oneC
  split
  · split <;> rfl
  · split
    · rfl
    · split
      · cases quotS 34 (l.drop (i + 1)) <;> rfl
      · split
        · cases quotS 39 (l.drop (i + 1)) <;> rfl
        · rfl
def oneW (c : Token) : Option (Token × Nat) → V
  | some x => .tup [x.1.toV, .int .i64 (x.2 : Int)]
  | none => .tup [c.toV, .int .i64 (-1)]
@[simp] theorem oneW_dat (c : Token) (o : Option (Token × Nat)) : (oneW c o).dat = true := by
  cases o <;> simp [oneW, V.dat, V.datL]
theorem word_slc {l : List UInt8} {i : Nat} (hi : i < l.length) : i ≤ runE l i ∧ runE l i ≤ l.length := by
  refine ⟨?_, runE_le l i (by omega)⟩
  unfold runE; omega
theorem word_len {l : List UInt8} {i : Nat} (hl : l.length ≤ 1048576) : (wordT l i).length ≤ 1048576 := by
  unfold wordT
  rw [List.length_drop, List.length_take]
  omega
theorem quot_len {q : UInt8} : ∀ {n : Nat} {l : List UInt8} {x : List UInt8 × Nat}, l.length ≤ n → quotS q l = some x → x.1.length ≤ l.length
  | _, [], x, _, h => by cases h
  | 0, b :: l, x, hn, h => by simp at hn
  | n + 1, b :: l, x, hn, h => by
    by_cases hb : b = q
    · subst hb
      cases l with
      | nil => rw [quotS_end] at h; cases h; simp
      | cons c l =>
        by_cases hc : c = b
        · subst hc
          rw [quotS_two] at h
          obtain ⟨y, hy, rfl⟩ := Option.map_eq_some_iff.1 h
          have := quot_len (n := n) (by simp at hn; omega) hy
          simp only [List.length_cons]
          omega
        · rw [quotS_stop hc] at h; cases h; simp
    · rw [quotS_ne hb] at h
      obtain ⟨y, hy, rfl⟩ := Option.map_eq_some_iff.1 h
      have := quot_len (n := n) (by simpa using hn) hy
      simp only [List.length_cons]
      omega
theorem quot_len' {q : UInt8} {l : List UInt8} {a : Nat} {x : List UInt8 × Nat} (hl : l.length ≤ 1048576) (h : quotS q (l.drop a) = some x) : x.1.length ≤ 1048576 := by
  have := quot_len (Nat.le_refl _) h
  rw [List.length_drop] at this
  omega
theorem sgn_len {l : List UInt8} {i : Nat} (hl : l.length ≤ 1048576) (hi : i < l.length) : (sgnT l i).length ≤ 1048576 := by
  have := sgnT_len hi
  omega
theorem two_slc {l : List UInt8} {i : Nat} (h : i + 2 ≤ l.length) : (l.take (i + 2)).drop i = two l i := by
  unfold two
  rw [List.drop_take, Nat.add_sub_cancel_left]
theorem specl3Quoted_v (l : List UInt8) (hl : l.length ≤ 1048576) (a : Nat) (ha : a < l.length) (s : S) : VCalls Tryz.prog 61 [.str l, .int .i64 (a : Int)] s (fun v s' => v = quotV l a (quotS l[a] (l.drop (a + 1))) ∧ s' = s) := by
  have h := fun s : S => specl3Quoted_b l hl a ha (Hold.start s _)
  cases hq : quotS l[a] (l.drop (a + 1)) with
  | none =>
    simp only [hq] at h
    exact VCalls.pureS (us := [.str [], .int .i64 (-1)]) rfl rfl rfl (fun s => (h s).mono fun v t e => e.1) s
  | some x =>
    simp only [hq] at h
    exact VCalls.pureS (us := [.str x.1, .int .i64 ((a + 1 + x.2 : Nat) : Int)]) rfl rfl rfl (fun s => (h s).mono fun v t e => e.1) s
set_option maxHeartbeats 4000000 in
theorem specl3One_v (l : List UInt8) (hl : l.length ≤ 1048576) (i : Nat) (hi : i < l.length) (s : S) : VCalls Tryz.prog 28 [.str l, .int .i64 (i : Int)] s (fun v s' => v = oneW (oneC l i l[i]).1 (oneB numS l i l[i]) ∧ s' = s) := by
  have hg : l[i]? = some l[i] := by simp [hi]
  have hR := fun u => specl3Run_v l hl i (by omega) u
  have hQ := fun u => specl3Quoted_v l hl i hi u
  have hL := fun u => specl2Letter_v (l[i].toNat : Int) u
  have hF := fun u => specl2Figure_v (l[i].toNat : Int) u
  obtain ⟨r1, r2⟩ := word_slc hi
  have hw : (l.take (runE l i)).drop i = wordT l i := rfl
  have hwl := word_len (i := i) hl
  rw [oneB_C]
  generalize l[i] = b at hg hQ hL hF ⊢
  have hbl := b.toNat_lt
  unfold oneC
  cases c1 : ltrI (b.toNat : Int)
  · rw [c1] at hL
    simp only [Bool.false_eq_true, if_false]
    cases c2 : figI (b.toNat : Int)
    · rw [c2] at hF
      simp only [Bool.false_eq_true, if_false]
      by_cases c3 : b = 34
      · subst c3
        rw [if_pos rfl]
        cases hq : quotS 34 (l.drop (i + 1)) with
        | none =>
          rw [hq] at hQ
          dsimp only [oneK, oneW]
          refine LCalls.pure Tryz.func28 rfl (by kernel_rfl) (by simp) ?_
          repeat' first
            | (refine kOps ?_; first | (refine LOps.nil ?_) | (refine kG ?_; first | (refine LOps.gF rfl rfl rfl ?_)) | (refine kStore ?_; refine LOps.storeP tT_ok rfl rfl rfl rfl rfl rfl rfl rfl rfl ?_) | (refine LOps.ev tT_ok rfl ?_) | (refine kAlloc ?_; refine LOps.alloc tT_ok rfl rfl rfl rfl ?_) | (refine kLoad ?_; first | (refine LOps.ans (AnsL.loadP tT_ok rfl rfl rfl rfl) ?_)) | (refine kBin ?_; first | (refine LOps.ans (AnsL.add rfl rfl ?_) ?_; (focus (constructor <;> omega)))) | (refine kSidx ?_; first | (refine LOps.ans (AnsL.sidx tT_ok rfl rfl rfl rfl hg) ?_)) | (refine kCallN 56 ?_; first | (refine LOps.ans (AnsL.callP rfl rfl rfl (ok56) (hL _)) ?_)) | (refine kCallN 60 ?_; first | (refine LOps.ans (AnsL.callP rfl rfl rfl (ok60) (hF _)) ?_)) | (refine kCallN 61 ?_; first | (refine LOps.ans (AnsL.callP rfl rfl rfl (ok61) (hQ _)) ?_)))
            | (refine kWL ?_; first | (refine WL.seq ?_) | (refine WL.region (by kernel_rfl) ?_) | (refine WL.block ?_) | (refine WL.ret ?_) | (refine kCond ?_; first | (refine WL.condT rfl ?_) | (refine WL.condF rfl ?_)))
            | (refine lthen_n ?_)
            | (refine lthen_r ?_)
            | (refine lblock_n ?_)
            | (refine LPost.r2 (r := .cell 4 58) (r' := .tmp 5) (.inl rfl) (Res1.cell tT_ok rfl rfl rfl rfl) (Res1.tmp rfl) ?_)
            | (refine PureR.mk ?_)
          rfl
        | some x =>
          obtain ⟨x1, x2⟩ := x
          have hxl : x1.length ≤ 1048576 := quot_len' hl hq
          rw [hq] at hQ
          dsimp only [oneK, chkT]
          have hT := fun u => specTokenOk_v ⟨2, x1, i⟩ hxl u
          dsimp only [quotV] at hQ
          generalize tokOk numS ⟨2, x1, i⟩ = ok at hT ⊢
          generalize i + 1 + x2 = e at hQ ⊢
          cases ok
          · rw [if_neg (by decide)]
            dsimp only [oneW]
            refine LCalls.pure Tryz.func28 rfl (by kernel_rfl) (by simp) ?_
            repeat' first
              | (refine kOps ?_; first | (refine LOps.nil ?_) | (refine kG ?_; first | (refine LOps.gT rfl rfl rfl ?_)) | (refine kStore ?_; refine LOps.storeP tT_ok rfl rfl rfl rfl rfl rfl rfl rfl rfl ?_) | (refine LOps.ev tT_ok rfl ?_) | (refine kAlloc ?_; refine LOps.alloc tT_ok rfl rfl rfl rfl ?_) | (refine kLoad ?_; first | (refine LOps.ans (AnsL.loadP tT_ok rfl rfl rfl rfl) ?_)) | (refine kBin ?_; first | (refine LOps.ans (AnsL.add rfl rfl ?_) ?_; (focus (constructor <;> omega)))) | (refine kSidx ?_; first | (refine LOps.ans (AnsL.sidx tT_ok rfl rfl rfl rfl hg) ?_)) | (refine kCallN 56 ?_; first | (refine LOps.ans (AnsL.callP rfl rfl rfl (ok56) (hL _)) ?_)) | (refine kCallN 60 ?_; first | (refine LOps.ans (AnsL.callP rfl rfl rfl (ok60) (hF _)) ?_)) | (refine kCallN 61 ?_; first | (refine LOps.ans (AnsL.callP rfl rfl rfl (ok61) (hQ _)) ?_)) | (refine kCallN 63 ?_; first | (refine LOps.ans (AnsL.callP rfl rfl rfl (ok63) (hT _)) ?_)))
              | (refine kWL ?_; first | (refine WL.seq ?_) | (refine WL.region (by kernel_rfl) ?_) | (refine WL.block ?_) | (refine WL.ret ?_) | (refine kCond ?_; first | (refine WL.condT rfl ?_) | (refine WL.condF rfl ?_)))
              | (refine lthen_n ?_)
              | (refine lthen_r ?_)
              | (refine lblock_n ?_)
              | (refine LPost.r2 (r := .cell 4 58) (r' := .tmp 5) (.inl rfl) (Res1.cell tT_ok rfl rfl rfl rfl) (Res1.tmp rfl) ?_)
              | (refine PureR.mk ?_)
            rfl
          · rw [if_pos rfl]
            dsimp only [oneW]
            refine LCalls.pure Tryz.func28 rfl (by kernel_rfl) (by simp) ?_
            repeat' first
              | (refine kOps ?_; first | (refine LOps.nil ?_) | (refine kG ?_; first | (refine LOps.gT rfl rfl rfl ?_)) | (refine kStore ?_; refine LOps.storeP tT_ok rfl rfl rfl rfl rfl rfl rfl rfl rfl ?_) | (refine LOps.ev tT_ok rfl ?_) | (refine kAlloc ?_; refine LOps.alloc tT_ok rfl rfl rfl rfl ?_) | (refine kLoad ?_; first | (refine LOps.ans (AnsL.loadP tT_ok rfl rfl rfl rfl) ?_)) | (refine kBin ?_; first | (refine LOps.ans (AnsL.add rfl rfl ?_) ?_; (focus (constructor <;> omega)))) | (refine kSidx ?_; first | (refine LOps.ans (AnsL.sidx tT_ok rfl rfl rfl rfl hg) ?_)) | (refine kCallN 56 ?_; first | (refine LOps.ans (AnsL.callP rfl rfl rfl (ok56) (hL _)) ?_)) | (refine kCallN 60 ?_; first | (refine LOps.ans (AnsL.callP rfl rfl rfl (ok60) (hF _)) ?_)) | (refine kCallN 61 ?_; first | (refine LOps.ans (AnsL.callP rfl rfl rfl (ok61) (hQ _)) ?_)) | (refine kCallN 63 ?_; first | (refine LOps.ans (AnsL.callP rfl rfl rfl (ok63) (hT _)) ?_)))
              | (refine kWL ?_; first | (refine WL.seq ?_) | (refine WL.region (by kernel_rfl) ?_) | (refine WL.block ?_) | (refine WL.skip ?_) | (refine WL.ret ?_) | (refine kCond ?_; first | (refine WL.condT rfl ?_) | (refine WL.condF rfl ?_)))
              | (refine lthen_n ?_)
              | (refine lblock_n ?_)
              | (refine LPost.r2 (r := .cell 4 58) (r' := .tmp 5) (.inl rfl) (Res1.cell tT_ok rfl rfl rfl rfl) (Res1.tmp rfl) ?_)
              | (refine PureR.mk ?_)
            rfl

      rw [if_neg c3]
      have c3' : ¬ (b.toNat : Int) = 34 := fun h => c3 (UInt8.toNat_inj.1 (by have : (34 : UInt8).toNat = 34 := rfl; omega))
      by_cases c4 : b = 39
      · subst c4
        rw [if_pos rfl]
        cases hq : quotS 39 (l.drop (i + 1)) with
        | none =>
          rw [hq] at hQ
          dsimp only [oneK, oneW]
          refine LCalls.pure Tryz.func28 rfl (by kernel_rfl) (by simp) ?_
          repeat' first
            | (refine kOps ?_; first | (refine LOps.nil ?_) | (refine kG ?_; first | (refine LOps.gF rfl rfl rfl ?_)) | (refine kStore ?_; refine LOps.storeP tT_ok rfl rfl rfl rfl rfl rfl rfl rfl rfl ?_) | (refine LOps.ev tT_ok rfl ?_) | (refine kAlloc ?_; refine LOps.alloc tT_ok rfl rfl rfl rfl ?_) | (refine kLoad ?_; first | (refine LOps.ans (AnsL.loadP tT_ok rfl rfl rfl rfl) ?_)) | (refine kBin ?_; first | (refine LOps.ans (AnsL.add rfl rfl ?_) ?_; (focus (constructor <;> omega)))) | (refine kSidx ?_; first | (refine LOps.ans (AnsL.sidx tT_ok rfl rfl rfl rfl hg) ?_)) | (refine kCallN 56 ?_; first | (refine LOps.ans (AnsL.callP rfl rfl rfl (ok56) (hL _)) ?_)) | (refine kCallN 60 ?_; first | (refine LOps.ans (AnsL.callP rfl rfl rfl (ok60) (hF _)) ?_)) | (refine kCallN 61 ?_; first | (refine LOps.ans (AnsL.callP rfl rfl rfl (ok61) (hQ _)) ?_)))
            | (refine kWL ?_; first | (refine WL.seq ?_) | (refine WL.region (by kernel_rfl) ?_) | (refine WL.block ?_) | (refine WL.ret ?_) | (refine kCond ?_; first | (refine WL.condT rfl ?_) | (refine WL.condF rfl ?_)))
            | (refine lthen_n ?_)
            | (refine lthen_r ?_)
            | (refine lblock_n ?_)
            | (refine LPost.r2 (r := .cell 4 58) (r' := .tmp 5) (.inl rfl) (Res1.cell tT_ok rfl rfl rfl rfl) (Res1.tmp rfl) ?_)
            | (refine PureR.mk ?_)
          rfl
        | some x =>
          obtain ⟨x1, x2⟩ := x
          have hxl : x1.length ≤ 1048576 := quot_len' hl hq
          rw [hq] at hQ
          dsimp only [oneK, chkT]
          have hT := fun u => specTokenOk_v ⟨4, x1, i⟩ hxl u
          dsimp only [quotV] at hQ
          generalize tokOk numS ⟨4, x1, i⟩ = ok at hT ⊢
          generalize i + 1 + x2 = e at hQ ⊢
          cases ok
          · rw [if_neg (by decide)]
            dsimp only [oneW]
            refine LCalls.pure Tryz.func28 rfl (by kernel_rfl) (by simp) ?_
            repeat' first
              | (refine kOps ?_; first | (refine LOps.nil ?_) | (refine kG ?_; first | (refine LOps.gT rfl rfl rfl ?_)) | (refine kStore ?_; refine LOps.storeP tT_ok rfl rfl rfl rfl rfl rfl rfl rfl rfl ?_) | (refine LOps.ev tT_ok rfl ?_) | (refine kAlloc ?_; refine LOps.alloc tT_ok rfl rfl rfl rfl ?_) | (refine kLoad ?_; first | (refine LOps.ans (AnsL.loadP tT_ok rfl rfl rfl rfl) ?_)) | (refine kBin ?_; first | (refine LOps.ans (AnsL.add rfl rfl ?_) ?_; (focus (constructor <;> omega)))) | (refine kSidx ?_; first | (refine LOps.ans (AnsL.sidx tT_ok rfl rfl rfl rfl hg) ?_)) | (refine kCallN 56 ?_; first | (refine LOps.ans (AnsL.callP rfl rfl rfl (ok56) (hL _)) ?_)) | (refine kCallN 60 ?_; first | (refine LOps.ans (AnsL.callP rfl rfl rfl (ok60) (hF _)) ?_)) | (refine kCallN 61 ?_; first | (refine LOps.ans (AnsL.callP rfl rfl rfl (ok61) (hQ _)) ?_)) | (refine kCallN 63 ?_; first | (refine LOps.ans (AnsL.callP rfl rfl rfl (ok63) (hT _)) ?_)))
              | (refine kWL ?_; first | (refine WL.seq ?_) | (refine WL.region (by kernel_rfl) ?_) | (refine WL.block ?_) | (refine WL.ret ?_) | (refine kCond ?_; first | (refine WL.condT rfl ?_) | (refine WL.condF rfl ?_)))
              | (refine lthen_n ?_)
              | (refine lthen_r ?_)
              | (refine lblock_n ?_)
              | (refine LPost.r2 (r := .cell 4 58) (r' := .tmp 5) (.inl rfl) (Res1.cell tT_ok rfl rfl rfl rfl) (Res1.tmp rfl) ?_)
              | (refine PureR.mk ?_)
            rfl
          · rw [if_pos rfl]
            dsimp only [oneW]
            refine LCalls.pure Tryz.func28 rfl (by kernel_rfl) (by simp) ?_
            repeat' first
              | (refine kOps ?_; first | (refine LOps.nil ?_) | (refine kG ?_; first | (refine LOps.gT rfl rfl rfl ?_)) | (refine kStore ?_; refine LOps.storeP tT_ok rfl rfl rfl rfl rfl rfl rfl rfl rfl ?_) | (refine LOps.ev tT_ok rfl ?_) | (refine kAlloc ?_; refine LOps.alloc tT_ok rfl rfl rfl rfl ?_) | (refine kLoad ?_; first | (refine LOps.ans (AnsL.loadP tT_ok rfl rfl rfl rfl) ?_)) | (refine kBin ?_; first | (refine LOps.ans (AnsL.add rfl rfl ?_) ?_; (focus (constructor <;> omega)))) | (refine kSidx ?_; first | (refine LOps.ans (AnsL.sidx tT_ok rfl rfl rfl rfl hg) ?_)) | (refine kCallN 56 ?_; first | (refine LOps.ans (AnsL.callP rfl rfl rfl (ok56) (hL _)) ?_)) | (refine kCallN 60 ?_; first | (refine LOps.ans (AnsL.callP rfl rfl rfl (ok60) (hF _)) ?_)) | (refine kCallN 61 ?_; first | (refine LOps.ans (AnsL.callP rfl rfl rfl (ok61) (hQ _)) ?_)) | (refine kCallN 63 ?_; first | (refine LOps.ans (AnsL.callP rfl rfl rfl (ok63) (hT _)) ?_)))
              | (refine kWL ?_; first | (refine WL.seq ?_) | (refine WL.region (by kernel_rfl) ?_) | (refine WL.block ?_) | (refine WL.skip ?_) | (refine WL.ret ?_) | (refine kCond ?_; first | (refine WL.condT rfl ?_) | (refine WL.condF rfl ?_)))
              | (refine lthen_n ?_)
              | (refine lblock_n ?_)
              | (refine LPost.r2 (r := .cell 4 58) (r' := .tmp 5) (.inl rfl) (Res1.cell tT_ok rfl rfl rfl rfl) (Res1.tmp rfl) ?_)
              | (refine PureR.mk ?_)
            rfl

      rw [if_neg c4]
      have c4' : ¬ (b.toNat : Int) = 39 := fun h => c4 (UInt8.toNat_inj.1 (by have : (39 : UInt8).toNat = 39 := rfl; omega))
      dsimp only [oneK, chkT]
      have hT := fun u => specTokenOk_v ⟨5, sgnT l i, i⟩ (sgn_len hl hi) u
      by_cases c5 : i + 2 ≤ l.length
      · have c5' : (i : Int) + 2 ≤ (l.length : Int) := by omega
        have hS := fun u => specSignOk_v (two l i) u
        have h2 := two_slc c5
        have h2' : (l.take (i + 2)).drop i = two l i := h2
        cases c6 : signOk (two l i)
        · have e : sgnT l i = (l.take (i + 1)).drop i := by unfold sgnT; rw [if_neg (by rw [c6]; simp)]
          have el : (sgnT l i).length = 1 := by rw [e, List.length_drop, List.length_take]; omega
          rw [c6] at hS
          rw [el]
          have e1 := e.symm
          generalize sgnT l i = w at hT e1 ⊢
          generalize two l i = tw at hS h2
          generalize tokOk numS ⟨5, w, i⟩ = ok at hT ⊢
          cases ok
          · rw [if_neg (by decide)]
            dsimp only [oneW]
            refine LCalls.pure Tryz.func28 rfl (by kernel_rfl) (by simp) ?_
            repeat' first
              | (refine kOps ?_; first | (refine LOps.nil ?_) | (refine kG ?_; first | (refine LOps.gT rfl rfl rfl ?_) | (refine LOps.gD true rfl rfl rfl ?_ ?_; (focus (first | (exact decide_eq_true (by assumption)))))) | (refine kStore ?_; refine LOps.storeP tT_ok rfl rfl rfl rfl rfl rfl rfl rfl rfl ?_) | (refine LOps.ev tT_ok rfl ?_) | (refine kAlloc ?_; refine LOps.alloc tT_ok rfl rfl rfl rfl ?_) | (refine kLoad ?_; first | (refine LOps.ans (AnsL.loadP tT_ok rfl rfl rfl rfl) ?_)) | (refine kBin ?_; first | (refine LOps.ans (AnsL.add rfl rfl ?_) ?_; (focus (constructor <;> omega)))) | (refine kSidx ?_; first | (refine LOps.ans (AnsL.sidx tT_ok rfl rfl rfl rfl hg) ?_)) | (refine kSlc ?_; first | (refine LOps.ans (AnsL.slcStr (n := i) (n2 := i + 2) tT_ok rfl rfl rfl rfl rfl ?_ ?_ h2) ?_; (focus (omega)); (focus (omega))) | (refine LOps.ans (AnsL.slcStr (n := i) (n2 := i + 1) tT_ok rfl rfl rfl rfl rfl ?_ ?_ e1) ?_; (focus (omega)); (focus (omega)))) | (refine kCallN 56 ?_; first | (refine LOps.ans (AnsL.callP rfl rfl rfl (ok56) (hL _)) ?_)) | (refine kCallN 60 ?_; first | (refine LOps.ans (AnsL.callP rfl rfl rfl (ok60) (hF _)) ?_)) | (refine kCallN 62 ?_; first | (refine LOps.ans (AnsL.callP rfl rfl rfl (ok62) (hS _)) ?_)) | (refine kCallN 63 ?_; first | (refine LOps.ans (AnsL.callP rfl rfl rfl (ok63) (hT _)) ?_)))
              | (refine kWL ?_; first | (refine WL.seq ?_) | (refine WL.region (by kernel_rfl) ?_) | (refine WL.block ?_) | (refine WL.skip ?_) | (refine WL.ret ?_) | (refine kCond ?_; first | (refine WL.condT rfl ?_) | (refine WL.condF rfl ?_) | (refine WL.condF' rfl ?_ ?_; (focus (first | (exact decide_eq_false (by assumption)))))))
              | (refine lthen_n ?_)
              | (refine lthen_r ?_)
              | (refine lblock_n ?_)
              | (refine LPost.r2 (r := .cell 4 58) (r' := .tmp 5) (.inl rfl) (Res1.cell tT_ok rfl rfl rfl rfl) (Res1.tmp rfl) ?_)
              | (refine PureR.mk ?_)
            rfl
          · rw [if_pos rfl]
            dsimp only [oneW]
            refine LCalls.pure Tryz.func28 rfl (by kernel_rfl) (by simp) ?_
            repeat' first
              | (refine kOps ?_; first | (refine LOps.nil ?_) | (refine kG ?_; first | (refine LOps.gT rfl rfl rfl ?_) | (refine LOps.gD true rfl rfl rfl ?_ ?_; (focus (first | (exact decide_eq_true (by assumption)))))) | (refine kStore ?_; refine LOps.storeP tT_ok rfl rfl rfl rfl rfl rfl rfl rfl rfl ?_) | (refine LOps.ev tT_ok rfl ?_) | (refine kAlloc ?_; refine LOps.alloc tT_ok rfl rfl rfl rfl ?_) | (refine kLoad ?_; first | (refine LOps.ans (AnsL.loadP tT_ok rfl rfl rfl rfl) ?_)) | (refine kBin ?_; first | (refine LOps.ans (AnsL.add rfl rfl ?_) ?_; (focus (constructor <;> omega)))) | (refine kSidx ?_; first | (refine LOps.ans (AnsL.sidx tT_ok rfl rfl rfl rfl hg) ?_)) | (refine kSlc ?_; first | (refine LOps.ans (AnsL.slcStr (n := i) (n2 := i + 2) tT_ok rfl rfl rfl rfl rfl ?_ ?_ h2) ?_; (focus (omega)); (focus (omega))) | (refine LOps.ans (AnsL.slcStr (n := i) (n2 := i + 1) tT_ok rfl rfl rfl rfl rfl ?_ ?_ e1) ?_; (focus (omega)); (focus (omega)))) | (refine kCallN 56 ?_; first | (refine LOps.ans (AnsL.callP rfl rfl rfl (ok56) (hL _)) ?_)) | (refine kCallN 60 ?_; first | (refine LOps.ans (AnsL.callP rfl rfl rfl (ok60) (hF _)) ?_)) | (refine kCallN 62 ?_; first | (refine LOps.ans (AnsL.callP rfl rfl rfl (ok62) (hS _)) ?_)) | (refine kCallN 63 ?_; first | (refine LOps.ans (AnsL.callP rfl rfl rfl (ok63) (hT _)) ?_)))
              | (refine kWL ?_; first | (refine WL.seq ?_) | (refine WL.region (by kernel_rfl) ?_) | (refine WL.block ?_) | (refine WL.skip ?_) | (refine WL.ret ?_) | (refine kCond ?_; first | (refine WL.condF rfl ?_) | (refine WL.condF' rfl ?_ ?_; (focus (first | (exact decide_eq_false (by assumption)))))))
              | (refine lthen_n ?_)
              | (refine lblock_n ?_)
              | (refine LPost.r2 (r := .cell 4 58) (r' := .tmp 5) (.inl rfl) (Res1.cell tT_ok rfl rfl rfl rfl) (Res1.tmp rfl) ?_)
              | (refine PureR.mk ?_)
            rfl

        · have e : sgnT l i = two l i := by unfold sgnT; rw [if_pos ⟨c6, c5⟩]
          have el : (sgnT l i).length = 2 := by rw [e]; unfold two; rw [List.length_take, List.length_drop]; omega
          rw [c6] at hS
          rw [el]
          rw [← e] at h2 hS
          generalize sgnT l i = w at hT h2 hS ⊢
          generalize tokOk numS ⟨5, w, i⟩ = ok at hT ⊢
          cases ok
          · rw [if_neg (by decide)]
            dsimp only [oneW]
            refine LCalls.pure Tryz.func28 rfl (by kernel_rfl) (by simp) ?_
            repeat' first
              | (refine kOps ?_; first | (refine LOps.nil ?_) | (refine kG ?_; first | (refine LOps.gT rfl rfl rfl ?_) | (refine LOps.gD true rfl rfl rfl ?_ ?_; (focus (first | (exact decide_eq_true (by assumption)))))) | (refine kStore ?_; refine LOps.storeP tT_ok rfl rfl rfl rfl rfl rfl rfl rfl rfl ?_) | (refine LOps.ev tT_ok rfl ?_) | (refine kAlloc ?_; refine LOps.alloc tT_ok rfl rfl rfl rfl ?_) | (refine kLoad ?_; first | (refine LOps.ans (AnsL.loadP tT_ok rfl rfl rfl rfl) ?_)) | (refine kBin ?_; first | (refine LOps.ans (AnsL.add rfl rfl ?_) ?_; (focus (constructor <;> omega)))) | (refine kSidx ?_; first | (refine LOps.ans (AnsL.sidx tT_ok rfl rfl rfl rfl hg) ?_)) | (refine kSlc ?_; first | (refine LOps.ans (AnsL.slcStr (n := i) (n2 := i + 2) tT_ok rfl rfl rfl rfl rfl ?_ ?_ h2) ?_; (focus (omega)); (focus (omega)))) | (refine kCallN 56 ?_; first | (refine LOps.ans (AnsL.callP rfl rfl rfl (ok56) (hL _)) ?_)) | (refine kCallN 60 ?_; first | (refine LOps.ans (AnsL.callP rfl rfl rfl (ok60) (hF _)) ?_)) | (refine kCallN 62 ?_; first | (refine LOps.ans (AnsL.callP rfl rfl rfl (ok62) (hS _)) ?_)) | (refine kCallN 63 ?_; first | (refine LOps.ans (AnsL.callP rfl rfl rfl (ok63) (hT _)) ?_)))
              | (refine kWL ?_; first | (refine WL.seq ?_) | (refine WL.region (by kernel_rfl) ?_) | (refine WL.block ?_) | (refine WL.ret ?_) | (refine kCond ?_; first | (refine WL.condT rfl ?_) | (refine WL.condF rfl ?_) | (refine WL.condF' rfl ?_ ?_; (focus (first | (exact decide_eq_false (by assumption)))))))
              | (refine lthen_n ?_)
              | (refine lthen_r ?_)
              | (refine lblock_n ?_)
              | (refine LPost.r2 (r := .cell 4 58) (r' := .tmp 5) (.inl rfl) (Res1.cell tT_ok rfl rfl rfl rfl) (Res1.tmp rfl) ?_)
              | (refine PureR.mk ?_)
            rfl
          · rw [if_pos rfl]
            dsimp only [oneW]
            refine LCalls.pure Tryz.func28 rfl (by kernel_rfl) (by simp) ?_
            repeat' first
              | (refine kOps ?_; first | (refine LOps.nil ?_) | (refine kG ?_; first | (refine LOps.gT rfl rfl rfl ?_) | (refine LOps.gD true rfl rfl rfl ?_ ?_; (focus (first | (exact decide_eq_true (by assumption)))))) | (refine kStore ?_; refine LOps.storeP tT_ok rfl rfl rfl rfl rfl rfl rfl rfl rfl ?_) | (refine LOps.ev tT_ok rfl ?_) | (refine kAlloc ?_; refine LOps.alloc tT_ok rfl rfl rfl rfl ?_) | (refine kLoad ?_; first | (refine LOps.ans (AnsL.loadP tT_ok rfl rfl rfl rfl) ?_)) | (refine kBin ?_; first | (refine LOps.ans (AnsL.add rfl rfl ?_) ?_; (focus (constructor <;> omega)))) | (refine kSidx ?_; first | (refine LOps.ans (AnsL.sidx tT_ok rfl rfl rfl rfl hg) ?_)) | (refine kSlc ?_; first | (refine LOps.ans (AnsL.slcStr (n := i) (n2 := i + 2) tT_ok rfl rfl rfl rfl rfl ?_ ?_ h2) ?_; (focus (omega)); (focus (omega)))) | (refine kCallN 56 ?_; first | (refine LOps.ans (AnsL.callP rfl rfl rfl (ok56) (hL _)) ?_)) | (refine kCallN 60 ?_; first | (refine LOps.ans (AnsL.callP rfl rfl rfl (ok60) (hF _)) ?_)) | (refine kCallN 62 ?_; first | (refine LOps.ans (AnsL.callP rfl rfl rfl (ok62) (hS _)) ?_)) | (refine kCallN 63 ?_; first | (refine LOps.ans (AnsL.callP rfl rfl rfl (ok63) (hT _)) ?_)))
              | (refine kWL ?_; first | (refine WL.seq ?_) | (refine WL.region (by kernel_rfl) ?_) | (refine WL.block ?_) | (refine WL.skip ?_) | (refine WL.ret ?_) | (refine kCond ?_; first | (refine WL.condT rfl ?_) | (refine WL.condF rfl ?_) | (refine WL.condF' rfl ?_ ?_; (focus (first | (exact decide_eq_false (by assumption)))))))
              | (refine lthen_n ?_)
              | (refine lblock_n ?_)
              | (refine LPost.r2 (r := .cell 4 58) (r' := .tmp 5) (.inl rfl) (Res1.cell tT_ok rfl rfl rfl rfl) (Res1.tmp rfl) ?_)
              | (refine PureR.mk ?_)
            rfl

      · have c5' : ¬ (i : Int) + 2 ≤ (l.length : Int) := by omega
        have e : sgnT l i = (l.take (i + 1)).drop i := by unfold sgnT; rw [if_neg (by omega)]
        have el : (sgnT l i).length = 1 := by rw [e, List.length_drop, List.length_take]; omega
        rw [el]
        have e1 := e.symm
        generalize sgnT l i = w at hT e1 ⊢
        generalize tokOk numS ⟨5, w, i⟩ = ok at hT ⊢
        cases ok
        · rw [if_neg (by decide)]
          dsimp only [oneW]
          refine LCalls.pure Tryz.func28 rfl (by kernel_rfl) (by simp) ?_
          repeat' first
            | (refine kOps ?_; first | (refine LOps.nil ?_) | (refine kG ?_; first | (refine LOps.gT rfl rfl rfl ?_) | (refine LOps.gF rfl rfl rfl ?_) | (refine LOps.gD false rfl rfl rfl ?_ ?_; (focus (first | (exact decide_eq_false (by assumption)))))) | (refine kStore ?_; refine LOps.storeP tT_ok rfl rfl rfl rfl rfl rfl rfl rfl rfl ?_) | (refine LOps.ev tT_ok rfl ?_) | (refine kAlloc ?_; refine LOps.alloc tT_ok rfl rfl rfl rfl ?_) | (refine kLoad ?_; first | (refine LOps.ans (AnsL.loadP tT_ok rfl rfl rfl rfl) ?_)) | (refine kBin ?_; first | (refine LOps.ans (AnsL.add rfl rfl ?_) ?_; (focus (constructor <;> omega)))) | (refine kSidx ?_; first | (refine LOps.ans (AnsL.sidx tT_ok rfl rfl rfl rfl hg) ?_)) | (refine kSlc ?_; first | (refine LOps.ans (AnsL.slcStr (n := i) (n2 := i + 1) tT_ok rfl rfl rfl rfl rfl ?_ ?_ e1) ?_; (focus (omega)); (focus (omega)))) | (refine kCallN 56 ?_; first | (refine LOps.ans (AnsL.callP rfl rfl rfl (ok56) (hL _)) ?_)) | (refine kCallN 60 ?_; first | (refine LOps.ans (AnsL.callP rfl rfl rfl (ok60) (hF _)) ?_)) | (refine kCallN 63 ?_; first | (refine LOps.ans (AnsL.callP rfl rfl rfl (ok63) (hT _)) ?_)))
            | (refine kWL ?_; first | (refine WL.seq ?_) | (refine WL.region (by kernel_rfl) ?_) | (refine WL.block ?_) | (refine WL.skip ?_) | (refine WL.ret ?_) | (refine kCond ?_; first | (refine WL.condT rfl ?_) | (refine WL.condF rfl ?_) | (refine WL.condF' rfl ?_ ?_; (focus (first | (exact decide_eq_false (by assumption)))))))
            | (refine lthen_n ?_)
            | (refine lthen_r ?_)
            | (refine lblock_n ?_)
            | (refine LPost.r2 (r := .cell 4 58) (r' := .tmp 5) (.inl rfl) (Res1.cell tT_ok rfl rfl rfl rfl) (Res1.tmp rfl) ?_)
            | (refine PureR.mk ?_)
          rfl
        · rw [if_pos rfl]
          dsimp only [oneW]
          refine LCalls.pure Tryz.func28 rfl (by kernel_rfl) (by simp) ?_
          repeat' first
            | (refine kOps ?_; first | (refine LOps.nil ?_) | (refine kG ?_; first | (refine LOps.gT rfl rfl rfl ?_) | (refine LOps.gF rfl rfl rfl ?_) | (refine LOps.gD false rfl rfl rfl ?_ ?_; (focus (first | (exact decide_eq_false (by assumption)))))) | (refine kStore ?_; refine LOps.storeP tT_ok rfl rfl rfl rfl rfl rfl rfl rfl rfl ?_) | (refine LOps.ev tT_ok rfl ?_) | (refine kAlloc ?_; refine LOps.alloc tT_ok rfl rfl rfl rfl ?_) | (refine kLoad ?_; first | (refine LOps.ans (AnsL.loadP tT_ok rfl rfl rfl rfl) ?_)) | (refine kBin ?_; first | (refine LOps.ans (AnsL.add rfl rfl ?_) ?_; (focus (constructor <;> omega)))) | (refine kSidx ?_; first | (refine LOps.ans (AnsL.sidx tT_ok rfl rfl rfl rfl hg) ?_)) | (refine kSlc ?_; first | (refine LOps.ans (AnsL.slcStr (n := i) (n2 := i + 1) tT_ok rfl rfl rfl rfl rfl ?_ ?_ e1) ?_; (focus (omega)); (focus (omega)))) | (refine kCallN 56 ?_; first | (refine LOps.ans (AnsL.callP rfl rfl rfl (ok56) (hL _)) ?_)) | (refine kCallN 60 ?_; first | (refine LOps.ans (AnsL.callP rfl rfl rfl (ok60) (hF _)) ?_)) | (refine kCallN 63 ?_; first | (refine LOps.ans (AnsL.callP rfl rfl rfl (ok63) (hT _)) ?_)))
            | (refine kWL ?_; first | (refine WL.seq ?_) | (refine WL.region (by kernel_rfl) ?_) | (refine WL.block ?_) | (refine WL.skip ?_) | (refine WL.ret ?_) | (refine kCond ?_; first | (refine WL.condF rfl ?_) | (refine WL.condF' rfl ?_ ?_; (focus (first | (exact decide_eq_false (by assumption)))))))
            | (refine lthen_n ?_)
            | (refine lblock_n ?_)
            | (refine LPost.r2 (r := .cell 4 58) (r' := .tmp 5) (.inl rfl) (Res1.cell tT_ok rfl rfl rfl rfl) (Res1.tmp rfl) ?_)
            | (refine PureR.mk ?_)
          rfl

    · rw [c2] at hF
      rw [if_pos rfl]
      dsimp only [oneK, chkT]
      have hT := fun u => specTokenOk_v ⟨3, wordT l i, i⟩ hwl u
      generalize wordT l i = w at hw hT ⊢
      generalize runE l i = e at hR r1 r2 hw ⊢
      generalize tokOk numS ⟨3, w, i⟩ = ok at hT ⊢
      cases ok
      · rw [if_neg (by decide)]
        dsimp only [oneW]
        refine LCalls.pure Tryz.func28 rfl (by kernel_rfl) (by simp) ?_
        repeat' first
          | (refine kOps ?_; first | (refine LOps.nil ?_) | (refine kG ?_; first | (refine LOps.gT rfl rfl rfl ?_)) | (refine kStore ?_; refine LOps.storeP tT_ok rfl rfl rfl rfl rfl rfl rfl rfl rfl ?_) | (refine LOps.ev tT_ok rfl ?_) | (refine kAlloc ?_; refine LOps.alloc tT_ok rfl rfl rfl rfl ?_) | (refine kLoad ?_; first | (refine LOps.ans (AnsL.loadP tT_ok rfl rfl rfl rfl) ?_)) | (refine kBin ?_; first | (refine LOps.ans (AnsL.add rfl rfl ?_) ?_; (focus (constructor <;> omega)))) | (refine kSidx ?_; first | (refine LOps.ans (AnsL.sidx tT_ok rfl rfl rfl rfl hg) ?_)) | (refine kSlc ?_; first | (refine LOps.ans (AnsL.slcStr (n := i) (n2 := e) tT_ok rfl rfl rfl rfl rfl r1 r2 hw) ?_)) | (refine kCallN 56 ?_; first | (refine LOps.ans (AnsL.callP rfl rfl rfl (ok56) (hL _)) ?_)) | (refine kCallN 57 ?_; first | (refine LOps.ans (AnsL.callP rfl rfl rfl (ok57) (hR _)) ?_)) | (refine kCallN 60 ?_; first | (refine LOps.ans (AnsL.callP rfl rfl rfl (ok60) (hF _)) ?_)) | (refine kCallN 63 ?_; first | (refine LOps.ans (AnsL.callP rfl rfl rfl (ok63) (hT _)) ?_)))
          | (refine kWL ?_; first | (refine WL.seq ?_) | (refine WL.region (by kernel_rfl) ?_) | (refine WL.block ?_) | (refine WL.ret ?_) | (refine kCond ?_; first | (refine WL.condT rfl ?_) | (refine WL.condF rfl ?_)))
          | (refine lthen_n ?_)
          | (refine lthen_r ?_)
          | (refine lblock_n ?_)
          | (refine LPost.r2 (r := .cell 4 58) (r' := .tmp 5) (.inl rfl) (Res1.cell tT_ok rfl rfl rfl rfl) (Res1.tmp rfl) ?_)
          | (refine PureR.mk ?_)
        rfl
      · rw [if_pos rfl]
        dsimp only [oneW]
        refine LCalls.pure Tryz.func28 rfl (by kernel_rfl) (by simp) ?_
        repeat' first
          | (refine kOps ?_; first | (refine LOps.nil ?_) | (refine kG ?_; first | (refine LOps.gT rfl rfl rfl ?_)) | (refine kStore ?_; refine LOps.storeP tT_ok rfl rfl rfl rfl rfl rfl rfl rfl rfl ?_) | (refine LOps.ev tT_ok rfl ?_) | (refine kAlloc ?_; refine LOps.alloc tT_ok rfl rfl rfl rfl ?_) | (refine kLoad ?_; first | (refine LOps.ans (AnsL.loadP tT_ok rfl rfl rfl rfl) ?_)) | (refine kBin ?_; first | (refine LOps.ans (AnsL.add rfl rfl ?_) ?_; (focus (constructor <;> omega)))) | (refine kSidx ?_; first | (refine LOps.ans (AnsL.sidx tT_ok rfl rfl rfl rfl hg) ?_)) | (refine kSlc ?_; first | (refine LOps.ans (AnsL.slcStr (n := i) (n2 := e) tT_ok rfl rfl rfl rfl rfl r1 r2 hw) ?_)) | (refine kCallN 56 ?_; first | (refine LOps.ans (AnsL.callP rfl rfl rfl (ok56) (hL _)) ?_)) | (refine kCallN 57 ?_; first | (refine LOps.ans (AnsL.callP rfl rfl rfl (ok57) (hR _)) ?_)) | (refine kCallN 60 ?_; first | (refine LOps.ans (AnsL.callP rfl rfl rfl (ok60) (hF _)) ?_)) | (refine kCallN 63 ?_; first | (refine LOps.ans (AnsL.callP rfl rfl rfl (ok63) (hT _)) ?_)))
          | (refine kWL ?_; first | (refine WL.seq ?_) | (refine WL.region (by kernel_rfl) ?_) | (refine WL.block ?_) | (refine WL.skip ?_) | (refine WL.ret ?_) | (refine kCond ?_; first | (refine WL.condT rfl ?_) | (refine WL.condF rfl ?_)))
          | (refine lthen_n ?_)
          | (refine lblock_n ?_)
          | (refine LPost.r2 (r := .cell 4 58) (r' := .tmp 5) (.inl rfl) (Res1.cell tT_ok rfl rfl rfl rfl) (Res1.tmp rfl) ?_)
          | (refine PureR.mk ?_)
        rfl

  · rw [c1] at hL
    rw [if_pos rfl]
    have hK := fun u => specKeyOf_v (wordT l i) hwl u
    have hFo := fun u => specFold_v (wordT l i) hwl u
    have hnn := keyI_nn (fold (wordT l i))
    by_cases c2 : keyI (fold (wordT l i)) ≠ 0
    · rw [if_pos c2]
      have c2' : keyI (fold (wordT l i)) > 0 := by omega
      dsimp only [oneK, chkT]
      have hT := fun u => specTokenOk_v ⟨1, fold (wordT l i), i⟩ (by show (fold (wordT l i)).length ≤ _; rw [fold_len]; exact hwl) u
      generalize keyI (fold (wordT l i)) = ky at hK c2'
      generalize fold (wordT l i) = fw at hFo hT ⊢
      generalize wordT l i = w at hw hK hFo
      generalize runE l i = e at hR r1 r2 hw ⊢
      generalize tokOk numS ⟨1, fw, i⟩ = ok at hT ⊢
      cases ok
      · rw [if_neg (by decide)]
        dsimp only [oneW]
        refine LCalls.pure Tryz.func28 rfl (by kernel_rfl) (by simp) ?_
        repeat' first
          | (refine kOps ?_; first | (refine LOps.nil ?_) | (refine kG ?_; first | (refine LOps.gT rfl rfl rfl ?_)) | (refine kStore ?_; refine LOps.storeP tT_ok rfl rfl rfl rfl rfl rfl rfl rfl rfl ?_) | (refine LOps.ev tT_ok rfl ?_) | (refine kAlloc ?_; refine LOps.alloc tT_ok rfl rfl rfl rfl ?_) | (refine kLoad ?_; first | (refine LOps.ans (AnsL.loadP tT_ok rfl rfl rfl rfl) ?_)) | (refine kBin ?_; first | (refine LOps.ans (AnsL.add rfl rfl ?_) ?_; (focus (constructor <;> omega)))) | (refine kSidx ?_; first | (refine LOps.ans (AnsL.sidx tT_ok rfl rfl rfl rfl hg) ?_)) | (refine kSlc ?_; first | (refine LOps.ans (AnsL.slcStr (n := i) (n2 := e) tT_ok rfl rfl rfl rfl rfl r1 r2 hw) ?_)) | (refine kCallN 56 ?_; first | (refine LOps.ans (AnsL.callP rfl rfl rfl (ok56) (hL _)) ?_)) | (refine kCallN 57 ?_; first | (refine LOps.ans (AnsL.callP rfl rfl rfl (ok57) (hR _)) ?_)) | (refine kCallN 58 ?_; first | (refine LOps.ans (AnsL.callP rfl rfl rfl (ok58) (hK _)) ?_)) | (refine kCallN 59 ?_; first | (refine LOps.ans (AnsL.callP rfl rfl rfl (ok59) (hFo _)) ?_)) | (refine kCallN 63 ?_; first | (refine LOps.ans (AnsL.callP rfl rfl rfl (ok63) (hT _)) ?_)))
          | (refine kWL ?_; first | (refine WL.seq ?_) | (refine WL.region (by kernel_rfl) ?_) | (refine WL.block ?_) | (refine WL.ret ?_) | (refine kCond ?_; first | (refine WL.condT rfl ?_) | (refine WL.condT' rfl ?_ ?_; (focus (first | (exact decide_eq_true (by assumption)))))))
          | (refine lthen_n ?_)
          | (refine lthen_r ?_)
          | (refine lblock_n ?_)
          | (refine LPost.r2 (r := .cell 4 58) (r' := .tmp 5) (.inl rfl) (Res1.cell tT_ok rfl rfl rfl rfl) (Res1.tmp rfl) ?_)
          | (refine PureR.mk ?_)
        rfl
      · rw [if_pos rfl]
        dsimp only [oneW]
        refine LCalls.pure Tryz.func28 rfl (by kernel_rfl) (by simp) ?_
        repeat' first
          | (refine kOps ?_; first | (refine LOps.nil ?_) | (refine kG ?_; first | (refine LOps.gT rfl rfl rfl ?_)) | (refine kStore ?_; refine LOps.storeP tT_ok rfl rfl rfl rfl rfl rfl rfl rfl rfl ?_) | (refine LOps.ev tT_ok rfl ?_) | (refine kAlloc ?_; refine LOps.alloc tT_ok rfl rfl rfl rfl ?_) | (refine kLoad ?_; first | (refine LOps.ans (AnsL.loadP tT_ok rfl rfl rfl rfl) ?_)) | (refine kBin ?_; first | (refine LOps.ans (AnsL.add rfl rfl ?_) ?_; (focus (constructor <;> omega)))) | (refine kSidx ?_; first | (refine LOps.ans (AnsL.sidx tT_ok rfl rfl rfl rfl hg) ?_)) | (refine kSlc ?_; first | (refine LOps.ans (AnsL.slcStr (n := i) (n2 := e) tT_ok rfl rfl rfl rfl rfl r1 r2 hw) ?_)) | (refine kCallN 56 ?_; first | (refine LOps.ans (AnsL.callP rfl rfl rfl (ok56) (hL _)) ?_)) | (refine kCallN 57 ?_; first | (refine LOps.ans (AnsL.callP rfl rfl rfl (ok57) (hR _)) ?_)) | (refine kCallN 58 ?_; first | (refine LOps.ans (AnsL.callP rfl rfl rfl (ok58) (hK _)) ?_)) | (refine kCallN 59 ?_; first | (refine LOps.ans (AnsL.callP rfl rfl rfl (ok59) (hFo _)) ?_)) | (refine kCallN 63 ?_; first | (refine LOps.ans (AnsL.callP rfl rfl rfl (ok63) (hT _)) ?_)))
          | (refine kWL ?_; first | (refine WL.seq ?_) | (refine WL.region (by kernel_rfl) ?_) | (refine WL.block ?_) | (refine WL.skip ?_) | (refine WL.ret ?_) | (refine kCond ?_; first | (refine WL.condT rfl ?_) | (refine WL.condF rfl ?_) | (refine WL.condT' rfl ?_ ?_; (focus (first | (exact decide_eq_true (by assumption)))))))
          | (refine lthen_n ?_)
          | (refine lblock_n ?_)
          | (refine LPost.r2 (r := .cell 4 58) (r' := .tmp 5) (.inl rfl) (Res1.cell tT_ok rfl rfl rfl rfl) (Res1.tmp rfl) ?_)
          | (refine PureR.mk ?_)
        rfl

    · rw [if_neg c2]
      have c2' : ¬ keyI (fold (wordT l i)) > 0 := by omega
      dsimp only [oneK, chkT]
      have hT := fun u => specTokenOk_v ⟨2, wordT l i, i⟩ hwl u
      generalize keyI (fold (wordT l i)) = ky at hK c2'
      generalize wordT l i = w at hw hK hT ⊢
      generalize runE l i = e at hR r1 r2 hw ⊢
      generalize tokOk numS ⟨2, w, i⟩ = ok at hT ⊢
      cases ok
      · rw [if_neg (by decide)]
        dsimp only [oneW]
        refine LCalls.pure Tryz.func28 rfl (by kernel_rfl) (by simp) ?_
        repeat' first
          | (refine kOps ?_; first | (refine LOps.nil ?_) | (refine kG ?_; first | (refine LOps.gT rfl rfl rfl ?_)) | (refine kStore ?_; refine LOps.storeP tT_ok rfl rfl rfl rfl rfl rfl rfl rfl rfl ?_) | (refine LOps.ev tT_ok rfl ?_) | (refine kAlloc ?_; refine LOps.alloc tT_ok rfl rfl rfl rfl ?_) | (refine kLoad ?_; first | (refine LOps.ans (AnsL.loadP tT_ok rfl rfl rfl rfl) ?_)) | (refine kBin ?_; first | (refine LOps.ans (AnsL.add rfl rfl ?_) ?_; (focus (constructor <;> omega)))) | (refine kSidx ?_; first | (refine LOps.ans (AnsL.sidx tT_ok rfl rfl rfl rfl hg) ?_)) | (refine kSlc ?_; first | (refine LOps.ans (AnsL.slcStr (n := i) (n2 := e) tT_ok rfl rfl rfl rfl rfl r1 r2 hw) ?_)) | (refine kCallN 56 ?_; first | (refine LOps.ans (AnsL.callP rfl rfl rfl (ok56) (hL _)) ?_)) | (refine kCallN 57 ?_; first | (refine LOps.ans (AnsL.callP rfl rfl rfl (ok57) (hR _)) ?_)) | (refine kCallN 58 ?_; first | (refine LOps.ans (AnsL.callP rfl rfl rfl (ok58) (hK _)) ?_)) | (refine kCallN 63 ?_; first | (refine LOps.ans (AnsL.callP rfl rfl rfl (ok63) (hT _)) ?_)))
          | (refine kWL ?_; first | (refine WL.seq ?_) | (refine WL.region (by kernel_rfl) ?_) | (refine WL.block ?_) | (refine WL.skip ?_) | (refine WL.ret ?_) | (refine kCond ?_; first | (refine WL.condT rfl ?_) | (refine WL.condF' rfl ?_ ?_; (focus (first | (exact decide_eq_false (by assumption)))))))
          | (refine lthen_n ?_)
          | (refine lthen_r ?_)
          | (refine lblock_n ?_)
          | (refine LPost.r2 (r := .cell 4 58) (r' := .tmp 5) (.inl rfl) (Res1.cell tT_ok rfl rfl rfl rfl) (Res1.tmp rfl) ?_)
          | (refine PureR.mk ?_)
        rfl
      · rw [if_pos rfl]
        dsimp only [oneW]
        refine LCalls.pure Tryz.func28 rfl (by kernel_rfl) (by simp) ?_
        repeat' first
          | (refine kOps ?_; first | (refine LOps.nil ?_) | (refine kG ?_; first | (refine LOps.gT rfl rfl rfl ?_)) | (refine kStore ?_; refine LOps.storeP tT_ok rfl rfl rfl rfl rfl rfl rfl rfl rfl ?_) | (refine LOps.ev tT_ok rfl ?_) | (refine kAlloc ?_; refine LOps.alloc tT_ok rfl rfl rfl rfl ?_) | (refine kLoad ?_; first | (refine LOps.ans (AnsL.loadP tT_ok rfl rfl rfl rfl) ?_)) | (refine kBin ?_; first | (refine LOps.ans (AnsL.add rfl rfl ?_) ?_; (focus (constructor <;> omega)))) | (refine kSidx ?_; first | (refine LOps.ans (AnsL.sidx tT_ok rfl rfl rfl rfl hg) ?_)) | (refine kSlc ?_; first | (refine LOps.ans (AnsL.slcStr (n := i) (n2 := e) tT_ok rfl rfl rfl rfl rfl r1 r2 hw) ?_)) | (refine kCallN 56 ?_; first | (refine LOps.ans (AnsL.callP rfl rfl rfl (ok56) (hL _)) ?_)) | (refine kCallN 57 ?_; first | (refine LOps.ans (AnsL.callP rfl rfl rfl (ok57) (hR _)) ?_)) | (refine kCallN 58 ?_; first | (refine LOps.ans (AnsL.callP rfl rfl rfl (ok58) (hK _)) ?_)) | (refine kCallN 63 ?_; first | (refine LOps.ans (AnsL.callP rfl rfl rfl (ok63) (hT _)) ?_)))
          | (refine kWL ?_; first | (refine WL.seq ?_) | (refine WL.region (by kernel_rfl) ?_) | (refine WL.block ?_) | (refine WL.skip ?_) | (refine WL.ret ?_) | (refine kCond ?_; first | (refine WL.condT rfl ?_) | (refine WL.condF rfl ?_) | (refine WL.condF' rfl ?_ ?_; (focus (first | (exact decide_eq_false (by assumption)))))))
          | (refine lthen_n ?_)
          | (refine lblock_n ?_)
          | (refine LPost.r2 (r := .cell 4 58) (r' := .tmp 5) (.inl rfl) (Res1.cell tT_ok rfl rfl rfl rfl) (Res1.tmp rfl) ?_)
          | (refine PureR.mk ?_)
        rfl

end Go.Proofs.YtbnbmcplmipgdaaGreatDoor
