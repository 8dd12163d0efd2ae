/-
  Tokens of a source, plainly: nothing of the program.
  Runs of letters and figures, of the reference.
  Own work; no condition.
-/
import Derived.Test.YtbnbmcplmipgdaaGreatDoorVBase
import Derived.Test.YtbnbmcplmipgdaaGreatDoorDName2
namespace Go.Proofs.YtbnbmcplmipgdaaGreatDoor
set_option linter.unusedSimpArgs false
set_option linter.unusedVariables false

def isWs (b : UInt8) : Bool := decide (b = 32) || decide (b = 9) || decide (b = 10) || decide (b = 13)
def isLet (b : UInt8) : Bool := (decide (97 ≤ b) && decide (b ≤ 122)) || (decide (65 ≤ b) && decide (b ≤ 90)) || decide (b = 95)
def isFig (b : UInt8) : Bool := decide (48 ≤ b) && decide (b ≤ 57)
def isPrt (b : UInt8) : Bool := isLet b || isFig b
/-- How many stand ahead of the first of which p holds. -/
def seek (p : UInt8 → Bool) : List UInt8 → Nat
  | [] => 0
  | b :: l => if p b then 0 else seek p l + 1
theorem seek_le (p : UInt8 → Bool) : ∀ l : List UInt8, seek p l ≤ l.length
  | [] => Nat.le_refl _
  | b :: l => by
    have := seek_le p l
    unfold seek
    split
    · omega
    · simp only [List.length_cons]; omega
theorem seek_step {p : UInt8 → Bool} {s : List UInt8} {i : Nat} (h : i < s.length) (hp : p s[i] = false) : i + seek p (s.drop i) = i + 1 + seek p (s.drop (i + 1)) := by
  rw [List.drop_eq_getElem_cons h, seek, hp]
  simp only [Bool.false_eq_true, if_false]
  omega
theorem seek_stop {p : UInt8 → Bool} {s : List UInt8} {i : Nat} (h : i < s.length) (hp : p s[i] = true) : i + seek p (s.drop i) = i := by
  rw [List.drop_eq_getElem_cons h, seek, hp]
  simp
theorem seek_end {p : UInt8 → Bool} {s : List UInt8} {i : Nat} (h : s.length ≤ i) : seek p (s.drop i) = 0 := by
  rw [List.drop_of_length_le h]
  rfl
/-- How many stand ahead of the first star with a stroke behind it. -/
def seekC : List UInt8 → Option Nat
  | [] => none
  | b :: l => if b = 42 ∧ l.head? = some 47 then some 0 else (seekC l).map (· + 1)
theorem seekC_lt : ∀ {l : List UInt8} {k : Nat}, seekC l = some k → k + 2 ≤ l.length
  | [], _, h => by cases h
  | b :: l, k, h => by
    unfold seekC at h
    split at h
    · rename_i hc
      cases h
      cases l with
      | nil => cases hc.2
      | cons c l => simp
    · obtain ⟨j, hj, rfl⟩ := Option.map_eq_some_iff.1 h
      have := seekC_lt hj
      simp only [List.length_cons]; omega
def at2 (s : List UInt8) (i : Nat) (a b : UInt8) : Bool := decide (s[i]? = some a) && decide (s[i + 1]? = some b)
/-- Past what is between tokens: a place, or (less than nought) where a comment without an end begins. -/
def pass (s : List UInt8) (i : Nat) : Int :=
  if h : i < s.length then
    if isWs s[i] then pass s (i + 1)
    else if at2 s i 45 45 then (if hn : seek (fun b => decide (b = 10)) (s.drop i) = 0 then (i : Int) else pass s (i + seek (fun b => decide (b = 10)) (s.drop i)))
    else if at2 s i 47 42 then match seekC (s.drop (i + 2)) with
      | none => -(i : Int) - 1
      | some k => pass s (i + 2 + k + 2)
    else i
  else i
termination_by s.length - i
decreasing_by
  · omega
  · have := seek_le (fun b => decide (b = 10)) (s.drop i); omega
  · omega
theorem pass_end {s : List UInt8} {i : Nat} (h : s.length ≤ i) : pass s i = i := by
  rw [pass, dif_neg (by omega)]
theorem pass_ws {s : List UInt8} {i : Nat} (h : i < s.length) (w : isWs s[i] = true) : pass s i = pass s (i + 1) := by
  rw [pass, dif_pos h, if_pos w]
theorem pass_line {s : List UInt8} {i : Nat} (h : i < s.length) (w : isWs s[i] = false) (c : at2 s i 45 45 = true) : pass s i = pass s (i + seek (fun b => decide (b = 10)) (s.drop i)) := by
  have hs : seek (fun b => decide (b = 10)) (s.drop i) ≠ 0 := by
    have hb : s[i] = 45 := by
      simp only [at2, Bool.and_eq_true, decide_eq_true_eq, List.getElem?_eq_getElem h, Option.some.injEq] at c
      exact c.1
    have := seek_step (p := fun b => decide (b = 10)) h (by rw [hb]; rfl)
    omega
  rw [pass, dif_pos h, if_neg (by simp [w]), if_pos c, dif_neg hs]
theorem pass_open {s : List UInt8} {i : Nat} (h : i < s.length) (w : isWs s[i] = false) (c : at2 s i 45 45 = false) (d : at2 s i 47 42 = true) (e : seekC (s.drop (i + 2)) = none) : pass s i = -(i : Int) - 1 := by
  rw [pass, dif_pos h, if_neg (by simp [w]), if_neg (by simp [c]), if_pos d]
  split
  · rfl
  · rename_i k hk; rw [e] at hk; cases hk
theorem pass_com {s : List UInt8} {i k : Nat} (h : i < s.length) (w : isWs s[i] = false) (c : at2 s i 45 45 = false) (d : at2 s i 47 42 = true) (e : seekC (s.drop (i + 2)) = some k) : pass s i = pass s (i + 2 + k + 2) := by
  rw [pass, dif_pos h, if_neg (by simp [w]), if_neg (by simp [c]), if_pos d]
  split
  · rename_i hk; rw [e] at hk; cases hk
  · rename_i k' hk; rw [e] at hk; cases hk; rfl
theorem pass_tok {s : List UInt8} {i : Nat} (h : i < s.length) (w : isWs s[i] = false) (c : at2 s i 45 45 = false) (d : at2 s i 47 42 = false) : pass s i = i := by
  rw [pass, dif_pos h, if_neg (by simp [w]), if_neg (by simp [c]), if_neg (by simp [d])]
/-- What stands in quotes: read from behind the first quote on. -/
def quotS (q : UInt8) : List UInt8 → Option (List UInt8 × Nat)
  | [] => none
  | b :: l => if b = q then (match l with
      | [] => some ([], 1)
      | c :: l' => if c = q then (quotS q l').map (fun x => (q :: x.1, x.2 + 2)) else some ([], 1))
    else (quotS q l).map (fun x => (b :: x.1, x.2 + 1))

end Go.Proofs.YtbnbmcplmipgdaaGreatDoor

namespace Go.Proofs.YtbnbmcplmipgdaaGreatDoor
open Go
set_option linter.unusedSimpArgs false
set_option linter.unusedVariables false

/-- Where a run of letters and figures ends. -/
def runE (l : List UInt8) (i : Nat) : Nat := i + seek (fun b => !partI (b.toNat : Int)) (l.drop i)
set_option maxHeartbeats 1000000 in
theorem specl3Run_v (l : List UInt8) (hl : l.length ≤ 1048576) (i : Nat) (hi : i ≤ l.length) (s : S) : VCalls Tryz.prog 57 [.str l, .int .i64 (i : Int)] s (fun v s' => v = .int .i64 (runE l i : Nat) ∧ s' = s) := by
  refine LCalls.pure Tryz.func57 rfl (by kernel_rfl) (by simp) ?_
  repeat' first
    | (refine kOps ?_; first | (refine LOps.nil ?_) | (refine LOps.ev tT_ok rfl ?_))
    | (refine kWL ?_; first | (refine WL.seq ?_) | (refine WL.region (by kernel_rfl) ?_) | (refine WL.block ?_))
    | (refine lthen_n ?_)
  refine WL.loopD (fun k : Nat => l.length - k) (fun k => [(0, .str l), (1, .int .i64 (k : Int))]) (fun _ => []) (fun k => k ≤ l.length ∧ runE l i = runE l k) 0 i ⟨hi, rfl⟩ (fun _ => rfl) ⟨rfl, rfl, trivial⟩ rfl (fun k hk => ?_) (fun k hk => ?_)
  · simp [UnderK, UnderX, V.under, V.underL]
  obtain ⟨hk, hc⟩ := hk
  rcases Nat.lt_or_ge k l.length with hlt | hge
  · have hlt' : (k : Int) < (l.length : Int) := by omega
    have hg : l[k]? = some l[k] := by simp [hlt]
    have hL := fun t => specl2Letter_v (l[k].toNat : Int) t
    have hF := fun t => specl2Figure_v (l[k].toNat : Int) t
    cases h1 : ltrI (l[k].toNat : Int) <;> rw [h1] at hL
    · cases h2 : figI (l[k].toNat : Int) <;> rw [h2] at hF
      · have e : runE l k = k := seek_stop hlt (by simp [partI, h1, h2])
        rw [e] at hc
        repeat' first
          | (refine kOps ?_; first | (refine LOps.nil ?_) | (refine kG ?_; first | (refine LOps.gT rfl rfl rfl ?_) | (refine LOps.gD true rfl rfl rfl ?_ ?_; (focus (first | (exact decide_eq_true (by assumption)))))) | (refine LOps.ev tT_ok rfl ?_) | (refine kSidx ?_; first | (refine LOps.ans (AnsL.sidx tT_ok rfl rfl rfl rfl hg) ?_)) | (refine kCallN 56 ?_; first | (refine LOps.ans (AnsL.callP rfl rfl rfl (ok56) (hL _)) ?_)) | (refine kCallN 60 ?_; first | (refine LOps.ans (AnsL.callP rfl rfl rfl (ok60) (hF _)) ?_)))
          | (refine kWL ?_; first | (refine WL.seq ?_) | (refine WL.region (by kernel_rfl) ?_) | (refine WL.exit ?_) | (refine WL.ret ?_) | (refine kCond ?_; first | (refine WL.condF rfl ?_)))
          | (refine lthen_n ?_)
          | (refine lthen_e ?_)
          | (refine lblock_e ?_)
          | (refine lbackD_e ?_)
          | (refine LPost.r1 (r := .tmp 4) (.inl rfl) (Res1.tmp rfl) ?_)
          | (refine PureR.mk ?_)
        rw [hc]; rfl
      · have e : runE l k = runE l (k + 1) := seek_step hlt (by simp [partI, h1, h2])
        rw [e] at hc
        repeat' first
          | (refine kOps ?_; first | (refine LOps.nil ?_) | (refine kG ?_; first | (refine LOps.gT rfl rfl rfl ?_) | (refine LOps.gD true rfl rfl rfl ?_ ?_; (focus (first | (exact decide_eq_true (by assumption)))))) | (refine LOps.ev tT_ok rfl ?_) | (refine kBin ?_; first | (refine LOps.ans (AnsL.add rfl rfl ?_) ?_; (focus (constructor <;> omega)))) | (refine kSidx ?_; first | (refine LOps.ans (AnsL.sidx tT_ok rfl rfl rfl rfl hg) ?_)) | (refine kCallN 56 ?_; first | (refine LOps.ans (AnsL.callP rfl rfl rfl (ok56) (hL _)) ?_)) | (refine kCallN 60 ?_; first | (refine LOps.ans (AnsL.callP rfl rfl rfl (ok60) (hF _)) ?_)))
          | (refine kWL ?_; first | (refine WL.seq ?_) | (refine WL.region (by kernel_rfl) ?_) | (refine WL.block ?_) | (refine WL.skip ?_) | (refine kCond ?_; first | (refine WL.condT rfl ?_)))
          | (refine lthen_n ?_)
          | (refine lblock_n ?_)
        all_goals
          refine lbackD.of (k + 1) ?_ ?_ ?_ ?_
          · first | omega | (refine ⟨?_, ?_⟩; (focus (first | omega | (simp; omega))); (first | omega | (simp_all [hc] <;> fail) | (simp_all [hc]; omega))) | (simp_all [hc] <;> fail) | (simp_all [hc]; omega)
          · first | omega | (simp; omega) | simp_all
          · repeat' first
              | exact SubL.nil
              | (refine SubL.mk rfl ?_ ?_)
              | rfl
              | (simp [hc] <;> fail)
              | (simp [hc]; omega)
          · first | rfl | (simp [hc] <;> fail) | (simp [hc]; omega)
    · have e : runE l k = runE l (k + 1) := seek_step hlt (by simp [partI, h1])
      rw [e] at hc
      repeat' first
        | (refine kOps ?_; first | (refine LOps.nil ?_) | (refine kG ?_; first | (refine LOps.gT rfl rfl rfl ?_) | (refine LOps.gF rfl rfl rfl ?_) | (refine LOps.gD true rfl rfl rfl ?_ ?_; (focus (first | (exact decide_eq_true (by assumption)))))) | (refine LOps.ev tT_ok rfl ?_) | (refine kBin ?_; first | (refine LOps.ans (AnsL.add rfl rfl ?_) ?_; (focus (constructor <;> omega)))) | (refine kSidx ?_; first | (refine LOps.ans (AnsL.sidx tT_ok rfl rfl rfl rfl hg) ?_)) | (refine kCallN 56 ?_; first | (refine LOps.ans (AnsL.callP rfl rfl rfl (ok56) (hL _)) ?_)))
        | (refine kWL ?_; first | (refine WL.seq ?_) | (refine WL.region (by kernel_rfl) ?_) | (refine WL.block ?_) | (refine WL.skip ?_) | (refine kCond ?_; first | (refine WL.condT rfl ?_)))
        | (refine lthen_n ?_)
        | (refine lblock_n ?_)
      all_goals
        refine lbackD.of (k + 1) ?_ ?_ ?_ ?_
        · first | omega | (refine ⟨?_, ?_⟩; (focus (first | omega | (simp; omega))); (first | omega | (simp_all [hc] <;> fail) | (simp_all [hc]; omega))) | (simp_all [hc] <;> fail) | (simp_all [hc]; omega)
        · first | omega | (simp; omega) | simp_all
        · repeat' first
            | exact SubL.nil
            | (refine SubL.mk rfl ?_ ?_)
            | rfl
            | (simp [hc] <;> fail)
            | (simp [hc]; omega)
        · first | rfl | (simp [hc] <;> fail) | (simp [hc]; omega)
  · have hlt' : ¬ (k : Int) < (l.length : Int) := by omega
    have e : runE l k = k := by unfold runE; rw [seek_end hge]; rfl
    rw [e] at hc
    repeat' first
      | (refine kOps ?_; first | (refine LOps.nil ?_) | (refine kG ?_; first | (refine LOps.gF rfl rfl rfl ?_) | (refine LOps.gU rfl rfl ?_) | (refine LOps.gD false rfl rfl rfl ?_ ?_; (focus (first | (exact decide_eq_false (by assumption)))))) | (refine LOps.ev tT_ok rfl ?_))
      | (refine kWL ?_; first | (refine WL.seq ?_) | (refine WL.region (by kernel_rfl) ?_) | (refine WL.exit ?_) | (refine WL.ret ?_) | (refine kCond ?_; first | (refine WL.condF rfl ?_)))
      | (refine lthen_n ?_)
      | (refine lthen_e ?_)
      | (refine lblock_e ?_)
      | (refine lbackD_e ?_)
      | (refine LPost.r1 (r := .tmp 4) (.inl rfl) (Res1.tmp rfl) ?_)
      | (refine PureR.mk ?_)
    rw [hc]; rfl

end Go.Proofs.YtbnbmcplmipgdaaGreatDoor
