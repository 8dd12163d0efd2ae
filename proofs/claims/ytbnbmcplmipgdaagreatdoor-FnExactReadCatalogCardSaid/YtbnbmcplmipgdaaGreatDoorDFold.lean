/-
  Letters in upper case: Fold, of the program and of the reference. Own work; no condition.
-/
import Derived.Test.YtbnbmcplmipgdaaGreatDoorMg15
import Derived.Test.YtbnbmcplmipgdaaGreatDoorMg8
namespace Go.Proofs.YtbnbmcplmipgdaaGreatDoor
open Go
set_option linter.unusedSimpArgs false
set_option linter.unusedVariables false

def foldB (c : UInt8) : UInt8 := if 97 ≤ c.toNat ∧ c.toNat ≤ 122 then UInt8.ofNat (c.toNat - 32) else c
def fold (l : List UInt8) : List UInt8 := l.map foldB
theorem foldB_in {c : UInt8} (h1 : (c.toNat : Int) ≥ 97) (h2 : (c.toNat : Int) ≤ 122) : ((foldB c).toNat : Int) = (c.toNat : Int) - 32 := by
  have e : foldB c = UInt8.ofNat (c.toNat - 32) := if_pos ⟨by omega, by omega⟩
  rw [e, UInt8.toNat_ofNat', Nat.mod_eq_of_lt (by omega)]
  omega
theorem foldB_out {c : UInt8} (h : ¬ ((c.toNat : Int) ≥ 97 ∧ (c.toNat : Int) ≤ 122)) : foldB c = c := if_neg (fun e => h ⟨by omega, by omega⟩)
theorem u8w {x : Int} (h0 : 0 ≤ x) (h1 : x < 256) : IntKind.u8.wrap x = x := by
  simp only [IntKind.wrap, IntKind.bits, IntKind.signed]
  simp
  omega
theorem foldS {l : List UInt8} {i : Nat} (h : i < l.length) : bL ((l.take i).map foldB ++ l.drop i) = bL ((l.take i).map foldB) ++ ([V.int .u8 (l[i].toNat : Int)] ++ bL (l.drop (i + 1))) := by
  rw [List.drop_eq_getElem_cons h, bL_app]
  rfl
theorem foldT {l : List UInt8} {i : Nat} (h : i < l.length) : bL ((l.take (i + 1)).map foldB ++ l.drop (i + 1)) = bL ((l.take i).map foldB) ++ ([V.int .u8 ((foldB l[i]).toNat : Int)] ++ bL (l.drop (i + 1))) := by
  rw [List.take_succ_eq_append_getElem h, bL_app, List.map_append, bL_app, List.append_assoc]
  rfl

set_option maxHeartbeats 4000000 in
theorem specFold_v (l : List UInt8) (hl : l.length ≤ 1048576) (s : S) : VCalls Tryz.prog 59 [.str l] s (fun v s' => v = .str (fold l) ∧ s' = s) := by
  refine VCalls.pureOf rfl rfl (fun s => ?_) s
  have hh : Hold s s.next [] := .start _ _
  refine LCalls.body Tryz.func59 rfl (by kernel_rfl) ?_
  repeat' first
    | (refine LOps.toBytesH tT_ok rfl rfl rfl rfl rfl rfl hh ?_ ; intro s n hh)
    | (refine kOps ?_; first | (refine LOps.nil ?_) | (refine LOps.ev tT_ok rfl ?_))
    | (refine kWL ?_; first | (refine WL.seq ?_) | (refine WL.region (by kernel_rfl) ?_) | (refine WL.block ?_))
    | (refine lthen_n ?_)
  have h00 : bL l = bL ((l.take 0).map foldB ++ l.drop 0) := by simp
  rw [h00] at hh
  refine WL.loopH (fun i : Nat => l.length - i) (fun i => [(3, .slm .un n 0 l.length), (4, .int .i64 (i : Int))])
    (fun i => [.cell n (bL ((l.take i).map foldB ++ l.drop i))]) (fun i => i ≤ l.length) 0 (Nat.zero_le _) ⟨rfl, rfl, trivial⟩ hh (Sel.refl _) (fun i s hI hh => ?_)
  try dsimp only at hI hh ⊢
  rcases Nat.lt_or_ge i l.length with hlt | hge
  · have hS := foldS hlt
    have hT := foldT hlt
    have hq : (bL ((l.take i).map foldB)).length = i * 1 := by rw [bL_len, List.length_map, List.length_take]; omega
    have hI1 := foldB_in (c := l[i])
    have hO1 := foldB_out (c := l[i])
    have hc := (l[i]).toNat_lt
    have hback : ((i : Int) + 1) = ((i + 1 : Nat) : Int) := by omega
    generalize l[i] = c at hS hT hI1 hO1 hc
    by_cases h1 : (c.toNat : Int) ≥ 97
    · by_cases h2 : (c.toNat : Int) ≤ 122
      · skip
        repeat' first
          | (refine kStore ?_ ; refine LOps.storeHE (CA := bL ((l.take i).map foldB)) (ce := [V.int .u8 (c.toNat : Int)]) (CZ := bL (l.drop (i + 1))) (q := i * 1) tT_ok 0 0 hh rfl hS hq rfl rfl rfl rfl rfl rfl rfl rfl rfl ?_ ; intro s hh)
          | (refine kOps ?_; first | (refine LOps.nil ?_) | (refine kG ?_; first | (refine LOps.gT rfl rfl rfl ?_) | (refine LOps.gD true rfl rfl rfl ?_ ?_; (focus (first | (exact decide_eq_true (by assumption)))))) | (refine LOps.ev tT_ok rfl ?_) | (refine kLoad ?_; first | (refine LOps.ans (AnsL.loadHE (CA := bL ((l.take i).map foldB)) (ce := [V.int .u8 (c.toNat : Int)]) (CZ := bL (l.drop (i + 1))) (q := i * 1) tT_ok 0 0 hh rfl hS hq rfl rfl rfl rfl) ?_)) | (refine kBin ?_; first | (refine LOps.ans (AnsL.add rfl rfl ?_) ?_; (focus (constructor <;> omega))) | (refine LOps.ans (AnsL.arith rfl rfl rfl) ?_)) | (refine kIdx ?_; first | (refine LOps.ans (AnsL.idxM tT_ok rfl rfl rfl rfl rfl hlt) ?_)))
          | (refine kWL ?_; first | (refine WL.seq ?_) | (refine WL.region (by kernel_rfl) ?_) | (refine WL.block ?_) | (refine WL.skip ?_) | (refine kCond ?_; first | (refine WL.condT' rfl ?_ ?_; (focus (first | (exact decide_eq_true (by assumption)) | (simp only [decide_eq_true_eq, decide_eq_false_iff_not, Bool.not_eq_true', Bool.not_eq_false', Int.ofNat_lt, Int.ofNat_le, Int.ofNat_inj, not_true_eq_false, not_false_eq_true]; omega))))))
          | (refine lthen_n ?_)
          | (refine lblock_n ?_)
        rw [u8w (x := (c.toNat : Int) - 32) (by omega) (by omega), ← hI1 h1 h2, ← hT] at hh
        exact lbackH.of (i + 1) ⟨rfl, rfl, trivial⟩ hh (Sel.refl _) hlt (by omega)
      · rw [hO1 (fun e => h2 e.2), ← hS] at hT
        repeat' first
          | (refine kOps ?_; first | (refine LOps.nil ?_) | (refine kG ?_; first | (refine LOps.gT rfl rfl rfl ?_) | (refine LOps.gD true rfl rfl rfl ?_ ?_; (focus (first | (exact decide_eq_true (by assumption)))))) | (refine LOps.ev tT_ok rfl ?_) | (refine kLoad ?_; first | (refine LOps.ans (AnsL.loadHE (CA := bL ((l.take i).map foldB)) (ce := [V.int .u8 (c.toNat : Int)]) (CZ := bL (l.drop (i + 1))) (q := i * 1) tT_ok 0 0 hh rfl hS hq rfl rfl rfl rfl) ?_)) | (refine kBin ?_; first | (refine LOps.ans (AnsL.add rfl rfl ?_) ?_; (focus (constructor <;> omega)))) | (refine kIdx ?_; first | (refine LOps.ans (AnsL.idxM tT_ok rfl rfl rfl rfl rfl hlt) ?_)))
          | (refine kWL ?_; first | (refine WL.seq ?_) | (refine WL.region (by kernel_rfl) ?_) | (refine WL.block ?_) | (refine WL.skip ?_) | (refine kCond ?_; first | (refine WL.condT' rfl ?_ ?_; (focus (first | (simp only [decide_eq_true_eq, decide_eq_false_iff_not, Bool.not_eq_true', Bool.not_eq_false', Int.ofNat_lt, Int.ofNat_le, Int.ofNat_inj, not_true_eq_false, not_false_eq_true]; omega)))) | (refine WL.condF' rfl ?_ ?_; (focus (first | (exact decide_eq_false (by assumption)))))))
          | (refine lthen_n ?_)
          | (refine lblock_n ?_)
        exact lbackH.of (i + 1) ⟨rfl, rfl, trivial⟩ (hT ▸ hh) (Sel.refl _) hlt (by omega)
    · rw [hO1 (fun e => h1 e.1), ← hS] at hT
      repeat' first
        | (refine kOps ?_; first | (refine LOps.nil ?_) | (refine kG ?_; first | (refine LOps.gF rfl rfl rfl ?_) | (refine LOps.gD false rfl rfl rfl ?_ ?_; (focus (first | (exact decide_eq_false (by assumption)))))) | (refine LOps.ev tT_ok rfl ?_) | (refine kLoad ?_; first | (refine LOps.ans (AnsL.loadHE (CA := bL ((l.take i).map foldB)) (ce := [V.int .u8 (c.toNat : Int)]) (CZ := bL (l.drop (i + 1))) (q := i * 1) tT_ok 0 0 hh rfl hS hq rfl rfl rfl rfl) ?_)) | (refine kBin ?_; first | (refine LOps.ans (AnsL.add rfl rfl ?_) ?_; (focus (constructor <;> omega)))) | (refine kIdx ?_; first | (refine LOps.ans (AnsL.idxM tT_ok rfl rfl rfl rfl rfl hlt) ?_)))
        | (refine kWL ?_; first | (refine WL.seq ?_) | (refine WL.region (by kernel_rfl) ?_) | (refine WL.block ?_) | (refine WL.skip ?_) | (refine kCond ?_; first | (refine WL.condF rfl ?_) | (refine WL.condT' rfl ?_ ?_; (focus (first | (simp only [decide_eq_true_eq, decide_eq_false_iff_not, Bool.not_eq_true', Bool.not_eq_false', Int.ofNat_lt, Int.ofNat_le, Int.ofNat_inj, not_true_eq_false, not_false_eq_true]; omega))))))
        | (refine lthen_n ?_)
        | (refine lblock_n ?_)
      exact lbackH.of (i + 1) ⟨rfl, rfl, trivial⟩ (hT ▸ hh) (Sel.refl _) hlt (by omega)
  · have e : i = l.length := by omega
    subst e
    have hF : bL ((l.take l.length).map foldB ++ l.drop l.length) = bL (fold l) := by simp [fold]
    have hFl : l.length = (fold l).length := by simp [fold]
    repeat' first
      | (refine LOps.ans (AnsL.toStrH (b := fold l) tT_ok 0 hh rfl hF hFl rfl rfl rfl rfl rfl rfl rfl rfl rfl) ?_)
      | (refine kOps ?_; first | (refine LOps.nil ?_) | (refine LOps.ev tT_ok rfl ?_))
      | (refine kWL ?_; first | (refine WL.seq ?_) | (refine WL.region (by kernel_rfl) ?_) | (refine WL.exit ?_) | (refine WL.ret ?_) | (refine kCond ?_; first | (refine WL.condF' rfl ?_ ?_; (focus (first | (simp only [decide_eq_true_eq, decide_eq_false_iff_not, Bool.not_eq_true', Bool.not_eq_false', Int.ofNat_lt, Int.ofNat_le, Int.ofNat_inj, not_true_eq_false, not_false_eq_true]; omega))))))
      | (refine lthen_n ?_)
      | (refine lthen_e ?_)
      | (refine lblock_e ?_)
      | (refine lbackH_e ?_)
      | (refine LPost.r1 (r := .tmp 2) (.inl rfl) (Res1.tmp rfl) ?_)
    exact ⟨[], .scal rfl, List.nodup_nil⟩

set_option maxHeartbeats 4000000 in
theorem implFold_v (l : List UInt8) (hl : l.length ≤ 1048576) (s : S) : VCalls Tryz.prog 71 [.str l] s (fun v s' => v = .str (fold l) ∧ s' = s) := by
  refine VCalls.pureOf rfl rfl (fun s => ?_) s
  have hh : Hold s s.next [] := .start _ _
  refine LCalls.body Tryz.func71 rfl (by kernel_rfl) ?_
  repeat' first
    | (refine LOps.toBytesH tT_ok rfl rfl rfl rfl rfl rfl hh ?_ ; intro s n hh)
    | (refine kOps ?_; first | (refine LOps.nil ?_) | (refine LOps.ev tT_ok rfl ?_))
    | (refine kWL ?_; first | (refine WL.seq ?_) | (refine WL.region (by kernel_rfl) ?_) | (refine WL.block ?_))
    | (refine lthen_n ?_)
  have h00 : bL l = bL ((l.take 0).map foldB ++ l.drop 0) := by simp
  rw [h00] at hh
  refine WL.loopH (fun i : Nat => l.length - i) (fun i => [(3, .slm .un n 0 l.length), (8, .slm .un n 0 l.length), (9, .int .i64 (l.length : Int)), (10, .int .i64 (i : Int))])
    (fun i => [.cell n (bL ((l.take i).map foldB ++ l.drop i))]) (fun i => i ≤ l.length) 0 (Nat.zero_le _) ⟨rfl, rfl, rfl, rfl, trivial⟩ hh (Sel.refl _) (fun i s hI hh => ?_)
  try dsimp only at hI hh ⊢
  rcases Nat.lt_or_ge i l.length with hlt | hge
  · have hS := foldS hlt
    have hT := foldT hlt
    have hq : (bL ((l.take i).map foldB)).length = i * 1 := by rw [bL_len, List.length_map, List.length_take]; omega
    have hI1 := foldB_in (c := l[i])
    have hO1 := foldB_out (c := l[i])
    have hc := (l[i]).toNat_lt
    have hback : ((i : Int) + 1) = ((i + 1 : Nat) : Int) := by omega
    generalize l[i] = c at hS hT hI1 hO1 hc
    by_cases h1 : (c.toNat : Int) ≥ 97
    · by_cases h2 : (c.toNat : Int) ≤ 122
      · skip
        repeat' first
          | (refine kStore ?_ ; refine LOps.storeHE (CA := bL ((l.take i).map foldB)) (ce := [V.int .u8 (c.toNat : Int)]) (CZ := bL (l.drop (i + 1))) (q := i * 1) tT_ok 0 0 hh rfl hS hq rfl rfl rfl rfl rfl rfl rfl rfl rfl ?_ ; intro s hh)
          | (refine kOps ?_; first | (refine LOps.nil ?_) | (refine kG ?_; first | (refine LOps.gT rfl rfl rfl ?_) | (refine LOps.gD true rfl rfl rfl ?_ ?_; (focus (first | (exact decide_eq_true (by assumption)))))) | (refine LOps.ev tT_ok rfl ?_) | (refine kLoad ?_; first | (refine LOps.ans (AnsL.loadHE (CA := bL ((l.take i).map foldB)) (ce := [V.int .u8 (c.toNat : Int)]) (CZ := bL (l.drop (i + 1))) (q := i * 1) tT_ok 0 0 hh rfl hS hq rfl rfl rfl rfl) ?_)) | (refine kBin ?_; first | (refine LOps.ans (AnsL.add rfl rfl ?_) ?_; (focus (constructor <;> omega))) | (refine LOps.ans (AnsL.arith rfl rfl rfl) ?_)) | (refine kIdx ?_; first | (refine LOps.ans (AnsL.idxM tT_ok rfl rfl rfl rfl rfl hlt) ?_)))
          | (refine kWL ?_; first | (refine WL.seq ?_) | (refine WL.region (by kernel_rfl) ?_) | (refine WL.block ?_) | (refine WL.skip ?_) | (refine kCond ?_; first | (refine WL.condT' rfl ?_ ?_; (focus (first | (exact decide_eq_true (by assumption)) | (simp only [decide_eq_true_eq, decide_eq_false_iff_not, Bool.not_eq_true', Bool.not_eq_false', Int.ofNat_lt, Int.ofNat_le, Int.ofNat_inj, not_true_eq_false, not_false_eq_true]; omega))))))
          | (refine lthen_n ?_)
          | (refine lblock_n ?_)
        rw [u8w (x := (c.toNat : Int) - 97) (by omega) (by omega), u8w (x := (c.toNat : Int) - 97 + 65) (by omega) (by omega), show (c.toNat : Int) - 97 + 65 = (c.toNat : Int) - 32 by omega, ← hI1 h1 h2, ← hT] at hh
        exact lbackH.of (i + 1) ⟨rfl, rfl, rfl, rfl, trivial⟩ hh (Sel.refl _) hlt (by omega)
      · rw [hO1 (fun e => h2 e.2), ← hS] at hT
        repeat' first
          | (refine kOps ?_; first | (refine LOps.nil ?_) | (refine kG ?_; first | (refine LOps.gT rfl rfl rfl ?_) | (refine LOps.gD true rfl rfl rfl ?_ ?_; (focus (first | (exact decide_eq_true (by assumption)))))) | (refine LOps.ev tT_ok rfl ?_) | (refine kLoad ?_; first | (refine LOps.ans (AnsL.loadHE (CA := bL ((l.take i).map foldB)) (ce := [V.int .u8 (c.toNat : Int)]) (CZ := bL (l.drop (i + 1))) (q := i * 1) tT_ok 0 0 hh rfl hS hq rfl rfl rfl rfl) ?_)) | (refine kBin ?_; first | (refine LOps.ans (AnsL.add rfl rfl ?_) ?_; (focus (constructor <;> omega)))) | (refine kIdx ?_; first | (refine LOps.ans (AnsL.idxM tT_ok rfl rfl rfl rfl rfl hlt) ?_)))
          | (refine kWL ?_; first | (refine WL.seq ?_) | (refine WL.region (by kernel_rfl) ?_) | (refine WL.block ?_) | (refine WL.skip ?_) | (refine kCond ?_; first | (refine WL.condT' rfl ?_ ?_; (focus (first | (simp only [decide_eq_true_eq, decide_eq_false_iff_not, Bool.not_eq_true', Bool.not_eq_false', Int.ofNat_lt, Int.ofNat_le, Int.ofNat_inj, not_true_eq_false, not_false_eq_true]; omega)))) | (refine WL.condF' rfl ?_ ?_; (focus (first | (exact decide_eq_false (by assumption)))))))
          | (refine lthen_n ?_)
          | (refine lblock_n ?_)
        exact lbackH.of (i + 1) ⟨rfl, rfl, rfl, rfl, trivial⟩ (hT ▸ hh) (Sel.refl _) hlt (by omega)
    · rw [hO1 (fun e => h1 e.1), ← hS] at hT
      repeat' first
        | (refine kOps ?_; first | (refine LOps.nil ?_) | (refine kG ?_; first | (refine LOps.gF rfl rfl rfl ?_) | (refine LOps.gD false rfl rfl rfl ?_ ?_; (focus (first | (exact decide_eq_false (by assumption)))))) | (refine LOps.ev tT_ok rfl ?_) | (refine kLoad ?_; first | (refine LOps.ans (AnsL.loadHE (CA := bL ((l.take i).map foldB)) (ce := [V.int .u8 (c.toNat : Int)]) (CZ := bL (l.drop (i + 1))) (q := i * 1) tT_ok 0 0 hh rfl hS hq rfl rfl rfl rfl) ?_)) | (refine kBin ?_; first | (refine LOps.ans (AnsL.add rfl rfl ?_) ?_; (focus (constructor <;> omega)))) | (refine kIdx ?_; first | (refine LOps.ans (AnsL.idxM tT_ok rfl rfl rfl rfl rfl hlt) ?_)))
        | (refine kWL ?_; first | (refine WL.seq ?_) | (refine WL.region (by kernel_rfl) ?_) | (refine WL.block ?_) | (refine WL.skip ?_) | (refine kCond ?_; first | (refine WL.condF rfl ?_) | (refine WL.condT' rfl ?_ ?_; (focus (first | (simp only [decide_eq_true_eq, decide_eq_false_iff_not, Bool.not_eq_true', Bool.not_eq_false', Int.ofNat_lt, Int.ofNat_le, Int.ofNat_inj, not_true_eq_false, not_false_eq_true]; omega))))))
        | (refine lthen_n ?_)
        | (refine lblock_n ?_)
      exact lbackH.of (i + 1) ⟨rfl, rfl, rfl, rfl, trivial⟩ (hT ▸ hh) (Sel.refl _) hlt (by omega)
  · have e : i = l.length := by omega
    subst e
    have hF : bL ((l.take l.length).map foldB ++ l.drop l.length) = bL (fold l) := by simp [fold]
    have hFl : l.length = (fold l).length := by simp [fold]
    repeat' first
      | (refine LOps.ans (AnsL.toStrH (b := fold l) tT_ok 0 hh rfl hF hFl rfl rfl rfl rfl rfl rfl rfl rfl rfl) ?_)
      | (refine kOps ?_; first | (refine LOps.nil ?_) | (refine LOps.ev tT_ok rfl ?_))
      | (refine kWL ?_; first | (refine WL.seq ?_) | (refine WL.region (by kernel_rfl) ?_) | (refine WL.exit ?_) | (refine WL.ret ?_) | (refine kCond ?_; first | (refine WL.condF' rfl ?_ ?_; (focus (first | (simp only [decide_eq_true_eq, decide_eq_false_iff_not, Bool.not_eq_true', Bool.not_eq_false', Int.ofNat_lt, Int.ofNat_le, Int.ofNat_inj, not_true_eq_false, not_false_eq_true]; omega))))))
      | (refine lthen_n ?_)
      | (refine lthen_e ?_)
      | (refine lblock_e ?_)
      | (refine lbackH_e ?_)
      | (refine LPost.r1 (r := .tmp 2) (.inl rfl) (Res1.tmp rfl) ?_)
    exact ⟨[], .scal rfl, List.nodup_nil⟩

end Go.Proofs.YtbnbmcplmipgdaaGreatDoor
