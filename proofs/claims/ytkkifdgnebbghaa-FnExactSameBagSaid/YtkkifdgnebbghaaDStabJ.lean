/-
  Rows in memory of one's own, sorted by insertion. Own work; no condition.
-/
import Derived.Test.YtkkifdgnebbghaaDStabI
namespace Go.Proofs.Ytkkifdgnebbghaa
open Go
set_option linter.unusedSimpArgs false
set_option linter.unusedVariables false

set_option maxHeartbeats 2000000 in
theorem insertion_c {A M Z : List (List Val)} {c l n : Nat} {rest : List V} {za zb : Int} (ha : za = (A.length : Int)) (hb : zb = ((A.length + M.length : Nat) : Int)) (hl : n = (A ++ M ++ Z).length) (hbig : n ≤ 1048576) (hrow : ∀ x ∈ M, x.length ≤ 1048576) :
    SrtC Try.prog 32 [.slm (.is c) l 0 n, .int .i64 za, .int .i64 zb, .fn 25 []] l rest (A ++ M ++ Z) (fun ys => ∃ M', ys = A ++ M' ++ Z ∧ M'.Perm M ∧ Srt cRow M') := by
  intro s H hh
  simp only [List.length_append] at hl
  refine LCalls.body0 Try.func32 rfl (by kernel_rfl) ?_
  repeat' first
    | (refine kOps ?_; first | (refine LOps.nil ?_) | (refine LOps.ev tT_ok rfl ?_) | (refine kBin ?_; first | (refine LOps.ans (AnsL.add rfl rfl ?_) ?_; (focus (constructor <;> omega)))))
    | (refine kWL ?_; first | (refine WL.seq ?_) | (refine WL.region (by kernel_rfl) ?_) | (refine WL.block ?_))
    | (refine lthen_n ?_)
  refine WL.loopH (fun y : Nat × List (List Val) => M.length - y.1) (fun y => [(0, .slm (.is c) l 0 n), (1, .int .i64 za), (2, .int .i64 zb), (3, .fn 25 []), (8, .int .i64 (za + (y.1 : Int)))]) (fun y => .cell l (rowV (A ++ y.2 ++ (M.drop y.1 ++ Z)) rest) :: H)
    (fun y => 1 ≤ y.1 ∧ y.2.Perm (M.take y.1) ∧ Srt cRow y.2) (1, M.take 1) ⟨Nat.le_refl _, .refl _, ?_⟩ ⟨rfl, rfl, rfl, rfl, rfl, trivial⟩ (by rw [← List.append_assoc, List.append_assoc A, List.take_append_drop]; exact hh) (Sel.refl _) (fun y s hI hh => ?_)
  · unfold Srt
    cases M with
    | nil => exact .nil
    | cons x M => exact Srt.one x
  obtain ⟨k, S0⟩ := y
  obtain ⟨h1, h2, h3⟩ := hI
  dsimp only at h1 h2 h3 hh ⊢
  have hS := h2.length_eq
  rw [List.length_take] at hS
  rcases Nat.lt_or_ge k M.length with hlt | hge
  · have hk1 : za + (k : Int) < zb := by omega
    rw [List.drop_eq_getElem_cons hlt, List.cons_append] at hh
    have hx := hrow M[k] (List.getElem_mem hlt)
    have hS0 : ∀ p ∈ S0, p.length ≤ 1048576 := fun p hp => hrow p (List.mem_of_mem_take (h2.subset hp))
    have hT : M.take (k + 1) = M.take k ++ [M[k]] := List.take_succ_eq_append_getElem hlt
    have hD : (M.drop (k + 1) ++ Z).length = M.length - (k + 1) + Z.length := by rw [List.length_append, List.length_drop]
    generalize M[k] = x at hh hx hT
    generalize hTd : M.drop (k + 1) ++ Z = T at hh hD
    obtain ⟨zi, hzi⟩ : ∃ zi : Int, za + (k : Int) = zi := ⟨_, rfl⟩
    obtain ⟨zj, hzj⟩ : ∃ zj : Int, zi + 1 = zj := ⟨_, rfl⟩
    have hbk : zj = za + ((k + 1 : Nat) : Int) := by omega
    rw [hzi] at hk1 ⊢
    repeat' first
      | (refine kOps ?_; first | (refine LOps.nil ?_) | (refine LOps.ev tT_ok rfl ?_))
      | (refine kWL ?_; first | (refine WL.seq ?_) | (refine WL.region (by kernel_rfl) ?_) | (refine WL.block ?_) | (refine WL.skip ?_) | (refine kCond ?_; first | (refine WL.condT' rfl ?_ ?_; (focus (first | (exact decide_eq_true (by assumption)))))))
      | (refine lthen_n ?_)
    refine WL.loopH (fun y : Nat × List (List Val) × List (List Val) => y.2.1.length) (fun y => [(0, .slm (.is c) l 0 n), (1, .int .i64 za), (2, .int .i64 zb), (3, .fn 25 []), (8, .int .i64 zi), (9, .int .i64 (y.1 : Int))]) (fun y => .cell l (rowV (A ++ y.2.1 ++ x :: (y.2.2 ++ T)) rest) :: H)
      (fun y => y.1 = A.length + y.2.1.length ∧ y.2.1 ++ y.2.2 = S0 ∧ ∀ q ∈ y.2.2, leF cRow x q) (A.length + k, S0, []) ⟨by dsimp only; omega, List.append_nil _, fun q hq => by cases hq⟩ ⟨rfl, rfl, rfl, rfl, rfl, by rw [show ((A.length + k : Nat) : Int) = zi by omega]; rfl, trivial⟩ hh (Sel.refl _) (fun y s hI hh => ?_)
    obtain ⟨J, P, Q⟩ := y
    obtain ⟨g0, g1, g2⟩ := hI
    dsimp only at g0 g1 g2 hh ⊢
    have hfin : ∀ (s : S), Hold s s.next (.cell l (rowV (A ++ P ++ x :: (Q ++ T)) rest) :: H) → (∀ p ∈ P, leF cRow p x) → Hold s s.next (.cell l (rowV (A ++ (P ++ x :: Q) ++ T) rest) :: H) ∧ (P ++ x :: Q).Perm (M.take (k + 1)) ∧ Srt cRow (P ++ x :: Q) := by
      intro s hs hp
      refine ⟨by simpa only [List.append_assoc, List.cons_append] using hs, ?_, ?_⟩
      · rw [hT]
        have e1 : (P ++ x :: Q).Perm (x :: (P ++ Q)) := List.perm_middle
        have e2 : (M.take k ++ [x]).Perm (x :: M.take k) := List.perm_append_singleton ..
        rw [g1] at e1
        exact e1.trans ((h2.cons x).trans e2.symm)
      · rw [← g1] at h3
        exact h3.ins cRow_ordr g2 hp
    rcases List.eq_nil_or_concat P with rfl | ⟨P', p, rfl⟩
    · have j0 : ¬ (J : Int) > za := by simp only [List.length_nil] at g0; omega
      repeat' first
        | (refine kOps ?_; first | (refine LOps.nil ?_) | (refine kG ?_; first | (refine LOps.gF rfl rfl rfl ?_)) | (refine LOps.ev tT_ok rfl ?_) | (refine kBin ?_; first | (refine LOps.ans (AnsL.add rfl rfl ?_) ?_; (focus (constructor <;> omega)))))
        | (refine kWL ?_; first | (refine WL.seq ?_) | (refine WL.region (by kernel_rfl) ?_) | (refine WL.drawn (id := 4) [0, 1, 2, 3, 4, 5, 6, 7, 8, 9, 10, 11, 12, 13, 14, 15, 16] [14] [[], [], [0, 1], [0, 1, 2], [0, 1, 2, 3], [0, 1, 2, 3], [0, 1, 2, 3], [0, 1, 2, 3, 5, 6], [0, 1, 2, 3, 5, 6, 7], [0, 1, 2, 3], [0, 1, 2, 3], [0, 1, 2, 3, 10], [0, 1, 2, 3, 9, 10, 11], [0, 1, 2, 3, 9, 10, 11, 12], [0, 1, 2, 3, 4, 5, 6, 7, 8, 9, 10, 11, 12, 13], [0, 1, 2, 3, 4, 5, 6, 7, 8, 9, 10, 11, 12, 13, 14], [0, 1, 2, 3, 4, 5, 6, 7, 8, 9, 10, 11, 12, 13, 14, 15]] (by kernel_rfl) (by kernel_rfl) ?_) | (refine WL.exit ?_) | (refine kCond ?_; first | (refine WL.condF rfl ?_)))
        | (refine kDr ?_; first | (refine LDr.nil ?_) | (refine LDr.fl rfl rfl (.ev tT_ok rfl) ?_) | (refine LDr.gF rfl rfl rfl rfl rfl ?_) | (refine LDr.eff rfl rfl rfl ?_) | (refine LDr.gD false rfl rfl rfl rfl ?_ ?_; (focus (first | (exact decide_eq_false (by assumption))))))
        | (refine lthen_n ?_)
        | (refine lthen_e ?_)
        | (refine lblock_n ?_)
        | (refine lblock_e ?_)
        | (refine lbackH_e ?_)
        | (refine And.intro ?_ ?_)
        | (exact StsL.nil)
      obtain ⟨w1, w2, w3⟩ := hfin s hh (fun p hp => by cases hp)
      rw [← hTd] at w1
      refine lbackH.of (k + 1, [] ++ x :: Q) ⟨rfl, rfl, rfl, rfl, ?_, trivial⟩ w1 (Sel.refl _) ⟨by dsimp only; omega, w2, w3⟩ (by dsimp only; omega)
      dsimp only
      rw [← hbk, ← hzj]; rfl
    · rw [List.concat_eq_append] at *
      obtain ⟨j, rfl⟩ : ∃ j, J = j + 1 := ⟨A.length + P'.length, by simp only [List.length_append, List.length_cons, List.length_nil] at g0; omega⟩
      have hj : j = A.length + P'.length := by simp only [List.length_append, List.length_cons, List.length_nil] at g0; omega
      have j0 : ((j + 1 : Nat) : Int) > za := by omega
      have hpl := hS0 p (by rw [← g1]; simp)
      have hE := fun t => implOrderRow_v x p hx hpl t
      have e1 : A ++ (P' ++ [p]) ++ x :: (Q ++ T) = (A ++ P') ++ p :: ([] ++ x :: (Q ++ T)) := by simp only [List.append_assoc, List.cons_append, List.nil_append]
      have e2 : A ++ P' ++ x :: ((p :: Q) ++ T) = (A ++ P') ++ x :: ([] ++ p :: (Q ++ T)) := by simp only [List.append_assoc, List.cons_append, List.nil_append]
      have a1 := swap_at1 (A ++ P') [] (Q ++ T) p x
      have a2 := swap_at2 (A ++ P') [] (Q ++ T) p x
      have a3 := swap_set2 (A ++ P') [] (Q ++ T) p x
      have p1 : (A ++ P').length = j := by rw [List.length_append, hj]
      have p2 : (A ++ P').length + 1 + ([] : List (List Val)).length = j + 1 := by rw [p1]; rfl
      rw [← e1, p1] at a1
      rw [← e1, p2] at a2
      rw [← e1, ← e2, p2, p1] at a3
      have hP := congrArg List.length g1
      simp only [List.length_append, List.length_cons, List.length_nil] at hP
      have hlen : (A ++ (P' ++ [p]) ++ x :: (Q ++ T)).length = n := by simp only [List.length_append, List.length_cons, List.length_nil, hD]; omega
      have hz1 : ((j + 1 : Nat) : Int) = ((j + 1 : Nat) : Int) := rfl
      have hz2 : ((j + 1 : Nat) : Int) - 1 = (j : Int) := by omega
      have b1 : j + 1 < n := by omega
      have b2 : j < n := by omega
      have d1 : (rowV (A ++ (P' ++ [p]) ++ x :: (Q ++ T)) rest)[j]? = some (Val.toVS p) := rowV_at a1
      have d2 : (rowV (A ++ (P' ++ [p]) ++ x :: (Q ++ T)) rest)[j + 1]? = some (Val.toVS x) := rowV_at a2
      have d3 : ((rowV (A ++ (P' ++ [p]) ++ x :: (Q ++ T)) rest).set (j + 1) (Val.toVS p)).set j (Val.toVS x) = rowV (A ++ P' ++ x :: ((p :: Q) ++ T)) rest := by
        rw [rowV_set (by omega), rowV_set (by rw [List.length_set]; omega), a3]
      have c1 : j + 1 < (rowV (A ++ (P' ++ [p]) ++ x :: (Q ++ T)) rest).length := by unfold rowV; rw [List.length_append, List.length_map, hlen]; omega
      have c2 : j < ((rowV (A ++ (P' ++ [p]) ++ x :: (Q ++ T)) rest).set (j + 1) (Val.toVS p)).length := by rw [List.length_set]; omega
      clear e1 e2 a1 a2 a3 p1 p2
      by_cases hc : cRow x p < 0
      · clear hfin
        generalize rowV (A ++ (P' ++ [p]) ++ x :: (Q ++ T)) rest = cs at hh c1 c2 d1 d2 d3
        have hxp : leF cRow x p := cRow_ordr.lt hc
        generalize cRow x p = r at hE hc
        generalize hK : j + 1 = K at *
        repeat' first
          | (refine kStore ?_ ; (first | (refine LOps.storeAt tT_ok 0 hh rfl rfl rfl rfl rfl rfl rfl rfl c1 rfl ?_) | (refine LOps.storeAt tT_ok 0 hh rfl rfl rfl rfl rfl rfl rfl rfl c2 rfl ?_)) ; intro s hh)
          | (refine kOps ?_; first | (refine LOps.nil ?_) | (refine kG ?_; first | (refine LOps.gT rfl rfl rfl ?_)) | (refine LOps.ev tT_ok rfl ?_) | (refine kBin ?_; first | (refine LOps.ans (AnsL.sub rfl rfl ?_) ?_; (focus (constructor <;> omega)))) | (refine kCall ?_; first | (refine LOps.ans (AnsL.callP rfl rfl rfl (ok25) (hE _)) ?_)))
          | (refine kWL ?_; first | (refine WL.seq ?_) | (refine WL.region (by kernel_rfl) ?_) | (refine WL.drawn (id := 4) [0, 1, 2, 3, 4, 5, 6, 7, 8, 9, 10, 11, 12, 13, 14, 15, 16] [14] [[], [], [0, 1], [0, 1, 2], [0, 1, 2, 3], [0, 1, 2, 3], [0, 1, 2, 3], [0, 1, 2, 3, 5, 6], [0, 1, 2, 3, 5, 6, 7], [0, 1, 2, 3], [0, 1, 2, 3], [0, 1, 2, 3, 10], [0, 1, 2, 3, 9, 10, 11], [0, 1, 2, 3, 9, 10, 11, 12], [0, 1, 2, 3, 4, 5, 6, 7, 8, 9, 10, 11, 12, 13], [0, 1, 2, 3, 4, 5, 6, 7, 8, 9, 10, 11, 12, 13, 14], [0, 1, 2, 3, 4, 5, 6, 7, 8, 9, 10, 11, 12, 13, 14, 15]] (by kernel_rfl) (by kernel_rfl) ?_) | (refine WL.drawn (id := 6) [0, 1, 2, 3, 4, 5, 6, 7, 8, 9, 10, 11, 12, 13, 14, 15, 16, 17] [15, 17] [[], [], [], [], [3], [], [], [6], [5, 6, 7], [5, 6, 7, 8], [], [], [10, 11], [10, 11, 12], [0, 1, 5, 6, 7, 8, 9, 10, 11, 12, 13], [0, 1, 5, 6, 7, 8, 9, 10, 11, 12, 13, 14], [0, 1, 2, 3, 4, 5, 6, 7, 8, 9, 10, 11, 12, 13, 14, 15], [0, 1, 2, 3, 4, 5, 6, 7, 8, 9, 10, 11, 12, 13, 14, 15, 16]] (by kernel_rfl) (by kernel_rfl) ?_) | (refine WL.block ?_) | (refine WL.skip ?_) | (refine kCond ?_; first | (refine WL.condT' rfl ?_ ?_; (focus (first | (exact decide_eq_true (by assumption)))))))
          | (refine kDr ?_; first | (refine LDr.nil ?_) | (refine LDr.fl rfl rfl (.ev tT_ok rfl) ?_) | (refine LDr.gT rfl rfl rfl rfl rfl (.ev tT_ok rfl) ?_) | (refine kDLoad rfl ?_; first | (refine LDr.fl rfl rfl (AnsL.loadAt tT_ok 0 hh rfl rfl rfl rfl rfl rfl d1) ?_) | (refine LDr.gT rfl rfl rfl rfl rfl (AnsL.loadAt tT_ok 0 hh rfl rfl rfl rfl rfl rfl d1) ?_) | (refine LDr.fl rfl rfl (AnsL.loadAt tT_ok 0 hh rfl rfl rfl rfl rfl rfl d2) ?_) | (refine LDr.gT rfl rfl rfl rfl rfl (AnsL.loadAt tT_ok 0 hh rfl rfl rfl rfl rfl rfl d2) ?_)) | (refine kDBin rfl ?_; first | (refine LDr.fl rfl rfl (AnsL.sub rfl rfl ?_) ?_; (focus (constructor <;> omega))) | (refine LDr.gT rfl rfl rfl rfl rfl (AnsL.sub rfl rfl ?_) ?_; (focus (constructor <;> omega)))) | (refine kDIdx rfl ?_; first | (refine LDr.fl rfl rfl (AnsL.idxAt tT_ok K rfl rfl rfl rfl rfl hz1 b1) ?_) | (refine LDr.gT rfl rfl rfl rfl rfl (AnsL.idxAt tT_ok K rfl rfl rfl rfl rfl hz1 b1) ?_) | (refine LDr.fl rfl rfl (AnsL.idxAt tT_ok j rfl rfl rfl rfl rfl hz2 b2) ?_) | (refine LDr.gT rfl rfl rfl rfl rfl (AnsL.idxAt tT_ok j rfl rfl rfl rfl rfl hz2 b2) ?_)) | (refine LDr.eff rfl rfl rfl ?_) | (refine LDr.gD true rfl rfl rfl rfl ?_ ?_; (focus (first | (exact decide_eq_true (by assumption))))))
          | (refine lthen_n ?_)
          | (refine lblock_n ?_)
          | (refine And.intro ?_ ?_)
          | (exact StsL.nil)
          | (refine StsL.cons ?_ ?_)
          | (refine StL.fl rfl rfl (.ev tT_ok rfl))
          | (refine StL.fl rfl rfl (AnsL.sub rfl rfl ?_); (focus (constructor <;> omega)))
        rw [d3] at hh
        refine lbackH.of (j, P', p :: Q) ⟨rfl, rfl, rfl, rfl, rfl, ?_, trivial⟩ hh (Sel.refl _) ⟨hj, ?_, fun q hq => ?_⟩ (by dsimp only; simp)
        · dsimp only
          rw [← hz2]; rfl
        · dsimp only; rw [← g1]; simp
        · cases hq with
          | head => exact hxp
          | tail _ hq => exact g2 q hq
      · have hpx : leF cRow p x := hc
        have hall : ∀ q ∈ P' ++ [p], leF cRow q x := by
          rw [← g1] at h3
          exact h3.left.lastLe cRow_ordr hpx
        generalize hcs : rowV (A ++ (P' ++ [p]) ++ x :: (Q ++ T)) rest = cs at hh d1 d2
        generalize cRow x p = r at hE hc
        generalize hK : j + 1 = K at *
        repeat' first
          | (refine kOps ?_; first | (refine LOps.nil ?_) | (refine kG ?_; first | (refine LOps.gT rfl rfl rfl ?_)) | (refine LOps.ev tT_ok rfl ?_) | (refine kBin ?_; first | (refine LOps.ans (AnsL.add rfl rfl ?_) ?_; (focus (constructor <;> omega)))) | (refine kCall ?_; first | (refine LOps.ans (AnsL.callP rfl rfl rfl (ok25) (hE _)) ?_)))
          | (refine kWL ?_; first | (refine WL.seq ?_) | (refine WL.region (by kernel_rfl) ?_) | (refine WL.drawn (id := 4) [0, 1, 2, 3, 4, 5, 6, 7, 8, 9, 10, 11, 12, 13, 14, 15, 16] [14] [[], [], [0, 1], [0, 1, 2], [0, 1, 2, 3], [0, 1, 2, 3], [0, 1, 2, 3], [0, 1, 2, 3, 5, 6], [0, 1, 2, 3, 5, 6, 7], [0, 1, 2, 3], [0, 1, 2, 3], [0, 1, 2, 3, 10], [0, 1, 2, 3, 9, 10, 11], [0, 1, 2, 3, 9, 10, 11, 12], [0, 1, 2, 3, 4, 5, 6, 7, 8, 9, 10, 11, 12, 13], [0, 1, 2, 3, 4, 5, 6, 7, 8, 9, 10, 11, 12, 13, 14], [0, 1, 2, 3, 4, 5, 6, 7, 8, 9, 10, 11, 12, 13, 14, 15]] (by kernel_rfl) (by kernel_rfl) ?_) | (refine WL.exit ?_) | (refine kCond ?_; first | (refine WL.condF' rfl ?_ ?_; (focus (first | (exact decide_eq_false (by assumption)))))))
          | (refine kDr ?_; first | (refine LDr.nil ?_) | (refine LDr.fl rfl rfl (.ev tT_ok rfl) ?_) | (refine LDr.gT rfl rfl rfl rfl rfl (.ev tT_ok rfl) ?_) | (refine kDLoad rfl ?_; first | (refine LDr.gT rfl rfl rfl rfl rfl (AnsL.loadAt tT_ok 0 hh rfl rfl rfl rfl rfl rfl d1) ?_) | (refine LDr.gT rfl rfl rfl rfl rfl (AnsL.loadAt tT_ok 0 hh rfl rfl rfl rfl rfl rfl d2) ?_)) | (refine kDBin rfl ?_; first | (refine LDr.gT rfl rfl rfl rfl rfl (AnsL.sub rfl rfl ?_) ?_; (focus (constructor <;> omega)))) | (refine kDIdx rfl ?_; first | (refine LDr.gT rfl rfl rfl rfl rfl (AnsL.idxAt tT_ok K rfl rfl rfl rfl rfl hz1 b1) ?_) | (refine LDr.gT rfl rfl rfl rfl rfl (AnsL.idxAt tT_ok j rfl rfl rfl rfl rfl hz2 b2) ?_)) | (refine LDr.eff rfl rfl rfl ?_) | (refine LDr.gD true rfl rfl rfl rfl ?_ ?_; (focus (first | (exact decide_eq_true (by assumption))))))
          | (refine lthen_n ?_)
          | (refine lthen_e ?_)
          | (refine lblock_n ?_)
          | (refine lblock_e ?_)
          | (refine lbackH_e ?_)
          | (refine And.intro ?_ ?_)
          | (exact StsL.nil)
        rw [← hcs] at hh
        obtain ⟨w1, w2, w3⟩ := hfin s hh hall
        rw [← hTd] at w1
        refine lbackH.of (k + 1, (P' ++ [p]) ++ x :: Q) ⟨rfl, rfl, rfl, rfl, ?_, trivial⟩ w1 (Sel.refl _) ⟨by dsimp only; omega, w2, w3⟩ (by dsimp only; omega)
        dsimp only
        rw [← hbk, ← hzj]; rfl
  · have hk1 : ¬ za + (k : Int) < zb := by omega
    repeat' first
      | (refine kOps ?_; first | (refine LOps.nil ?_) | (refine LOps.ev tT_ok rfl ?_))
      | (refine kWL ?_; first | (refine WL.seq ?_) | (refine WL.region (by kernel_rfl) ?_) | (refine WL.exit ?_) | (refine kCond ?_; first | (refine WL.condF' rfl ?_ ?_; (focus (first | (exact decide_eq_false (by assumption)))))))
      | (refine lthen_n ?_)
      | (refine lthen_e ?_)
      | (refine lblock_e ?_)
      | (refine lbackH_e ?_)
    rw [List.drop_of_length_le hge, List.nil_append] at hh
    rw [List.take_of_length_le hge] at h2
    exact ⟨⟨[], fun σ _ => rfl, rfl, _, s, ⟨S0, rfl, h2, h3⟩, rfl, hh⟩⟩

end Go.Proofs.Ytkkifdgnebbghaa
