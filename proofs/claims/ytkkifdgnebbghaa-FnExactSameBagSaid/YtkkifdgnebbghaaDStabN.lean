/-
  A sorted row and one behind it, merged in place: the library's symMerge. Own work; no condition.
-/
import Derived.Test.YtkkifdgnebbghaaDStabM
namespace Go.Proofs.Ytkkifdgnebbghaa
open Go
set_option linter.unusedSimpArgs false
set_option linter.unusedVariables false

theorem getD_at {l : List (List Val)} {q : Nat} (h : q < l.length) : l[q]? = some (l.getD q []) := by simp [List.getD, h]
theorem getD_mem {l : List (List Val)} {q : Nat} (h : q < l.length) : l.getD q [] ∈ l := by
  have : l.getD q [] = l[q] := by simp [List.getD, h]
  rw [this]; exact List.getElem_mem h
theorem sorted_nil {U V : List (List Val)} (hu : Srt cRow U) (hv : Srt cRow V) (h : U = [] ∨ V = []) : Srt cRow (U ++ V) := by
  rcases h with h | h
  · rw [h]; exact hv
  · rw [h, List.append_nil]; exact hu
set_option maxHeartbeats 4000000 in
theorem sym_last {A U Z : List (List Val)} {w : List Val} {c l n : Nat} {rest : List Go.Proofs.Ytkkifdgnebbghaa.V} {za zm zb : Int} (hU : 1 < U.length) (ha : za = (A.length : Int)) (hm : zm = ((A.length + U.length : Nat) : Int)) (hb : zb = ((A.length + U.length + 1 : Nat) : Int)) (hl : n = A.length + U.length + 1 + Z.length) (hbig : n ≤ 1048576) (hw : w.length ≤ 1048576) (hrow : ∀ x ∈ U, x.length ≤ 1048576) (sU : Srt cRow U) :
    SrtC Try.prog 33 [.slm (.is c) l 0 n, .int .i64 za, .int .i64 zm, .int .i64 zb, .fn 25 []] l rest (A ++ U ++ ([w] ++ Z)) (fun ys => ∃ W, ys = A ++ W ++ Z ∧ W.Perm (U ++ [w]) ∧ Srt cRow W) := by
  intro s H hh
  have hma : ¬ zm - za = 1 := by omega
  have hmb : zb - zm = 1 := by omega
  have hau : (A ++ U ++ ([w] ++ Z))[A.length + U.length]? = some w := by
    rw [List.getElem?_append_right (by simp), List.length_append, Nat.sub_self]; rfl
  have hav : ∀ q (hq : q < U.length), (A ++ U ++ ([w] ++ Z))[A.length + q]? = some U[q] := fun q hq => by
    rw [List.getElem?_append_left (by rw [List.length_append]; omega), List.getElem?_append_right (by omega), Nat.add_sub_cancel_left, List.getElem?_eq_getElem hq]
  have d1 : (rowV (A ++ U ++ ([w] ++ Z)) rest)[A.length + U.length]? = some (Val.toVS w) := rowV_at hau
  refine LCalls.body0 Try.func33 rfl (by kernel_rfl) ?_
  repeat' first
    | (refine kOps ?_; first | (refine LOps.nil ?_) | (refine LOps.ev tT_ok rfl ?_) | (refine kBin ?_; first | (refine LOps.ans (AnsL.sub rfl rfl ?_) ?_; (focus (constructor <;> omega)))))
    | (refine kWL ?_; first | (refine WL.seq ?_) | (refine WL.region (by kernel_rfl) ?_) | (refine WL.block ?_) | (refine WL.skip ?_) | (refine kCond ?_; first | (refine WL.condT' rfl ?_ ?_; (focus (first | (exact decide_eq_true (by assumption))))) | (refine WL.condF' rfl ?_ ?_; (focus (first | (exact decide_eq_false (by assumption)))))))
    | (refine lthen_n ?_)
  refine WL.loopH (fun y : Nat × Nat => y.2 - y.1) (fun y => [(0, .slm (.is c) l 0 n), (1, .int .i64 za), (2, .int .i64 zm), (3, .int .i64 zb), (4, .fn 25 []), (14, .int .i64 (y.1 : Int)), (15, .int .i64 (y.2 : Int))]) (fun y => .cell l (rowV (A ++ U ++ ([w] ++ Z)) rest) :: H)
    (fun y => A.length ≤ y.1 ∧ y.1 ≤ y.2 ∧ y.2 ≤ A.length + U.length ∧ (∀ x ∈ U.take (y.1 - A.length), leF cRow x w) ∧ (∀ x ∈ U.drop (y.2 - A.length), leF cRow w x)) (A.length, A.length + U.length)
    ⟨by omega, by omega, by omega, by simp, by simp⟩ ⟨rfl, rfl, rfl, rfl, rfl, by rw [← ha]; rfl, by rw [← hm]; rfl, trivial⟩ hh (Sel.refl _) (fun y s hI hh => ?_)
  obtain ⟨i, j⟩ := y
  obtain ⟨g1, g2, g3, g4, g5⟩ := hI
  dsimp only at g1 g2 g3 g4 g5 hh ⊢
  by_cases hij : i < j
  · have hij' : (i : Int) < (j : Int) := by omega
    have hmid := mid_eq (x := (i : Int) + (j : Int)) (by omega) (by omega)
    obtain ⟨q, hq⟩ : ∃ q : Nat, (i + j) / 2 = A.length + q := ⟨(i + j) / 2 - A.length, by omega⟩
    have hqV : q < U.length := by omega
    have d2 := rowV_at (rest := rest) (hav q hqV)
    have hE := fun t => implOrderRow_v w U[q] hw (hrow _ (List.getElem_mem hqV)) t
    have hz2 : ((i : Int) + (j : Int)) / 2 = ((A.length + q : Nat) : Int) := by omega
    have s1 : ∀ x ∈ U.take (q + 1), leF cRow x U[q] := take_all fun k hk hkq => sU.at cRow_ordr hqV (by omega)
    have s2 : ∀ x ∈ U.drop q, leF cRow U[q] x := drop_all fun k hk hkq => sU.at cRow_ordr hk hkq
    have b1 : A.length + U.length < n := by omega
    have b2 : A.length + q < n := by omega
    generalize hcs : rowV (A ++ U ++ ([w] ++ Z)) rest = cs at hh d1 d2
    generalize hv : U[q] = u at d2 hE s1 s2
    obtain ⟨K, hK⟩ : ∃ K : Nat, A.length + q = K := ⟨_, rfl⟩
    obtain ⟨a0, ha0⟩ : ∃ a0 : Nat, A.length + U.length = a0 := ⟨_, rfl⟩
    have hza : zm = (a0 : Int) := by omega
    rw [hK] at hz2 b2 d2
    rw [ha0] at b1 d1
    by_cases hc : cRow w u < 0
    · have hwu : leF cRow w u := cRow_ordr.lt hc
      generalize cRow w u = r at hE hc
      repeat' first
        | (refine kOps ?_; first | (refine LOps.nil ?_) | (refine LOps.ev tT_ok rfl ?_) | (refine kBin ?_; first | (refine LOps.ans (AnsL.add rfl rfl ?_) ?_; (focus (constructor <;> omega)))))
        | (refine kWL ?_; first | (refine WL.seq ?_) | (refine WL.region (by kernel_rfl) ?_) | (refine WL.block ?_) | (refine WL.skip ?_) | (refine kCond ?_; first | (refine WL.condT' rfl ?_ ?_; (focus (first | (exact decide_eq_true (by assumption)))))))
        | (refine lthen_n ?_)
      rw [hmid, hz2]
      repeat' first
        | (refine kOps ?_; first | (refine LOps.nil ?_) | (refine LOps.ev tT_ok rfl ?_) | (refine kCall ?_; first | (refine LOps.ans (AnsL.callP rfl rfl rfl (ok25) (hE _)) ?_)))
        | (refine kWL ?_; first | (refine WL.region (by kernel_rfl) ?_) | (refine WL.drawn (id := 17) [0, 1, 2, 3, 4, 5, 6, 7, 8, 9, 10, 11] [9] [[], [], [], [1, 2], [1, 2, 3], [], [], [5, 6], [5, 6, 7], [0, 1, 2, 3, 4, 5, 6, 7, 8], [0, 1, 2, 3, 4, 5, 6, 7, 8, 9], [0, 1, 2, 3, 4, 5, 6, 7, 8, 9, 10]] (by kernel_rfl) (by kernel_rfl) ?_) | (refine kCond ?_; first | (refine WL.condF' rfl ?_ ?_; (focus (first | (simp only [decide_eq_true_eq, decide_eq_false_iff_not, Bool.not_eq_true', Bool.not_eq_false', Int.ofNat_lt, Int.ofNat_le, Int.ofNat_inj, not_true_eq_false, not_false_eq_true]; omega))))))
        | (refine kDr ?_; first | (refine LDr.nil ?_) | (refine LDr.fl rfl rfl (.ev tT_ok rfl) ?_) | (refine kDLoad rfl ?_; first | (refine LDr.fl rfl rfl (AnsL.loadAt tT_ok 0 hh rfl rfl rfl rfl rfl rfl d1) ?_) | (refine LDr.fl rfl rfl (AnsL.loadAt tT_ok 0 hh rfl rfl rfl rfl rfl rfl d2) ?_)) | (refine kDIdx rfl ?_; first | (refine LDr.fl rfl rfl (AnsL.idxAt tT_ok K rfl rfl rfl rfl rfl rfl b2) ?_) | (refine LDr.fl rfl rfl (AnsL.idxAt tT_ok a0 rfl rfl rfl rfl rfl hza b1) ?_)) | (refine LDr.eff rfl rfl rfl ?_))
        | (refine lthen_n ?_)
        | (refine lblock_n ?_)
        | (refine And.intro ?_ ?_)
        | (exact StsL.nil)
      refine lbackH.of (i, K) ⟨rfl, rfl, rfl, rfl, rfl, rfl, rfl, trivial⟩ hh (Sel.refl _) ⟨g1, by dsimp only; omega, by dsimp only; omega, g4, ?_⟩ (by dsimp only; omega)
      dsimp only
      rw [show K - A.length = q by omega]
      exact fun x hx => cRow_ordr.trans _ _ _ hwu (s2 x hx)
    · have hwu : leF cRow u w := hc
      generalize cRow w u = r at hE hc
      repeat' first
        | (refine kOps ?_; first | (refine LOps.nil ?_) | (refine LOps.ev tT_ok rfl ?_) | (refine kBin ?_; first | (refine LOps.ans (AnsL.add rfl rfl ?_) ?_; (focus (constructor <;> omega)))))
        | (refine kWL ?_; first | (refine WL.seq ?_) | (refine WL.region (by kernel_rfl) ?_) | (refine WL.block ?_) | (refine WL.skip ?_) | (refine kCond ?_; first | (refine WL.condT' rfl ?_ ?_; (focus (first | (exact decide_eq_true (by assumption)))))))
        | (refine lthen_n ?_)
      rw [hmid, hz2]
      repeat' first
        | (refine kOps ?_; first | (refine LOps.nil ?_) | (refine LOps.ev tT_ok rfl ?_) | (refine kBin ?_; first | (refine LOps.ans (AnsL.add rfl rfl ?_) ?_; (focus (constructor <;> omega)))) | (refine kCall ?_; first | (refine LOps.ans (AnsL.callP rfl rfl rfl (ok25) (hE _)) ?_)))
        | (refine kWL ?_; first | (refine WL.region (by kernel_rfl) ?_) | (refine WL.drawn (id := 17) [0, 1, 2, 3, 4, 5, 6, 7, 8, 9, 10, 11] [9] [[], [], [], [1, 2], [1, 2, 3], [], [], [5, 6], [5, 6, 7], [0, 1, 2, 3, 4, 5, 6, 7, 8], [0, 1, 2, 3, 4, 5, 6, 7, 8, 9], [0, 1, 2, 3, 4, 5, 6, 7, 8, 9, 10]] (by kernel_rfl) (by kernel_rfl) ?_) | (refine kCond ?_; first | (refine WL.condT' rfl ?_ ?_; (focus (first | (simp only [decide_eq_true_eq, decide_eq_false_iff_not, Bool.not_eq_true', Bool.not_eq_false', Int.ofNat_lt, Int.ofNat_le, Int.ofNat_inj, not_true_eq_false, not_false_eq_true]; omega))))))
        | (refine kDr ?_; first | (refine LDr.nil ?_) | (refine LDr.fl rfl rfl (.ev tT_ok rfl) ?_) | (refine kDLoad rfl ?_; first | (refine LDr.fl rfl rfl (AnsL.loadAt tT_ok 0 hh rfl rfl rfl rfl rfl rfl d1) ?_) | (refine LDr.fl rfl rfl (AnsL.loadAt tT_ok 0 hh rfl rfl rfl rfl rfl rfl d2) ?_)) | (refine kDIdx rfl ?_; first | (refine LDr.fl rfl rfl (AnsL.idxAt tT_ok K rfl rfl rfl rfl rfl rfl b2) ?_) | (refine LDr.fl rfl rfl (AnsL.idxAt tT_ok a0 rfl rfl rfl rfl rfl hza b1) ?_)) | (refine LDr.eff rfl rfl rfl ?_))
        | (refine lthen_n ?_)
        | (refine lblock_n ?_)
        | (refine And.intro ?_ ?_)
        | (exact StsL.nil)
      refine lbackH.of (K + 1, j) ⟨rfl, rfl, rfl, rfl, rfl, rfl, rfl, trivial⟩ hh (Sel.refl _) ⟨by dsimp only; omega, by dsimp only; omega, g3, ?_, g5⟩ (by dsimp only; omega)
      dsimp only
      rw [show K + 1 - A.length = q + 1 by omega]
      exact fun x hx => cRow_ordr.trans _ _ _ (s1 x hx) hwu
  · have hij' : ¬ (i : Int) < (j : Int) := by omega
    have hji : j = i := by omega
    subst hji
    have hU12 : U.take (j - A.length) ++ U.drop (j - A.length) = U := List.take_append_drop ..
    have l1 : (U.take (j - A.length)).length = j - A.length := by rw [List.length_take]; omega
    generalize U.take (j - A.length) = U1 at g4 hU12 l1
    generalize U.drop (j - A.length) = U2 at g5 hU12
    subst hU12
    have sW : Srt cRow (U1 ++ w :: U2) := sU.ins cRow_ordr g5 g4
    simp only [List.length_append] at hl hm hU
    have hj : (j : Int) = ((A.length + U1.length : Nat) : Int) := by omega
    clear hav d1 hau
    have hst : Hold s s.next (.cell l (rowV (A ++ U1 ++ U2.take U2.length ++ w :: (U2.drop U2.length ++ Z)) rest) :: H) := by simpa only [List.take_length, List.drop_length, List.append_nil, List.append_assoc, List.cons_append, List.nil_append] using hh
    repeat' first
      | (refine kOps ?_; first | (refine LOps.nil ?_) | (refine LOps.ev tT_ok rfl ?_))
      | (refine kWL ?_; first | (refine WL.seq ?_) | (refine WL.region (by kernel_rfl) ?_) | (refine WL.block ?_) | (refine WL.exit ?_) | (refine kCond ?_; first | (refine WL.condF' rfl ?_ ?_; (focus (first | (exact decide_eq_false (by assumption)))))))
      | (refine lthen_n ?_)
      | (refine lthen_e ?_)
      | (refine lblock_e ?_)
      | (refine lbackH_e ?_)
    refine WL.loopH (fun y : Nat × Nat => y.1) (fun y => [(0, .slm (.is c) l 0 n), (14, .int .i64 (j : Int)), (17, .int .i64 (y.2 : Int))]) (fun y => .cell l (rowV (A ++ U1 ++ U2.take y.1 ++ w :: (U2.drop y.1 ++ Z)) rest) :: H)
      (fun y => y.1 ≤ U2.length ∧ y.2 = A.length + U1.length + y.1) (U2.length, A.length + U1.length + U2.length) ⟨Nat.le_refl _, rfl⟩ ⟨rfl, rfl, by rw [show ((A.length + U1.length + U2.length : Nat) : Int) = zm by omega]; rfl, trivial⟩ hst (Sel.refl _) (fun y s ht hh => ?_)
    obtain ⟨t, K1⟩ := y
    obtain ⟨ht, hK1⟩ := ht
    dsimp only at ht hK1 hh ⊢
    cases t with
    | succ t =>
      have hlt : t < U2.length := by omega
      have e1 : A ++ U1 ++ U2.take (t + 1) ++ w :: (U2.drop (t + 1) ++ Z) = (A ++ U1 ++ U2.take t) ++ U2[t] :: ([] ++ w :: (U2.drop (t + 1) ++ Z)) := by
        rw [List.take_succ_eq_append_getElem hlt]
        simp only [List.append_assoc, List.cons_append, List.nil_append]
      have e2 : A ++ U1 ++ U2.take t ++ w :: (U2.drop t ++ Z) = (A ++ U1 ++ U2.take t) ++ w :: ([] ++ U2[t] :: (U2.drop (t + 1) ++ Z)) := by
        rw [List.drop_eq_getElem_cons hlt]; rfl
      have a1 := swap_at1 (A ++ U1 ++ U2.take t) [] (U2.drop (t + 1) ++ Z) U2[t] w
      have a2 := swap_at2 (A ++ U1 ++ U2.take t) [] (U2.drop (t + 1) ++ Z) U2[t] w
      have a3 := swap_set2 (A ++ U1 ++ U2.take t) [] (U2.drop (t + 1) ++ Z) U2[t] w
      obtain ⟨K, hK⟩ : ∃ K : Nat, A.length + U1.length + t = K := ⟨_, rfl⟩
      have p1 : (A ++ U1 ++ U2.take t).length = K := by rw [List.length_append, List.length_append, List.length_take]; omega
      have p2 : (A ++ U1 ++ U2.take t).length + 1 + ([] : List (List Val)).length = K1 := by rw [p1]; simp only [List.length_nil]; omega
      rw [← e1, p1] at a1
      rw [← e1, p2] at a2
      rw [← e1, ← e2, p2, p1] at a3
      have hlen2 : (A ++ U1 ++ U2.take (t + 1) ++ w :: (U2.drop (t + 1) ++ Z)).length = n := by simp only [List.length_append, List.length_cons, List.length_take, List.length_drop]; omega
      have d1 := rowV_at (rest := rest) a1
      have d2 := rowV_at (rest := rest) a2
      have d3 : ((rowV (A ++ U1 ++ U2.take (t + 1) ++ w :: (U2.drop (t + 1) ++ Z)) rest).set K1 (Val.toVS U2[t])).set K (Val.toVS w) = rowV (A ++ U1 ++ U2.take t ++ w :: (U2.drop t ++ Z)) rest := by
        rw [rowV_set (by omega), rowV_set (by rw [List.length_set]; omega), a3]
      have c1 : K1 < (rowV (A ++ U1 ++ U2.take (t + 1) ++ w :: (U2.drop (t + 1) ++ Z)) rest).length := by unfold rowV; rw [List.length_append, List.length_map, hlen2]; omega
      have c2 : K < ((rowV (A ++ U1 ++ U2.take (t + 1) ++ w :: (U2.drop (t + 1) ++ Z)) rest).set K1 (Val.toVS U2[t])).length := by rw [List.length_set]; unfold rowV; rw [List.length_append, List.length_map, hlen2]; omega
      have hk1 : (K1 : Int) > (j : Int) := by omega
      have b1 : K < n := by omega
      have b2 : K1 < n := by omega
      clear a1 a2 a3 e1 e2
      generalize rowV (A ++ U1 ++ U2.take (t + 1) ++ w :: (U2.drop (t + 1) ++ Z)) rest = cs at hh c1 c2 d1 d2 d3
      generalize U2[t] = u at d1 d3 c2
      have hz2 : (K1 : Int) - 1 = (K : Int) := by omega
      repeat' first
        | (refine kStore ?_ ; (first | (refine LOps.storeAt tT_ok 0 hh rfl rfl rfl rfl rfl rfl rfl rfl c1 rfl ?_) | (refine LOps.storeAt tT_ok 0 hh rfl rfl rfl rfl rfl rfl rfl rfl c2 rfl ?_)) ; intro s hh)
        | (refine kOps ?_; first | (refine LOps.nil ?_) | (refine LOps.ev tT_ok rfl ?_) | (refine kBin ?_; first | (refine LOps.ans (AnsL.sub rfl rfl ?_) ?_; (focus (constructor <;> omega)))))
        | (refine kWL ?_; first | (refine WL.seq ?_) | (refine WL.region (by kernel_rfl) ?_) | (refine WL.drawn (id := 23) [0, 1, 2, 3, 4, 5, 6, 7, 8, 9, 10, 11, 12, 13, 14, 15, 16, 17] [15, 17] [[], [], [], [], [3], [], [], [6], [5, 6, 7], [5, 6, 7, 8], [], [], [10, 11], [10, 11, 12], [0, 1, 5, 6, 7, 8, 9, 10, 11, 12, 13], [0, 1, 5, 6, 7, 8, 9, 10, 11, 12, 13, 14], [0, 1, 2, 3, 4, 5, 6, 7, 8, 9, 10, 11, 12, 13, 14, 15], [0, 1, 2, 3, 4, 5, 6, 7, 8, 9, 10, 11, 12, 13, 14, 15, 16]] (by kernel_rfl) (by kernel_rfl) ?_) | (refine WL.block ?_) | (refine WL.skip ?_) | (refine kCond ?_; first | (refine WL.condT' rfl ?_ ?_; (focus (first | (exact decide_eq_true (by assumption)))))))
        | (refine kDr ?_; first | (refine LDr.nil ?_) | (refine LDr.fl rfl rfl (.ev tT_ok rfl) ?_) | (refine kDLoad rfl ?_; first | (refine LDr.fl rfl rfl (AnsL.loadAt tT_ok 0 hh rfl rfl rfl rfl rfl rfl d1) ?_) | (refine LDr.fl rfl rfl (AnsL.loadAt tT_ok 0 hh rfl rfl rfl rfl rfl rfl d2) ?_)) | (refine kDBin rfl ?_; first | (refine LDr.fl rfl rfl (AnsL.sub rfl rfl ?_) ?_; (focus (constructor <;> omega)))) | (refine kDIdx rfl ?_; first | (refine LDr.fl rfl rfl (AnsL.idxAt tT_ok K1 rfl rfl rfl rfl rfl rfl b2) ?_) | (refine LDr.fl rfl rfl (AnsL.idxAt tT_ok K rfl rfl rfl rfl rfl hz2 b1) ?_)) | (refine LDr.eff rfl rfl rfl ?_))
        | (refine lthen_n ?_)
        | (refine lblock_n ?_)
        | (refine And.intro ?_ ?_)
        | (exact StsL.nil)
        | (refine StsL.cons ?_ ?_)
        | (refine StL.fl rfl rfl (.ev tT_ok rfl))
        | (refine StL.fl rfl rfl (AnsL.sub rfl rfl ?_); (focus (constructor <;> omega)))
      rw [d3] at hh
      refine lbackH.of (t, K) ⟨rfl, rfl, ?_, trivial⟩ hh (Sel.refl _) ⟨by dsimp only; omega, hK.symm⟩ (by dsimp only; omega)
      dsimp only
      rw [← hz2]; rfl
    | zero =>
      have hk1 : ¬ (K1 : Int) > (j : Int) := by omega
      rw [List.take_zero, List.drop_zero, List.append_nil] at hh
      repeat' first
        | (refine kOps ?_; first | (refine LOps.nil ?_) | (refine LOps.ev tT_ok rfl ?_))
        | (refine kWL ?_; first | (refine WL.seq ?_) | (refine WL.region (by kernel_rfl) ?_) | (refine WL.exit ?_) | (refine WL.ret ?_) | (refine kCond ?_; first | (refine WL.condF' rfl ?_ ?_; (focus (first | (exact decide_eq_false (by assumption)))))))
        | (refine lthen_n ?_)
        | (refine lthen_r ?_)
        | (refine lthen_e ?_)
        | (refine lblock_e ?_)
        | (refine lbackH_e ?_)
        | (refine LPost.r0 (.inl rfl) ?_)
        | (refine And.intro ?_ ?_)
      · rfl
      refine ⟨A ++ (U1 ++ w :: U2) ++ Z, s, ⟨_, rfl, ?_, sW⟩, rfl, ?_⟩
      · exact List.perm_middle.trans (List.perm_append_singleton ..).symm
      · simpa only [List.append_assoc, List.cons_append, List.nil_append] using hh

end Go.Proofs.Ytkkifdgnebbghaa
