/-
  Two sorted rows beside one another, merged in place: the library's symMerge. Own work; no condition.
-/
import Derived.Test.YtkkifdgnebbghaaDStabI
namespace Go.Proofs.Ytkkifdgnebbghaa
open Go
set_option linter.unusedSimpArgs false
set_option linter.unusedVariables false

theorem mid_eq {x : Int} (h0 : 0 ≤ x) (h1 : x < 4611686018427387904) : IntKind.i64.wrap ((IntKind.u64.wrap x).fdiv (2 ^ (min (1 : Int).toNat IntKind.u64.bits))) = x / 2 := by
  have e : (2 : Int) ^ (min (1 : Int).toNat IntKind.u64.bits) = 2 := by decide
  have e1 : IntKind.u64.wrap x = x := by
    simp [IntKind.wrap, IntKind.bits, IntKind.signed]
    omega
  rw [e, e1, Int.fdiv_eq_ediv_of_nonneg _ (by omega)]
  simp [IntKind.wrap, IntKind.bits, IntKind.signed]
  omega
/-- What a merge does. -/
def SymC (N : Nat) : Prop := ∀ (A U V Z : List (List Val)) (c l n : Nat) (rest : List Go.Proofs.Ytkkifdgnebbghaa.V) (za zm zb : Int), U.length + V.length ≤ N → 0 < U.length → 0 < V.length → za = (A.length : Int) → zm = ((A.length + U.length : Nat) : Int) → zb = ((A.length + U.length + V.length : Nat) : Int) → n = (A ++ U ++ (V ++ Z)).length → n ≤ 1048576 → (∀ x ∈ U ++ V, x.length ≤ 1048576) → Srt cRow U → Srt cRow V →
  SrtC Try.prog 33 [.slm (.is c) l 0 n, .int .i64 za, .int .i64 zm, .int .i64 zb, .fn 25 []] l rest (A ++ U ++ (V ++ Z)) (fun ys => ∃ W, ys = A ++ W ++ Z ∧ W.Perm (U ++ V) ∧ Srt cRow W)
set_option maxHeartbeats 4000000 in
theorem sym_one {A V Z : List (List Val)} {u : List Val} {c l n : Nat} {rest : List Go.Proofs.Ytkkifdgnebbghaa.V} {za zm zb : Int} (hV : 0 < V.length) (ha : za = (A.length : Int)) (hm : zm = ((A.length + 1 : Nat) : Int)) (hb : zb = ((A.length + 1 + V.length : Nat) : Int)) (hl : n = A.length + 1 + V.length + Z.length) (hbig : n ≤ 1048576) (hu : u.length ≤ 1048576) (hrow : ∀ x ∈ V, x.length ≤ 1048576) (sV : Srt cRow V) :
    SrtC Try.prog 33 [.slm (.is c) l 0 n, .int .i64 za, .int .i64 zm, .int .i64 zb, .fn 25 []] l rest (A ++ [u] ++ (V ++ Z)) (fun ys => ∃ W, ys = A ++ W ++ Z ∧ W.Perm ([u] ++ V) ∧ Srt cRow W) := by
  intro s H hh
  have hma : zm - za = 1 := by omega
  have hlen : (A ++ [u] ++ (V ++ Z)).length = n := by simp only [List.length_append, List.length_cons, List.length_nil]; omega
  have hau : (A ++ [u] ++ (V ++ Z))[A.length]? = some u := by simp
  have hav : ∀ q (hq : q < V.length), (A ++ [u] ++ (V ++ Z))[A.length + 1 + q]? = some V[q] := fun q hq => by
    rw [List.getElem?_append_right (by simp), List.length_append, List.length_singleton, Nat.add_sub_cancel_left, List.getElem?_append_left hq, List.getElem?_eq_getElem hq]
  have d1 : (rowV (A ++ [u] ++ (V ++ Z)) rest)[A.length]? = some (Val.toVS u) := rowV_at hau
  refine LCalls.body0 Try.func33 rfl (by kernel_rfl) ?_
  repeat' first
    | (refine kOps ?_; first | (refine LOps.nil ?_) | (refine LOps.ev tT_ok rfl ?_) | (refine kBin ?_; first | (refine LOps.ans (AnsL.sub rfl rfl ?_) ?_; (focus (constructor <;> omega)))))
    | (refine kWL ?_; first | (refine WL.seq ?_) | (refine WL.region (by kernel_rfl) ?_) | (refine WL.block ?_) | (refine kCond ?_; first | (refine WL.condT' rfl ?_ ?_; (focus (first | (exact decide_eq_true (by assumption)))))))
    | (refine lthen_n ?_)
  refine WL.loopH (fun y : Nat × Nat => y.2 - y.1) (fun y => [(0, .slm (.is c) l 0 n), (1, .int .i64 za), (2, .int .i64 zm), (3, .int .i64 zb), (4, .fn 25 []), (10, .int .i64 (y.1 : Int)), (11, .int .i64 (y.2 : Int))]) (fun y => .cell l (rowV (A ++ [u] ++ (V ++ Z)) rest) :: H)
    (fun y => A.length + 1 ≤ y.1 ∧ y.1 ≤ y.2 ∧ y.2 ≤ A.length + 1 + V.length ∧ (∀ x ∈ V.take (y.1 - (A.length + 1)), leF cRow x u) ∧ (∀ x ∈ V.drop (y.2 - (A.length + 1)), leF cRow u x)) (A.length + 1, A.length + 1 + V.length)
    ⟨by omega, by omega, by omega, by simp, by simp⟩ ⟨rfl, rfl, rfl, rfl, rfl, by rw [← hm]; rfl, by rw [← hb]; rfl, trivial⟩ hh (Sel.refl _) (fun y s hI hh => ?_)
  obtain ⟨i, j⟩ := y
  obtain ⟨g1, g2, g3, g4, g5⟩ := hI
  dsimp only at g1 g2 g3 g4 g5 hh ⊢
  by_cases hij : i < j
  · have hij' : (i : Int) < (j : Int) := by omega
    have hmid := mid_eq (x := (i : Int) + (j : Int)) (by omega) (by omega)
    obtain ⟨q, hq⟩ : ∃ q : Nat, (i + j) / 2 = A.length + 1 + q := ⟨(i + j) / 2 - (A.length + 1), by omega⟩
    have hqV : q < V.length := by omega
    have d2 := rowV_at (rest := rest) (hav q hqV)
    have hE := fun t => implOrderRow_v V[q] u (hrow _ (List.getElem_mem hqV)) hu t
    have hz2 : ((i : Int) + (j : Int)) / 2 = ((A.length + 1 + q : Nat) : Int) := by omega
    have s1 : ∀ x ∈ V.take (q + 1), leF cRow x V[q] := take_all fun k hk hkq => sV.at cRow_ordr hqV (by omega)
    have s2 : ∀ x ∈ V.drop q, leF cRow V[q] x := drop_all fun k hk hkq => sV.at cRow_ordr hk hkq
    have b1 : A.length < n := by omega
    have b2 : A.length + 1 + q < n := by omega
    generalize hcs : rowV (A ++ [u] ++ (V ++ Z)) rest = cs at hh d1 d2
    generalize hv : V[q] = w at d2 hE s1 s2
    obtain ⟨K, hK⟩ : ∃ K : Nat, A.length + 1 + q = K := ⟨_, rfl⟩
    obtain ⟨a0, ha0⟩ : ∃ a0 : Nat, A.length = a0 := ⟨_, rfl⟩
    have hza : za = (a0 : Int) := by omega
    rw [hK] at hz2 b2 d2
    rw [ha0] at b1 d1
    by_cases hc : cRow w u < 0
    · have hwu : leF cRow w u := cRow_ordr.lt hc
      generalize cRow w u = r at hE hc
      repeat' first
        | (refine kOps ?_; first | (refine LOps.nil ?_) | (refine LOps.ev tT_ok rfl ?_) | (refine kBin ?_; first | (refine LOps.ans (AnsL.add rfl rfl ?_) ?_; (focus (constructor <;> omega)))))
        | (refine kWL ?_; first | (refine WL.seq ?_) | (refine WL.region (by kernel_rfl) ?_) | (refine WL.block ?_) | (refine WL.skip ?_) | (refine kCond ?_; first | (refine WL.condT' rfl ?_ ?_; (focus (first | (exact decide_eq_true (by assumption)))))))
        | (refine lthen_n ?_)
      rw [hmid, hz2]
      repeat' first
        | (refine kOps ?_; first | (refine LOps.nil ?_) | (refine LOps.ev tT_ok rfl ?_) | (refine kBin ?_; first | (refine LOps.ans (AnsL.add rfl rfl ?_) ?_; (focus (constructor <;> omega)))) | (refine kCall ?_; first | (refine LOps.ans (AnsL.callP rfl rfl rfl (ok25) (hE _)) ?_)))
        | (refine kWL ?_; first | (refine WL.region (by kernel_rfl) ?_) | (refine WL.drawn (id := 5) [0, 1, 2, 3, 4, 5, 6, 7, 8, 9, 10] [9] [[], [], [], [1, 2], [1, 2, 3], [], [], [5, 6], [5, 6, 7], [0, 1, 2, 3, 4, 5, 6, 7, 8], [0, 1, 2, 3, 4, 5, 6, 7, 8, 9]] (by kernel_rfl) (by kernel_rfl) ?_) | (refine kCond ?_; first | (refine WL.condT' rfl ?_ ?_; (focus (first | (exact decide_eq_true (by assumption)))))))
        | (refine kDr ?_; first | (refine LDr.nil ?_) | (refine LDr.fl rfl rfl (.ev tT_ok rfl) ?_) | (refine kDLoad rfl ?_; first | (refine LDr.fl rfl rfl (AnsL.loadAt tT_ok 0 hh rfl rfl rfl rfl rfl rfl d1) ?_) | (refine LDr.fl rfl rfl (AnsL.loadAt tT_ok 0 hh rfl rfl rfl rfl rfl rfl d2) ?_)) | (refine kDIdx rfl ?_; first | (refine LDr.fl rfl rfl (AnsL.idxAt tT_ok K rfl rfl rfl rfl rfl rfl b2) ?_) | (refine LDr.fl rfl rfl (AnsL.idxAt tT_ok a0 rfl rfl rfl rfl rfl hza b1) ?_)) | (refine LDr.eff rfl rfl rfl ?_))
        | (refine lthen_n ?_)
        | (refine lblock_n ?_)
        | (refine And.intro ?_ ?_)
        | (exact StsL.nil)
      refine lbackH.of (K + 1, j) ⟨rfl, rfl, rfl, rfl, rfl, rfl, rfl, trivial⟩ hh (Sel.refl _) ⟨by dsimp only; omega, by dsimp only; omega, g3, ?_, g5⟩ (by dsimp only; omega)
      dsimp only
      rw [show K + 1 - (A.length + 1) = q + 1 by omega]
      exact fun x hx => cRow_ordr.trans _ _ _ (s1 x hx) hwu
    · have hwu : leF cRow u w := hc
      generalize cRow w u = r at hE hc
      repeat' first
        | (refine kOps ?_; first | (refine LOps.nil ?_) | (refine LOps.ev tT_ok rfl ?_) | (refine kBin ?_; first | (refine LOps.ans (AnsL.add rfl rfl ?_) ?_; (focus (constructor <;> omega)))))
        | (refine kWL ?_; first | (refine WL.seq ?_) | (refine WL.region (by kernel_rfl) ?_) | (refine WL.block ?_) | (refine WL.skip ?_) | (refine kCond ?_; first | (refine WL.condT' rfl ?_ ?_; (focus (first | (exact decide_eq_true (by assumption)))))))
        | (refine lthen_n ?_)
      rw [hmid, hz2]
      repeat' first
        | (refine kOps ?_; first | (refine LOps.nil ?_) | (refine LOps.ev tT_ok rfl ?_) | (refine kCall ?_; first | (refine LOps.ans (AnsL.callP rfl rfl rfl (ok25) (hE _)) ?_)))
        | (refine kWL ?_; first | (refine WL.region (by kernel_rfl) ?_) | (refine WL.drawn (id := 5) [0, 1, 2, 3, 4, 5, 6, 7, 8, 9, 10] [9] [[], [], [], [1, 2], [1, 2, 3], [], [], [5, 6], [5, 6, 7], [0, 1, 2, 3, 4, 5, 6, 7, 8], [0, 1, 2, 3, 4, 5, 6, 7, 8, 9]] (by kernel_rfl) (by kernel_rfl) ?_) | (refine kCond ?_; first | (refine WL.condF' rfl ?_ ?_; (focus (first | (exact decide_eq_false (by assumption)))))))
        | (refine kDr ?_; first | (refine LDr.nil ?_) | (refine LDr.fl rfl rfl (.ev tT_ok rfl) ?_) | (refine kDLoad rfl ?_; first | (refine LDr.fl rfl rfl (AnsL.loadAt tT_ok 0 hh rfl rfl rfl rfl rfl rfl d1) ?_) | (refine LDr.fl rfl rfl (AnsL.loadAt tT_ok 0 hh rfl rfl rfl rfl rfl rfl d2) ?_)) | (refine kDIdx rfl ?_; first | (refine LDr.fl rfl rfl (AnsL.idxAt tT_ok K rfl rfl rfl rfl rfl rfl b2) ?_) | (refine LDr.fl rfl rfl (AnsL.idxAt tT_ok a0 rfl rfl rfl rfl rfl hza b1) ?_)) | (refine LDr.eff rfl rfl rfl ?_))
        | (refine lthen_n ?_)
        | (refine lblock_n ?_)
        | (refine And.intro ?_ ?_)
        | (exact StsL.nil)
      refine lbackH.of (i, K) ⟨rfl, rfl, rfl, rfl, rfl, rfl, rfl, trivial⟩ hh (Sel.refl _) ⟨g1, by dsimp only; omega, by dsimp only; omega, g4, ?_⟩ (by dsimp only; omega)
      dsimp only
      rw [show K - (A.length + 1) = q by omega]
      exact fun x hx => cRow_ordr.trans _ _ _ hwu (s2 x hx)
  · have hij' : ¬ (i : Int) < (j : Int) := by omega
    have hji : j = i := by omega
    subst hji
    have hV12 : V.take (j - (A.length + 1)) ++ V.drop (j - (A.length + 1)) = V := List.take_append_drop ..
    have l1 : (V.take (j - (A.length + 1))).length = j - (A.length + 1) := by rw [List.length_take]; omega
    generalize V.take (j - (A.length + 1)) = V1 at g4 hV12 l1
    generalize V.drop (j - (A.length + 1)) = V2 at g5 hV12
    subst hV12
    have sW : Srt cRow (V1 ++ u :: V2) := sV.ins cRow_ordr g5 g4
    have hj : (j : Int) - 1 = ((A.length + V1.length : Nat) : Int) := by omega
    clear hav d1 hau
    have hst : Hold s s.next (.cell l (rowV (A ++ V1.take 0 ++ u :: (V1.drop 0 ++ (V2 ++ Z))) rest) :: H) := by simpa only [List.take_zero, List.drop_zero, List.append_nil, List.append_assoc, List.cons_append, List.nil_append] using hh
    repeat' first
      | (refine kOps ?_; first | (refine LOps.nil ?_) | (refine LOps.ev tT_ok rfl ?_))
      | (refine kWL ?_; first | (refine WL.seq ?_) | (refine WL.region (by kernel_rfl) ?_) | (refine WL.block ?_) | (refine WL.exit ?_) | (refine kCond ?_; first | (refine WL.condF' rfl ?_ ?_; (focus (first | (exact decide_eq_false (by assumption)))))))
      | (refine lthen_n ?_)
      | (refine lthen_e ?_)
      | (refine lblock_e ?_)
      | (refine lbackH_e ?_)
    refine WL.loopH (fun t : Nat => V1.length - t) (fun t => [(0, .slm (.is c) l 0 n), (10, .int .i64 (j : Int)), (13, .int .i64 ((A.length + t : Nat) : Int))]) (fun t => .cell l (rowV (A ++ V1.take t ++ u :: (V1.drop t ++ (V2 ++ Z))) rest) :: H)
      (fun t => t ≤ V1.length) 0 (Nat.zero_le _) ⟨rfl, rfl, by rw [Nat.add_zero, ← ha]; rfl, trivial⟩ hst (Sel.refl _) (fun t s ht hh => ?_)
    rcases Nat.lt_or_ge t V1.length with hlt | hge
    · have e1 : A ++ V1.take t ++ u :: (V1.drop t ++ (V2 ++ Z)) = (A ++ V1.take t) ++ u :: ([] ++ V1[t] :: (V1.drop (t + 1) ++ (V2 ++ Z))) := by
        rw [List.drop_eq_getElem_cons hlt]; rfl
      have e2 : A ++ V1.take (t + 1) ++ u :: (V1.drop (t + 1) ++ (V2 ++ Z)) = (A ++ V1.take t) ++ V1[t] :: ([] ++ u :: (V1.drop (t + 1) ++ (V2 ++ Z))) := by
        rw [List.take_succ_eq_append_getElem hlt]
        simp only [List.append_assoc, List.cons_append, List.nil_append]
      have a1 := swap_at1 (A ++ V1.take t) [] (V1.drop (t + 1) ++ (V2 ++ Z)) u V1[t]
      have a2 := swap_at2 (A ++ V1.take t) [] (V1.drop (t + 1) ++ (V2 ++ Z)) u V1[t]
      have a3 := swap_set (A ++ V1.take t) [] (V1.drop (t + 1) ++ (V2 ++ Z)) u V1[t]
      have p1 : (A ++ V1.take t).length = A.length + t := by rw [List.length_append, List.length_take]; omega
      have p2 : (A ++ V1.take t).length + 1 + ([] : List (List Val)).length = A.length + t + 1 := by rw [p1]; rfl
      rw [← e1, p1] at a1
      rw [← e1, p2] at a2
      rw [← e1, ← e2, p2, p1] at a3
      have hlen2 : (A ++ V1.take t ++ u :: (V1.drop t ++ (V2 ++ Z))).length = n := by simp only [List.length_append, List.length_cons, List.length_take, List.length_drop] at hl ⊢; omega
      have d1 := rowV_at (rest := rest) a1
      have d2 := rowV_at (rest := rest) a2
      simp only [List.length_append] at hl
      have d3 : ((rowV (A ++ V1.take t ++ u :: (V1.drop t ++ (V2 ++ Z))) rest).set (A.length + t) (Val.toVS V1[t])).set (A.length + t + 1) (Val.toVS u) = rowV (A ++ V1.take (t + 1) ++ u :: (V1.drop (t + 1) ++ (V2 ++ Z))) rest := by
        rw [rowV_set (by omega), rowV_set (by rw [List.length_set]; omega), a3]
      have c1 : A.length + t < (rowV (A ++ V1.take t ++ u :: (V1.drop t ++ (V2 ++ Z))) rest).length := by unfold rowV; rw [List.length_append, List.length_map, hlen2]; omega
      have c2 : A.length + t + 1 < ((rowV (A ++ V1.take t ++ u :: (V1.drop t ++ (V2 ++ Z))) rest).set (A.length + t) (Val.toVS V1[t])).length := by rw [List.length_set]; unfold rowV; rw [List.length_append, List.length_map, hlen2]; omega
      have hk1 : ((A.length + t : Nat) : Int) < (j : Int) - 1 := by omega
      have hnk : A.length + (t + 1) = A.length + t + 1 := rfl
      have b1 : A.length + t < n := by omega
      have b2 : A.length + t + 1 < n := by omega
      clear a1 a2 a3 e1 e2
      generalize rowV (A ++ V1.take t ++ u :: (V1.drop t ++ (V2 ++ Z))) rest = cs at hh c1 c2 d1 d2 d3
      generalize V1[t] = w at d2 d3 c2
      obtain ⟨K, hK⟩ : ∃ K : Nat, A.length + t = K := ⟨_, rfl⟩
      obtain ⟨K1, hK1⟩ : ∃ K1 : Nat, K + 1 = K1 := ⟨_, rfl⟩
      rw [hK] at hk1 b1 b2 c1 c2 d1 d2 d3 hnk ⊢
      rw [hK1] at b2 c2 d2 d3 hnk
      have hz2 : (K : Int) + 1 = (K1 : Int) := by omega
      repeat' first
        | (refine kStore ?_ ; (first | (refine LOps.storeAt tT_ok 0 hh rfl rfl rfl rfl rfl rfl rfl rfl c1 rfl ?_) | (refine LOps.storeAt tT_ok 0 hh rfl rfl rfl rfl rfl rfl rfl rfl c2 rfl ?_)) ; intro s hh)
        | (refine kOps ?_; first | (refine LOps.nil ?_) | (refine LOps.ev tT_ok rfl ?_) | (refine kBin ?_; first | (refine LOps.ans (AnsL.add rfl rfl ?_) ?_; (focus (constructor <;> omega))) | (refine LOps.ans (AnsL.sub rfl rfl ?_) ?_; (focus (constructor <;> omega)))))
        | (refine kWL ?_; first | (refine WL.seq ?_) | (refine WL.region (by kernel_rfl) ?_) | (refine WL.drawn (id := 11) [0, 1, 2, 3, 4, 5, 6, 7, 8, 9, 10, 11, 12, 13, 14, 15, 16, 17] [15, 17] [[], [], [], [], [3], [], [], [6], [5, 6, 7], [5, 6, 7, 8], [], [], [10, 11], [10, 11, 12], [0, 1, 5, 6, 7, 8, 9, 10, 11, 12, 13], [0, 1, 5, 6, 7, 8, 9, 10, 11, 12, 13, 14], [0, 1, 2, 3, 4, 5, 6, 7, 8, 9, 10, 11, 12, 13, 14, 15], [0, 1, 2, 3, 4, 5, 6, 7, 8, 9, 10, 11, 12, 13, 14, 15, 16]] (by kernel_rfl) (by kernel_rfl) ?_) | (refine WL.block ?_) | (refine WL.skip ?_) | (refine kCond ?_; first | (refine WL.condT' rfl ?_ ?_; (focus (first | (exact decide_eq_true (by assumption)))))))
        | (refine kDr ?_; first | (refine LDr.nil ?_) | (refine LDr.fl rfl rfl (.ev tT_ok rfl) ?_) | (refine kDLoad rfl ?_; first | (refine LDr.fl rfl rfl (AnsL.loadAt tT_ok 0 hh rfl rfl rfl rfl rfl rfl d1) ?_) | (refine LDr.fl rfl rfl (AnsL.loadAt tT_ok 0 hh rfl rfl rfl rfl rfl rfl d2) ?_)) | (refine kDBin rfl ?_; first | (refine LDr.fl rfl rfl (AnsL.add rfl rfl ?_) ?_; (focus (constructor <;> omega)))) | (refine kDIdx rfl ?_; first | (refine LDr.fl rfl rfl (AnsL.idxAt tT_ok K rfl rfl rfl rfl rfl rfl b1) ?_) | (refine LDr.fl rfl rfl (AnsL.idxAt tT_ok K1 rfl rfl rfl rfl rfl hz2 b2) ?_)) | (refine LDr.eff rfl rfl rfl ?_))
        | (refine lthen_n ?_)
        | (refine lblock_n ?_)
        | (refine And.intro ?_ ?_)
        | (exact StsL.nil)
        | (refine StsL.cons ?_ ?_)
        | (refine StL.fl rfl rfl (.ev tT_ok rfl))
        | (refine StL.fl rfl rfl (AnsL.add rfl rfl ?_); (focus (constructor <;> omega)))
      rw [d3] at hh
      refine lbackH.of (t + 1) ⟨rfl, rfl, ?_, trivial⟩ hh (Sel.refl _) (by omega) (by omega)
      dsimp only
      rw [hnk, ← hz2]; rfl
    · have hk1 : ¬ ((A.length + t : Nat) : Int) < (j : Int) - 1 := by omega
      rw [List.take_of_length_le hge, List.drop_of_length_le hge, List.nil_append] at hh
      repeat' first
        | (refine kOps ?_; first | (refine LOps.nil ?_) | (refine LOps.ev tT_ok rfl ?_) | (refine kBin ?_; first | (refine LOps.ans (AnsL.sub rfl rfl ?_) ?_; (focus (constructor <;> omega)))))
        | (refine kWL ?_; first | (refine WL.seq ?_) | (refine WL.region (by kernel_rfl) ?_) | (refine WL.exit ?_) | (refine WL.ret ?_) | (refine kCond ?_; first | (refine WL.condF' rfl ?_ ?_; (focus (first | (exact decide_eq_false (by assumption)))))))
        | (refine lthen_n ?_)
        | (refine lthen_r ?_)
        | (refine lthen_e ?_)
        | (refine lblock_e ?_)
        | (refine lbackH_e ?_)
        | (refine LPost.r0 (.inl rfl) ?_)
        | (refine And.intro ?_ ?_)
      · rfl
      refine ⟨A ++ (V1 ++ u :: V2) ++ Z, s, ⟨_, rfl, ?_, sW⟩, rfl, ?_⟩
      · rw [List.singleton_append]
        exact List.perm_middle
      · simpa only [List.append_assoc, List.cons_append, List.nil_append] using hh

end Go.Proofs.Ytkkifdgnebbghaa
