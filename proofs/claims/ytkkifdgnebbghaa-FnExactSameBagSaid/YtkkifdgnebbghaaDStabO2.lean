/-
  Two sorted rows beside one another, merged in place: the library's symMerge, whole. Own work; no condition.
-/
import Derived.Test.YtkkifdgnebbghaaDStabN
namespace Go.Proofs.Ytkkifdgnebbghaa
open Go
set_option linter.unusedSimpArgs false
set_option linter.unusedVariables false

set_option maxHeartbeats 16000000 in
theorem sym_le {N : Nat} (ih : SymC N) {A U V Z : List (List Val)} {c l n : Nat} {rest : List Go.Proofs.Ytkkifdgnebbghaa.V} {za zm zb : Int} (hN : U.length + V.length ≤ N + 1) (hU : 1 < U.length) (hV : 1 < V.length) (ha : za = (A.length : Int)) (hm : zm = ((A.length + U.length : Nat) : Int)) (hb : zb = ((A.length + U.length + V.length : Nat) : Int)) (hl : n = A.length + U.length + V.length + Z.length) (hbig : n ≤ 1048576) (hrow : ∀ x ∈ U ++ V, x.length ≤ 1048576) (sU : Srt cRow U) (sV : Srt cRow V) (hgt : ¬ zm > (za + zb) / 2) :
    SrtC Try.prog 33 [.slm (.is c) l 0 n, .int .i64 za, .int .i64 zm, .int .i64 zb, .fn 25 []] l rest (A ++ U ++ (V ++ Z)) (fun ys => ∃ W, ys = A ++ W ++ Z ∧ W.Perm (U ++ V) ∧ Srt cRow W) := by
  intro s H hh
  have hma : ¬ zm - za = 1 := by omega
  have hmb : ¬ zb - zm = 1 := by omega
  have hmid0 := mid_eq (x := za + zb) (by omega) (by omega)
  obtain ⟨md, hmd⟩ : ∃ md : Nat, (za + zb) / 2 = (md : Int) := ⟨((za + zb) / 2).toNat, by omega⟩
  obtain ⟨m, hmN⟩ : ∃ m : Nat, m = A.length + U.length := ⟨_, rfl⟩
  obtain ⟨b, hbN⟩ : ∃ b : Nat, b = A.length + U.length + V.length := ⟨_, rfl⟩
  obtain ⟨a, haN⟩ : ∃ a : Nat, a = A.length := ⟨_, rfl⟩
  have hau : ∀ q, q < U.length → (A ++ U ++ (V ++ Z))[a + q]? = some (U.getD q []) := fun q hq => by
    rw [List.getElem?_append_left (by rw [List.length_append]; omega), List.getElem?_append_right (by omega), haN, Nat.add_sub_cancel_left]
    exact getD_at hq
  have hav : ∀ q, q < V.length → (A ++ U ++ (V ++ Z))[m + q]? = some (V.getD q []) := fun q hq => by
    rw [List.getElem?_append_right (by rw [List.length_append]; omega), List.length_append, hmN, Nat.add_sub_cancel_left, List.getElem?_append_left hq]
    exact getD_at hq
  refine LCalls.body0 Try.func33 rfl (by kernel_rfl) ?_
  rw [hmd] at hgt
  repeat' first
    | (refine kOps ?_; first | (refine LOps.nil ?_) | (refine LOps.ev tT_ok rfl ?_) | (refine kBin ?_; first | (refine LOps.ans (AnsL.add rfl rfl ?_) ?_; (focus (constructor <;> omega))) | (refine LOps.ans (AnsL.sub rfl rfl ?_) ?_; (focus (constructor <;> omega)))))
    | (refine kWL ?_; first | (refine WL.seq ?_) | (refine WL.region (id := 0) (by kernel_rfl) ?_) | (refine WL.region (id := 12) (by kernel_rfl) ?_) | (refine WL.region (id := 24) (by kernel_rfl) ?_) | (refine WL.skip ?_) | (refine kCond ?_; first | (refine WL.condF' rfl ?_ ?_; (focus (first | (exact decide_eq_false (by assumption)))))))
    | (refine lthen_n ?_)
  rw [hmid0, hmd]
  obtain ⟨st0, hst0⟩ : ∃ st0 : Nat, za = (st0 : Int) := ⟨a, by omega⟩
  obtain ⟨r0, hr0⟩ : ∃ r0 : Nat, zm = (r0 : Int) := ⟨m, by omega⟩
  have F : a ≤ st0 ∧ st0 ≤ r0 ∧ r0 ≤ m ∧ r0 ≤ md ∧ md + m ≤ b + st0 ∧ (st0 = a ∨ md + m - st0 = b) ∧ (r0 = m ∨ r0 = md) := by omega
  repeat' first
    | (refine kOps ?_; first | (refine LOps.nil ?_) | (refine LOps.ev tT_ok rfl ?_) | (refine kBin ?_; first | (refine LOps.ans (AnsL.add rfl rfl ?_) ?_; (focus (constructor <;> omega)))))
    | (refine kWL ?_; first | (refine WL.seq ?_) | (refine WL.region (id := 25) (by kernel_rfl) ?_) | (refine WL.region (id := 26) (by kernel_rfl) ?_) | (refine WL.region (id := 27) (by kernel_rfl) ?_) | (refine WL.region (id := 30) (by kernel_rfl) ?_) | (refine WL.region (id := 31) (by kernel_rfl) ?_) | (refine kCond ?_; first | (refine WL.condF' rfl ?_ ?_; (focus (first | (exact decide_eq_false (by assumption)))))))
    | (refine lthen_n ?_)
  obtain ⟨nn, hnn⟩ : ∃ nn : Nat, (md : Int) + zm = (nn : Int) := ⟨md + m, by omega⟩
  obtain ⟨zp, hzp⟩ : ∃ zp : Int, (nn : Int) - 1 = zp := ⟨_, rfl⟩
  obtain ⟨F1, F2, F3, F4, F5, F6, F7⟩ := F
  have hnN : nn = md + m := by omega
  repeat' first
    | (refine kOps ?_; first | (refine LOps.nil ?_) | (refine LOps.ev tT_ok rfl ?_) | (refine kBin ?_; first | (refine LOps.ans (AnsL.sub rfl rfl ?_) ?_; (focus (constructor <;> omega)))))
    | (refine kWL ?_; first | (refine WL.seq ?_) | (refine WL.region (by kernel_rfl) ?_) | (refine WL.block ?_))
    | (refine lthen_n ?_)
  refine WL.loopH (fun y : Nat × Nat => y.2 - y.1) (fun y => [(0, .slm (.is c) l 0 n), (1, .int .i64 za), (2, .int .i64 zm), (3, .int .i64 zb), (4, .fn 25 []), (18, .int .i64 (md : Int)), (19, .int .i64 (nn : Int)), (20, .int .i64 (y.1 : Int)), (21, .int .i64 (y.2 : Int)), (22, .int .i64 zp)]) (fun y => .cell l (rowV (A ++ U ++ (V ++ Z)) rest) :: H)
    (fun y => st0 ≤ y.1 ∧ y.1 ≤ y.2 ∧ y.2 ≤ r0 ∧ (y.1 = st0 ∨ leF cRow (U.getD (y.1 - 1 - a) []) (V.getD (nn - y.1 - m) [])) ∧ (y.2 = r0 ∨ leF cRow (V.getD (nn - 1 - y.2 - m) []) (U.getD (y.2 - a) []))) (st0, r0)
    ⟨Nat.le_refl _, F2, Nat.le_refl _, .inl rfl, .inl rfl⟩ ⟨rfl, rfl, rfl, rfl, rfl, rfl, by rw [← hnn]; rfl, by rw [← hst0]; rfl, by rw [← hr0]; rfl, by rw [← hzp, ← hnn]; rfl, trivial⟩ hh (Sel.refl _) (fun y s hI hh => ?_)
  obtain ⟨st, r⟩ := y
  obtain ⟨g1, g2, g3, g4, g5⟩ := hI
  dsimp only at g1 g2 g3 g4 g5 hh ⊢
  by_cases hsr : st < r
  · have hsr' : (st : Int) < (r : Int) := by omega
    have hmid := mid_eq (x := (st : Int) + (r : Int)) (by omega) (by omega)
    obtain ⟨C, hC⟩ : ∃ C : Nat, (st + r) / 2 = C := ⟨_, rfl⟩
    have hCU : C - a < U.length := by omega
    have hCV : nn - 1 - C - m < V.length := by omega
    have d1 := rowV_at (rest := rest) (hau (C - a) hCU)
    have d2 := rowV_at (rest := rest) (hav (nn - 1 - C - m) hCV)
    obtain ⟨D, hD⟩ : ∃ D : Nat, nn - 1 - C = D := ⟨_, rfl⟩
    rw [show a + (C - a) = C by omega] at d1
    rw [show m + (nn - 1 - C - m) = D by omega, hD] at d2
    rw [hD] at hCV
    have hE := fun t => implOrderRow_v (V.getD (D - m) []) (U.getD (C - a) []) (hrow _ (List.mem_append_right _ (getD_mem hCV))) (hrow _ (List.mem_append_left _ (getD_mem hCU))) t
    have hz1 : ((st : Int) + (r : Int)) / 2 = (C : Int) := by omega
    have hz2 : zp - (C : Int) = (D : Int) := by omega
    have b1 : C < n := by omega
    have b2 : D < n := by omega
    generalize hu : U.getD (C - a) [] = u at d1 hE
    generalize hv : V.getD (D - m) [] = w at d2 hE
    by_cases hc : cRow w u < 0
    · have hwu : leF cRow w u := cRow_ordr.lt hc
      generalize rowV (A ++ U ++ (V ++ Z)) rest = cs at hh d1 d2 ⊢
      generalize cRow w u = q at hE hc
      repeat' first
        | (refine kOps ?_; first | (refine LOps.nil ?_) | (refine LOps.ev tT_ok rfl ?_) | (refine kBin ?_; first | (refine LOps.ans (AnsL.add rfl rfl ?_) ?_; (focus (constructor <;> omega)))))
        | (refine kWL ?_; first | (refine WL.seq ?_) | (refine WL.region (by kernel_rfl) ?_) | (refine WL.block ?_) | (refine WL.skip ?_) | (refine kCond ?_; first | (refine WL.condT' rfl ?_ ?_; (focus (first | (exact decide_eq_true (by assumption)))))))
        | (refine lthen_n ?_)
      rw [hmid, hz1]
      repeat' first
        | (refine kOps ?_; first | (refine LOps.nil ?_) | (refine LOps.ev tT_ok rfl ?_) | (refine kCall ?_; first | (refine LOps.ans (AnsL.callP rfl rfl rfl (ok25) (hE _)) ?_)))
        | (refine kWL ?_; first | (refine WL.region (by kernel_rfl) ?_) | (refine WL.drawn (id := 35) [0, 1, 2, 3, 4, 5, 6, 7, 8, 9, 10, 11, 12, 13] [11] [[], [], [], [], [2, 3], [1, 2, 3, 4], [1, 2, 3, 4, 5], [], [], [7, 8], [7, 8, 9], [0, 1, 2, 3, 4, 5, 6, 7, 8, 9, 10], [0, 1, 2, 3, 4, 5, 6, 7, 8, 9, 10, 11], [0, 1, 2, 3, 4, 5, 6, 7, 8, 9, 10, 11, 12]] (by kernel_rfl) (by kernel_rfl) ?_) | (refine kCond ?_; first | (refine WL.condF' rfl ?_ ?_; (focus (first | (simp only [decide_eq_true_eq, decide_eq_false_iff_not, Bool.not_eq_true', Bool.not_eq_false', Int.ofNat_lt, Int.ofNat_le, Int.ofNat_inj, not_true_eq_false, not_false_eq_true]; omega))))))
        | (refine kDr ?_; first | (refine LDr.nil ?_) | (refine LDr.fl rfl rfl (.ev tT_ok rfl) ?_) | (refine kDLoad rfl ?_; first | (refine LDr.fl rfl rfl (AnsL.loadAt tT_ok 0 hh rfl rfl rfl rfl rfl rfl d1) ?_) | (refine LDr.fl rfl rfl (AnsL.loadAt tT_ok 0 hh rfl rfl rfl rfl rfl rfl d2) ?_)) | (refine kDBin rfl ?_; first | (refine LDr.fl rfl rfl (AnsL.sub rfl rfl ?_) ?_; (focus (constructor <;> omega)))) | (refine kDIdx rfl ?_; first | (refine LDr.fl rfl rfl (AnsL.idxAt tT_ok D rfl rfl rfl rfl rfl hz2 b2) ?_) | (refine LDr.fl rfl rfl (AnsL.idxAt tT_ok C rfl rfl rfl rfl rfl rfl b1) ?_)) | (refine LDr.eff rfl rfl rfl ?_))
        | (refine lthen_n ?_)
        | (refine lblock_n ?_)
        | (refine And.intro ?_ ?_)
        | (exact StsL.nil)
      refine lbackH.of (st, C) ⟨rfl, rfl, rfl, rfl, rfl, rfl, rfl, rfl, rfl, rfl, trivial⟩ hh (Sel.refl _) ⟨g1, by dsimp only; omega, by dsimp only; omega, g4, .inr ?_⟩ (by dsimp only; omega)
      dsimp only
      rw [hD, hu, hv]
      exact hwu
    · have hwu : leF cRow u w := hc
      generalize rowV (A ++ U ++ (V ++ Z)) rest = cs at hh d1 d2 ⊢
      generalize cRow w u = q at hE hc
      repeat' first
        | (refine kOps ?_; first | (refine LOps.nil ?_) | (refine LOps.ev tT_ok rfl ?_) | (refine kBin ?_; first | (refine LOps.ans (AnsL.add rfl rfl ?_) ?_; (focus (constructor <;> omega)))))
        | (refine kWL ?_; first | (refine WL.seq ?_) | (refine WL.region (by kernel_rfl) ?_) | (refine WL.block ?_) | (refine WL.skip ?_) | (refine kCond ?_; first | (refine WL.condT' rfl ?_ ?_; (focus (first | (exact decide_eq_true (by assumption)))))))
        | (refine lthen_n ?_)
      rw [hmid, hz1]
      repeat' first
        | (refine kOps ?_; first | (refine LOps.nil ?_) | (refine LOps.ev tT_ok rfl ?_) | (refine kBin ?_; first | (refine LOps.ans (AnsL.add rfl rfl ?_) ?_; (focus (constructor <;> omega)))) | (refine kCall ?_; first | (refine LOps.ans (AnsL.callP rfl rfl rfl (ok25) (hE _)) ?_)))
        | (refine kWL ?_; first | (refine WL.region (by kernel_rfl) ?_) | (refine WL.drawn (id := 35) [0, 1, 2, 3, 4, 5, 6, 7, 8, 9, 10, 11, 12, 13] [11] [[], [], [], [], [2, 3], [1, 2, 3, 4], [1, 2, 3, 4, 5], [], [], [7, 8], [7, 8, 9], [0, 1, 2, 3, 4, 5, 6, 7, 8, 9, 10], [0, 1, 2, 3, 4, 5, 6, 7, 8, 9, 10, 11], [0, 1, 2, 3, 4, 5, 6, 7, 8, 9, 10, 11, 12]] (by kernel_rfl) (by kernel_rfl) ?_) | (refine kCond ?_; first | (refine WL.condT' rfl ?_ ?_; (focus (first | (simp only [decide_eq_true_eq, decide_eq_false_iff_not, Bool.not_eq_true', Bool.not_eq_false', Int.ofNat_lt, Int.ofNat_le, Int.ofNat_inj, not_true_eq_false, not_false_eq_true]; omega))))))
        | (refine kDr ?_; first | (refine LDr.nil ?_) | (refine LDr.fl rfl rfl (.ev tT_ok rfl) ?_) | (refine kDLoad rfl ?_; first | (refine LDr.fl rfl rfl (AnsL.loadAt tT_ok 0 hh rfl rfl rfl rfl rfl rfl d1) ?_) | (refine LDr.fl rfl rfl (AnsL.loadAt tT_ok 0 hh rfl rfl rfl rfl rfl rfl d2) ?_)) | (refine kDBin rfl ?_; first | (refine LDr.fl rfl rfl (AnsL.sub rfl rfl ?_) ?_; (focus (constructor <;> omega)))) | (refine kDIdx rfl ?_; first | (refine LDr.fl rfl rfl (AnsL.idxAt tT_ok D rfl rfl rfl rfl rfl hz2 b2) ?_) | (refine LDr.fl rfl rfl (AnsL.idxAt tT_ok C rfl rfl rfl rfl rfl rfl b1) ?_)) | (refine LDr.eff rfl rfl rfl ?_))
        | (refine lthen_n ?_)
        | (refine lblock_n ?_)
        | (refine And.intro ?_ ?_)
        | (exact StsL.nil)
      refine lbackH.of (C + 1, r) ⟨rfl, rfl, rfl, rfl, rfl, rfl, rfl, rfl, rfl, rfl, trivial⟩ hh (Sel.refl _) ⟨by dsimp only; omega, by dsimp only; omega, g3, .inr ?_, g5⟩ (by dsimp only; omega)
      dsimp only
      rw [show C + 1 - 1 - a = C - a by omega, show nn - (C + 1) - m = D - m by omega, hu, hv]
      exact hwu
  · have hsr' : ¬ (st : Int) < (r : Int) := by omega
    have hrs : r = st := by omega
    subst hrs
    obtain ⟨e, he⟩ : ∃ e : Nat, e = nn - r := ⟨_, rfl⟩
    have hze : (nn : Int) - (r : Int) = (e : Int) := by omega
    have k1 : ∀ u ∈ U.take (r - a), ∀ v ∈ V.drop (e - m), leF cRow u v := cross_le cRow_ordr sU sV [] (by omega) fun h1 h2 => by
      rcases g4 with g4 | g4
      · omega
      · rw [show r - a - 1 = r - 1 - a by omega, he]; exact g4
    have k2 : ∀ v ∈ V.take (e - m), ∀ u ∈ U.drop (r - a), leF cRow v u := cross_le cRow_ordr sV sU [] (by omega) fun h1 h2 => by
      rcases g5 with g5 | g5
      · omega
      · rw [show e - m - 1 = nn - 1 - r - m by omega]; exact g5
    have hU12 : U.take (r - a) ++ U.drop (r - a) = U := List.take_append_drop ..
    have hV12 : V.take (e - m) ++ V.drop (e - m) = V := List.take_append_drop ..
    have lU1 : (U.take (r - a)).length = r - a := by rw [List.length_take]; omega
    have lU2 : (U.drop (r - a)).length = U.length - (r - a) := List.length_drop
    have lV1 : (V.take (e - m)).length = e - m := by rw [List.length_take]; omega
    have lV2 : (V.drop (e - m)).length = V.length - (e - m) := List.length_drop
    generalize U.take (r - a) = U1 at k1 hU12 lU1
    generalize U.drop (r - a) = U2 at k2 hU12 lU2
    generalize V.take (e - m) = V1 at k2 hV12 lV1
    generalize V.drop (e - m) = V2 at k1 hV12 lV2
    clear hau hav g4 g5
    subst hU12 hV12
    have hrU1 : ∀ x ∈ U1 ++ V1, x.length ≤ 1048576 := fun x hx => hrow x (by simp only [List.mem_append] at hx ⊢; rcases hx with hx | hx; exact .inl (.inl hx); exact .inr (.inl hx))
    have hrU2 : ∀ x ∈ U2 ++ V2, x.length ≤ 1048576 := fun x hx => hrow x (by simp only [List.mem_append] at hx ⊢; rcases hx with hx | hx; exact .inl (.inr hx); exact .inr (.inr hx))
    simp only [List.length_append] at hN hU hV hm hb hl hmN hbN lU2 lV2
    -- the end
    have fin : ∀ (s : S) (W1 W2 : List (List Val)), Hold s s.next (.cell l (rowV (A ++ W1 ++ (W2 ++ Z)) rest) :: H) → Srt cRow W1 → W1.Perm (U1 ++ V1) → Srt cRow W2 → W2.Perm (U2 ++ V2) → ∃ (ys : List (List Val)) (s' : S), (∃ W, ys = A ++ W ++ Z ∧ W.Perm ((U1 ++ U2) ++ (V1 ++ V2)) ∧ Srt cRow W) ∧ s.ext [] = s'.ext [] ∧ Hold s' s'.next (.cell l (rowV ys rest) :: H) := by
      intro s W1 W2 hs w1 p1 w2 p2
      exact ⟨A ++ (W1 ++ W2) ++ Z, s, ⟨_, rfl, perm_cross p1 p2, sU.cross cRow_ordr sV k1 k2 w1 p1 w2 p2⟩, rfl, by simpa only [List.append_assoc] using hs⟩
    have hR := fun (s : S) (H : List BE) => @rotate_c (A ++ U1) U2 V1 (V2 ++ Z) c l n rest (r : Int) zm (e : Int) (.fn 25 [])
    have hL := ih A U1 V1 (U2 ++ V2 ++ Z) c l n rest za (r : Int) (md : Int)
    have hQ := fun W1 => ih (A ++ W1) U2 V2 Z c l n rest (md : Int) (e : Int) zb
    have kp : ∀ x ∈ [(24, Go.Proofs.Ytkkifdgnebbghaa.V.int .i64 ((nn : Int) - (r : Int)))], True := fun _ _ => trivial
    repeat' first
      | (refine kOps ?_; first | (refine LOps.nil ?_) | (refine LOps.ev tT_ok rfl ?_) | (refine kBin ?_; first | (refine LOps.ans (AnsL.sub rfl rfl ?_) ?_; (focus (constructor <;> omega)))))
      | (refine kWL ?_; first | (refine WL.seq ?_) | (refine WL.region (id := 33) (by kernel_rfl) ?_) | (refine WL.region (id := 38) (by kernel_rfl) ?_) | (refine WL.exit ?_) | (refine kCond ?_; first | (refine WL.condF' rfl ?_ ?_; (focus (first | (exact decide_eq_false (by assumption)))))))
      | (refine lthen_n ?_)
      | (refine lthen_e ?_)
      | (refine lblock_e ?_)
      | (refine lbackH_e ?_)
    -- turned round, or not
    refine WL.cutH (fun x : Bool => [(0, .slm (.is c) l 0 n), (1, .int .i64 za), (2, .int .i64 zm), (3, .int .i64 zb), (4, .fn 25 []), (18, .int .i64 (md : Int)), (20, .int .i64 (r : Int)), (24, .int .i64 (e : Int)), (185, .bool x)]) (fun _ => .cell l (rowV (A ++ (U1 ++ U2) ++ (V1 ++ V2 ++ Z)) rest) :: H) (fun x => x = true ↔ (r < m ∧ m < e)) ?_ (fun x s hx hh => ?_)
    · by_cases c1 : r < m
      · have c1' : (r : Int) < zm := by omega
        repeat' first
          | (refine kOps ?_; first | (refine LOps.nil ?_) | (refine kG ?_; first | (refine LOps.gT rfl rfl rfl ?_) | (refine LOps.gD true rfl rfl rfl ?_ ?_; (focus (first | (exact decide_eq_true (by assumption)))))) | (refine LOps.ev tT_ok rfl ?_))
          | (refine kWL ?_; first | (refine WL.region (by kernel_rfl) ?_))
        refine CutH.of (decide (zm < (nn : Int) - (r : Int))) ⟨rfl, rfl, rfl, rfl, rfl, rfl, rfl, by rw [← hze]; rfl, rfl, trivial⟩ hh (Sel.refl _) ?_
        rw [decide_eq_true_iff]; omega
      · have c1' : ¬ (r : Int) < zm := by omega
        repeat' first
          | (refine kOps ?_; first | (refine LOps.nil ?_) | (refine kG ?_; first | (refine LOps.gF rfl rfl rfl ?_) | (refine LOps.gD false rfl rfl rfl ?_ ?_; (focus (first | (exact decide_eq_false (by assumption)))))) | (refine LOps.ev tT_ok rfl ?_))
          | (refine kWL ?_; first | (refine WL.region (by kernel_rfl) ?_))
        refine CutH.of false ⟨rfl, rfl, rfl, rfl, rfl, rfl, rfl, by rw [← hze]; rfl, rfl, trivial⟩ hh (Sel.refl _) ?_
        simp [c1]
    refine lthen_n ?_
    refine WL.cutH (fun _ : Unit => [(0, .slm (.is c) l 0 n), (1, .int .i64 za), (2, .int .i64 zm), (3, .int .i64 zb), (4, .fn 25 []), (18, .int .i64 (md : Int)), (20, .int .i64 (r : Int)), (24, .int .i64 (e : Int))]) (fun _ => .cell l (rowV (A ++ U1 ++ (V1 ++ (U2 ++ V2 ++ Z))) rest) :: H) (fun _ => True) ?_ (fun _ s _ hh => ?_)
    · cases x
      · have hno : U2 = [] ∨ V1 = [] := by
          have : ¬ (r < m ∧ m < e) := fun h => by simp [h] at hx
          rcases Nat.lt_or_ge r m with h | h
          · exact .inr (List.eq_nil_of_length_eq_zero (by omega))
          · exact .inl (List.eq_nil_of_length_eq_zero (by omega))
        have q1 : A ++ (U1 ++ U2) ++ (V1 ++ V2 ++ Z) = A ++ U1 ++ (V1 ++ (U2 ++ V2 ++ Z)) := by
          rcases hno with h | h
          · rw [h]; simp only [List.append_assoc, List.nil_append, List.append_nil]
          · rw [h]; simp only [List.append_assoc, List.nil_append, List.append_nil]
        rw [q1] at hh
        repeat' first
          | (refine kWL ?_; first | (refine WL.skip ?_) | (refine kCond ?_; first | (refine WL.condF rfl ?_)))
        exact CutH.of () ⟨rfl, rfl, rfl, rfl, rfl, rfl, rfl, rfl, trivial⟩ hh (Sel.refl _) trivial
      · obtain ⟨r1, r2⟩ := hx.1 rfl
        have hR' := hR s H (by omega) (by omega) (by rw [List.length_append]; omega) (by rw [List.length_append]; omega) (by rw [List.length_append]; omega) (by simp only [List.length_append]; omega) hbig
        have q1 : A ++ (U1 ++ U2) ++ (V1 ++ V2 ++ Z) = (A ++ U1) ++ U2 ++ (V1 ++ (V2 ++ Z)) := by simp only [List.append_assoc]
        rw [q1] at hh
        repeat' first
          | (refine kCallN 37 ?_ ; refine LOps.call rfl rfl (appO_nil _) ok37 (hR' _ _ hh) (fun v t hv => ?_) ; obtain ⟨rfl, ys, s, rfl, rfl, hh⟩ := hv)
          | (refine kOps ?_; first | (refine LOps.nil ?_) | (refine LOps.ev tT_ok rfl ?_))
          | (refine kWL ?_; first | (refine WL.region (by kernel_rfl) ?_) | (refine kCond ?_; first | (refine WL.condT rfl ?_)))
        refine CutH.of () ⟨rfl, rfl, rfl, rfl, rfl, rfl, rfl, rfl, trivial⟩ (by simpa only [List.append_assoc] using hh) (Sel.refl _) trivial
    refine lthen_n ?_
    repeat' first
      | (refine kWL ?_; first | (refine WL.seq ?_))
    -- the first half
    refine WL.cutH (fun x : Bool => [(0, .slm (.is c) l 0 n), (1, .int .i64 za), (3, .int .i64 zb), (4, .fn 25 []), (18, .int .i64 (md : Int)), (20, .int .i64 (r : Int)), (24, .int .i64 (e : Int)), (199, .bool x)]) (fun _ => .cell l (rowV (A ++ U1 ++ (V1 ++ (U2 ++ V2 ++ Z))) rest) :: H) (fun x => x = true ↔ (a < r ∧ r < md)) ?_ (fun x s hx hh => ?_)
    · by_cases c1 : a < r
      · have c1' : za < (r : Int) := by omega
        repeat' first
          | (refine kOps ?_; first | (refine LOps.nil ?_) | (refine kG ?_; first | (refine LOps.gT rfl rfl rfl ?_) | (refine LOps.gD true rfl rfl rfl ?_ ?_; (focus (first | (exact decide_eq_true (by assumption)))))) | (refine LOps.ev tT_ok rfl ?_))
          | (refine kWL ?_; first | (refine WL.region (by kernel_rfl) ?_))
        refine CutH.of (decide ((r : Int) < (md : Int))) ⟨rfl, rfl, rfl, rfl, rfl, rfl, rfl, rfl, trivial⟩ hh (Sel.refl _) ?_
        rw [decide_eq_true_iff]; omega
      · have c1' : ¬ za < (r : Int) := by omega
        repeat' first
          | (refine kOps ?_; first | (refine LOps.nil ?_) | (refine kG ?_; first | (refine LOps.gF rfl rfl rfl ?_) | (refine LOps.gD false rfl rfl rfl ?_ ?_; (focus (first | (exact decide_eq_false (by assumption)))))) | (refine LOps.ev tT_ok rfl ?_))
          | (refine kWL ?_; first | (refine WL.region (by kernel_rfl) ?_))
        refine CutH.of false ⟨rfl, rfl, rfl, rfl, rfl, rfl, rfl, rfl, trivial⟩ hh (Sel.refl _) ?_
        simp [c1]
    refine lthen_n ?_
    refine WL.cutH (fun _ : List (List Val) => [(0, .slm (.is c) l 0 n), (3, .int .i64 zb), (4, .fn 25 []), (18, .int .i64 (md : Int)), (24, .int .i64 (e : Int))]) (fun W1 => .cell l (rowV (A ++ W1 ++ (U2 ++ V2 ++ Z)) rest) :: H) (fun W1 => Srt cRow W1 ∧ W1.Perm (U1 ++ V1)) ?_ (fun W1 s hw1 hh => ?_)
    · cases x
      · have hno : U1 = [] ∨ V1 = [] := by
          have : ¬ (a < r ∧ r < md) := fun h => by simp [h] at hx
          rcases Nat.lt_or_ge a r with h | h
          · exact .inr (List.eq_nil_of_length_eq_zero (by omega))
          · exact .inl (List.eq_nil_of_length_eq_zero (by omega))
        have q1 : A ++ U1 ++ (V1 ++ (U2 ++ V2 ++ Z)) = A ++ (U1 ++ V1) ++ (U2 ++ V2 ++ Z) := by simp only [List.append_assoc]
        rw [q1] at hh
        repeat' first
          | (refine kWL ?_; first | (refine WL.skip ?_) | (refine kCond ?_; first | (refine WL.condF rfl ?_)))
        exact CutH.of (U1 ++ V1) ⟨rfl, rfl, rfl, rfl, rfl, trivial⟩ hh (Sel.refl _) ⟨sorted_nil sU.left sV.left hno, .refl _⟩
      · obtain ⟨r1, r2⟩ := hx.1 rfl
        have hL' := hL (by omega) (by omega) (by omega) ha (by omega) (by omega) (by simp only [List.length_append]; omega) hbig hrU1 sU.left sV.left
        repeat' first
          | (refine kCallN 33 ?_ ; refine LOps.call rfl rfl (appO_nil _) ok33 (hL' _ _ hh) (fun v t hv => ?_) ; obtain ⟨rfl, ys, s, ⟨W1, rfl, p1, w1⟩, rfl, hh⟩ := hv)
          | (refine kOps ?_; first | (refine LOps.nil ?_) | (refine LOps.ev tT_ok rfl ?_))
          | (refine kWL ?_; first | (refine WL.region (by kernel_rfl) ?_) | (refine kCond ?_; first | (refine WL.condT rfl ?_)))
        exact CutH.of W1 ⟨rfl, rfl, rfl, rfl, rfl, trivial⟩ hh (Sel.refl _) ⟨w1, p1⟩
    refine lthen_n ?_
    obtain ⟨w1, p1⟩ := hw1
    have lW1 := p1.length_eq
    rw [List.length_append] at lW1
    repeat' first
      | (refine kWL ?_; first | (refine WL.seq ?_))
    -- the second half
    refine WL.cutH (fun x : Bool => [(0, .slm (.is c) l 0 n), (3, .int .i64 zb), (4, .fn 25 []), (18, .int .i64 (md : Int)), (24, .int .i64 (e : Int)), (213, .bool x)]) (fun _ => .cell l (rowV (A ++ W1 ++ (U2 ++ V2 ++ Z)) rest) :: H) (fun x => x = true ↔ (md < e ∧ e < b)) ?_ (fun x s hx hh => ?_)
    · by_cases c1 : md < e
      · have c1' : (md : Int) < (e : Int) := by omega
        repeat' first
          | (refine kOps ?_; first | (refine LOps.nil ?_) | (refine kG ?_; first | (refine LOps.gT rfl rfl rfl ?_) | (refine LOps.gD true rfl rfl rfl ?_ ?_; (focus (first | (exact decide_eq_true (by assumption)))))) | (refine LOps.ev tT_ok rfl ?_))
          | (refine kWL ?_; first | (refine WL.region (by kernel_rfl) ?_))
        refine CutH.of (decide ((e : Int) < zb)) ⟨rfl, rfl, rfl, rfl, rfl, rfl, trivial⟩ hh (Sel.refl _) ?_
        rw [decide_eq_true_iff]; omega
      · have c1' : ¬ (md : Int) < (e : Int) := by omega
        repeat' first
          | (refine kOps ?_; first | (refine LOps.nil ?_) | (refine kG ?_; first | (refine LOps.gF rfl rfl rfl ?_) | (refine LOps.gD false rfl rfl rfl ?_ ?_; (focus (first | (exact decide_eq_false (by assumption)))))) | (refine LOps.ev tT_ok rfl ?_))
          | (refine kWL ?_; first | (refine WL.region (by kernel_rfl) ?_))
        refine CutH.of false ⟨rfl, rfl, rfl, rfl, rfl, rfl, trivial⟩ hh (Sel.refl _) ?_
        simp [c1]
    refine lthen_n ?_
    cases x
    · have hno : U2 = [] ∨ V2 = [] := by
        have : ¬ (md < e ∧ e < b) := fun h => by simp [h] at hx
        rcases Nat.lt_or_ge md e with h | h
        · exact .inr (List.eq_nil_of_length_eq_zero (by omega))
        · exact .inl (List.eq_nil_of_length_eq_zero (by omega))
      repeat' first
        | (refine kWL ?_; first | (refine WL.skip ?_) | (refine kCond ?_; first | (refine WL.condF rfl ?_)))
      exact ⟨⟨[], fun σ _ => rfl, rfl, fin s W1 (U2 ++ V2) hh w1 p1 (sorted_nil sU.right sV.right hno) (.refl _)⟩⟩
    · obtain ⟨r1, r2⟩ := hx.1 rfl
      have hQ' := hQ W1 (by omega) (by omega) (by omega) (by rw [List.length_append]; omega) (by rw [List.length_append]; omega) (by rw [List.length_append]; omega) (by simp only [List.length_append]; omega) hbig hrU2 sU.right sV.right
      have q1 : A ++ W1 ++ (U2 ++ V2 ++ Z) = (A ++ W1) ++ U2 ++ (V2 ++ Z) := by simp only [List.append_assoc]
      rw [q1] at hh
      repeat' first
        | (refine kCallN 33 ?_ ; refine LOps.call rfl rfl (appO_nil _) ok33 (hQ' _ _ hh) (fun v t hv => ?_) ; obtain ⟨rfl, ys, s, ⟨W2, rfl, p2, w2⟩, rfl, hh⟩ := hv)
        | (refine kOps ?_; first | (refine LOps.nil ?_) | (refine LOps.ev tT_ok rfl ?_))
        | (refine kWL ?_; first | (refine WL.region (by kernel_rfl) ?_) | (refine kCond ?_; first | (refine WL.condT rfl ?_)))
      exact ⟨⟨[], fun σ _ => rfl, rfl, fin s W1 W2 (by simpa only [List.append_assoc] using hh) w1 p1 w2 p2⟩⟩

end Go.Proofs.Ytkkifdgnebbghaa
