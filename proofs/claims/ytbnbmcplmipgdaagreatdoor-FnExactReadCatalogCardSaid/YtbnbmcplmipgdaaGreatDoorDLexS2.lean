/-
  Past what is between tokens, of the reference. Own work; no condition.
-/
import Derived.Test.YtbnbmcplmipgdaaGreatDoorMg21
namespace Go.Proofs.YtbnbmcplmipgdaaGreatDoor
open Go
set_option linter.unusedSimpArgs false
set_option linter.unusedVariables false

def two (s : List UInt8) (i : Nat) : List UInt8 := (s.drop i).take 2
theorem two_eq (s : List UInt8) (i : Nat) (a b : UInt8) : decide (two s i = [a, b]) = at2 s i a b := by
  unfold two at2
  have e : ∀ k, (s.drop i)[k]? = s[i + k]? := fun k => List.getElem?_drop
  have e0 := e 0
  have e1 := e 1
  rw [Nat.add_zero] at e0
  rw [← e0, ← e1]
  generalize s.drop i = l
  match l with
  | [] => simp
  | [x] => simp
  | x :: y :: l => simp
theorem two_take (s : List UInt8) (i n : Nat) (h : i ≤ s.length) (hn : n = min s.length (i + 2)) : (s.drop i).take (n - i) = two s i := by
  subst hn
  unfold two
  rcases Nat.lt_or_ge s.length (i + 2) with h2 | h2
  · rw [Nat.min_eq_left (by omega), List.take_of_length_le (by simp), List.take_of_length_le (by simp; omega)]
  · rw [Nat.min_eq_right h2, Nat.add_sub_cancel_left]
theorem AnsL.slcStr {P : Program} {L : Kn} {s : S} {tt : BT} (ht : tt.ok P) {u w : List UInt8} {T : TypeId} {t : Ty} {x i j : Operand} {n n2 : Nat} {k k2 : IntKind} (hx : opd L x = some (.str u)) (hT : tt.get T = some t) (hkd : t.kd = .string) (hi : opd L i = some (.int k (n : Int))) (hj : opd L j = some (.int k2 (n2 : Int)))
    (hn : n ≤ n2) (hn2 : n2 ≤ u.length) (hw : (u.take n2).drop n = w) : AnsL P (.slice T x (some i) (some j) none) L s (.str w) := by
  subst hw
  refine AnsL.slc (lo' := some (.int k (n : Int))) (hi' := some (.int k2 (n2 : Int))) (mx' := none) hx (by simp only [opdO, hi]) (by simp only [opdO, hj]) rfl ?_
  simp only [vslice, ht.get hT, hkd, Option.bind_some, bound, Int.toNat_natCast, Int.natCast_nonneg, if_true]
  rw [if_pos ⟨hn, hn2⟩, List.drop_take]
theorem seekC_step {s : List UInt8} {e : Nat} (h : e < s.length) : seekC (s.drop e) = if at2 s e 42 47 = true then some 0 else (seekC (s.drop (e + 1))).map (· + 1) := by
  rw [List.drop_eq_getElem_cons h, seekC, List.head?_drop]
  simp only [at2, List.getElem?_eq_getElem h, Option.some.injEq, Bool.and_eq_true, decide_eq_true_eq]
theorem specl1Min_v (a b : Int) (s : S) : VCalls Tryz.prog 55 [.int .i64 a, .int .i64 b] s (fun v s' => v = .int .i64 (min a b) ∧ s' = s) := by
  by_cases h : a < b
  · have e : min a b = a := by omega
    refine LCalls.pure Tryz.func55 rfl (by kernel_rfl) (by simp) ?_
    repeat' first
      | (refine kOps ?_; first | (refine LOps.nil ?_) | (refine LOps.ev tT_ok rfl ?_))
      | (refine kWL ?_; first | (refine WL.seq ?_) | (refine WL.region (by kernel_rfl) ?_) | (refine WL.ret ?_) | (refine kCond ?_; first | (refine WL.condT' rfl ?_ ?_; (focus (first | (exact decide_eq_true (by assumption)))))))
      | (refine lthen_n ?_)
      | (refine lthen_r ?_)
      | (refine LPost.r1 (r := .tmp 4) (.inl rfl) (Res1.tmp rfl) ?_)
      | (refine PureR.mk ?_)
    rw [e]; rfl
  · have e : min a b = b := by omega
    refine LCalls.pure Tryz.func55 rfl (by kernel_rfl) (by simp) ?_
    repeat' first
      | (refine kOps ?_; first | (refine LOps.nil ?_) | (refine LOps.ev tT_ok rfl ?_))
      | (refine kWL ?_; first | (refine WL.seq ?_) | (refine WL.region (by kernel_rfl) ?_) | (refine WL.skip ?_) | (refine WL.ret ?_) | (refine kCond ?_; first | (refine WL.condF' rfl ?_ ?_; (focus (first | (exact decide_eq_false (by assumption)))))))
      | (refine lthen_n ?_)
      | (refine LPost.r1 (r := .tmp 4) (.inl rfl) (Res1.tmp rfl) ?_)
      | (refine PureR.mk ?_)
    rw [e]; rfl
theorem ws_bytes (b : UInt8) : isWs b = (decide ((b.toNat : Int) = 32) || decide ((b.toNat : Int) = 9) || decide ((b.toNat : Int) = 10) || decide ((b.toNat : Int) = 13)) := by
  unfold isWs
  have e : ∀ c : UInt8, (b = c) ↔ ((b.toNat : Int) = (c.toNat : Int)) := fun c => by rw [← UInt8.toNat_inj]; omega
  simp only [e]
  rfl
set_option maxHeartbeats 2000000 in
theorem specl3Pass_v (l : List UInt8) (hl : l.length ≤ 1048576) (i : Nat) (hi : i ≤ l.length) (s : S) : VCalls Tryz.prog 27 [.str l, .int .i64 (i : Int)] s (fun v s' => v = .int .i64 (pass l i) ∧ s' = s) := by
  refine LCalls.pure Tryz.func27 rfl (by kernel_rfl) (by simp) ?_
  repeat' first
    | (refine kOps ?_; first | (refine LOps.nil ?_) | (refine LOps.ev tT_ok rfl ?_))
    | (refine kWL ?_; first | (refine WL.seq ?_) | (refine WL.region (by kernel_rfl) ?_) | (refine WL.block ?_))
    | (refine lthen_n ?_)
  refine WL.loopD (fun k : Nat => l.length - k) (fun k => [(0, .str l), (1, .int .i64 (k : Int))]) (fun _ => []) (fun k => k ≤ l.length ∧ pass l i = pass l k) 0 i ⟨hi, rfl⟩ (fun _ => rfl) ⟨rfl, rfl, trivial⟩ rfl (fun k hk => ?_) (fun k hk => ?_)
  · simp [UnderK, UnderX, V.under, V.underL]
  obtain ⟨hk, hc⟩ := hk
  rcases Nat.lt_or_ge k l.length with hlt | hge
  · have hlt' : (k : Int) < (l.length : Int) := by omega
    have hg : l[k]? = some l[k] := by simp [hlt]
    have hM := fun t => specl1Min_v (l.length : Int) ((k : Int) + 2) t
    obtain ⟨n2, hn2⟩ : ∃ n2 : Nat, n2 = min l.length (k + 2) := ⟨_, rfl⟩
    have hm : min (l.length : Int) ((k : Int) + 2) = (n2 : Int) := by omega
    rw [hm] at hM
    have hkn : k ≤ n2 := by omega
    have hnl : n2 ≤ l.length := by omega
    have hw : (l.take n2).drop k = two l k := by rw [List.drop_take]; exact two_take l k n2 hk hn2
    have t1 := two_eq l k 45 45
    have t2 := two_eq l k 47 42
    have hws := ws_bytes l[k]
    generalize htw : two l k = tw at hw t1 t2
    cases w : isWs l[k]
    · rw [w] at hws
      simp only [Bool.false_eq, Bool.or_eq_false_iff, decide_eq_false_iff_not] at hws
      obtain ⟨⟨⟨n1, n2'⟩, n3⟩, n4⟩ := hws
      cases c : at2 l k 45 45 <;> rw [c] at t1
      · cases d : at2 l k 47 42 <;> rw [d] at t2
        · rw [pass_tok hlt w c d] at hc
          repeat' first
            | (refine kOps ?_; first | (refine LOps.nil ?_) | (refine kG ?_; first | (refine LOps.gT rfl rfl rfl ?_) | (refine LOps.gD false rfl rfl rfl ?_ ?_; (focus (first | (exact decide_eq_false (by assumption)))))) | (refine LOps.ev tT_ok rfl ?_) | (refine kBin ?_; first | (refine LOps.ans (AnsL.add rfl rfl ?_) ?_; (focus (constructor <;> omega)))) | (refine kSidx ?_; first | (refine LOps.ans (AnsL.sidx tT_ok rfl rfl rfl rfl hg) ?_)) | (refine kSlc ?_; first | (refine LOps.ans (AnsL.slcStr tT_ok rfl rfl rfl rfl rfl hkn hnl hw) ?_)) | (refine kCallN 55 ?_; first | (refine LOps.ans (AnsL.callP rfl rfl rfl (ok55) (hM _)) ?_)))
            | (refine kWL ?_; first | (refine WL.seq ?_) | (refine WL.region (by kernel_rfl) ?_) | (refine WL.block ?_) | (refine WL.skip ?_) | (refine WL.ret ?_) | (refine kCond ?_; first | (refine WL.condT' rfl ?_ ?_; (focus (first | (exact decide_eq_true (by assumption))))) | (refine WL.condF' rfl ?_ ?_; (focus (first | (assumption) | (exact decide_eq_false (by assumption)))))))
            | (refine lthen_n ?_)
            | (refine lthen_r ?_)
            | (refine lblock_r ?_)
            | (refine lbackD_r ?_)
            | (refine LPost.r1 (r := .tmp 4) (.inl rfl) (Res1.tmp rfl) ?_)
            | (refine PureR.mk ?_)
          rw [hc]; rfl
        · have hk2 : k + 2 ≤ l.length := by
            simp only [at2, Bool.and_eq_true, decide_eq_true_eq] at d
            have := (List.getElem?_eq_some_iff.1 d.2).1
            omega
          repeat' first
            | (refine kOps ?_; first | (refine LOps.nil ?_) | (refine kG ?_; first | (refine LOps.gT rfl rfl rfl ?_) | (refine LOps.gD false rfl rfl rfl ?_ ?_; (focus (first | (exact decide_eq_false (by assumption)))))) | (refine LOps.ev tT_ok rfl ?_) | (refine kBin ?_; first | (refine LOps.ans (AnsL.add rfl rfl ?_) ?_; (focus (constructor <;> omega)))) | (refine kSidx ?_; first | (refine LOps.ans (AnsL.sidx tT_ok rfl rfl rfl rfl hg) ?_)) | (refine kSlc ?_; first | (refine LOps.ans (AnsL.slcStr tT_ok rfl rfl rfl rfl rfl hkn hnl hw) ?_)) | (refine kCallN 55 ?_; first | (refine LOps.ans (AnsL.callP rfl rfl rfl (ok55) (hM _)) ?_)))
            | (refine kWL ?_; first | (refine WL.seq ?_) | (refine WL.region (by kernel_rfl) ?_) | (refine WL.block ?_) | (refine WL.skip ?_) | (refine kCond ?_; first | (refine WL.condT' rfl ?_ ?_; (focus (first | (assumption) | (exact decide_eq_true (by assumption))))) | (refine WL.condF' rfl ?_ ?_; (focus (first | (assumption) | (exact decide_eq_false (by assumption)))))))
            | (refine lthen_n ?_)
          refine WL.loop0 (fun m : Nat => l.length - m) (fun m => [(0, .str l), (1, .int .i64 (k : Int)), (6, .int .i64 (m : Int))]) (fun _ => s.ext []) (fun m => k + 2 ≤ m ∧ m ≤ l.length ∧ seekC (l.drop (k + 2)) = (seekC (l.drop m)).map (· + (m - (k + 2)))) (k + 2) ⟨Nat.le_refl _, hk2, by simp⟩ ⟨rfl, rfl, rfl, trivial⟩ rfl (fun m hm => ?_)
          obtain ⟨m1, m2, m3⟩ := hm
          rcases Nat.lt_or_ge m l.length with hlm | hgm
          · have hlm' : (m : Int) < (l.length : Int) := by omega
            have hM2 := fun t => specl1Min_v (l.length : Int) ((m : Int) + 2) t
            obtain ⟨n3, hn3⟩ : ∃ n3 : Nat, n3 = min l.length (m + 2) := ⟨_, rfl⟩
            have hm3 : min (l.length : Int) ((m : Int) + 2) = (n3 : Int) := by omega
            rw [hm3] at hM2
            have hmn : m ≤ n3 := by omega
            have hnl3 : n3 ≤ l.length := by omega
            have hw3 : (l.take n3).drop m = two l m := by rw [List.drop_take]; exact two_take l m n3 m2 hn3
            have t3 := two_eq l m 42 47
            have st := seekC_step hlm
            cases e : at2 l m 42 47 <;> rw [e] at t3 st
            · simp only [Bool.false_eq_true, if_false] at st
              generalize two l m = tw3 at hw3 t3
              have t3' : ¬ tw3 = [42, 47] := of_decide_eq_false t3
              repeat' first
                | (refine kOps ?_; first | (refine LOps.nil ?_) | (refine kG ?_; first | (refine LOps.gT rfl rfl rfl ?_) | (refine LOps.gD true rfl rfl rfl ?_ ?_; (focus (first | (exact decide_eq_true (by assumption)))))) | (refine LOps.ev tT_ok rfl ?_) | (refine kBin ?_; first | (refine LOps.ans (AnsL.add rfl rfl ?_) ?_; (focus (constructor <;> omega)))) | (refine kSlc ?_; first | (refine LOps.ans (AnsL.slcStr tT_ok rfl rfl rfl rfl rfl hmn hnl3 hw3) ?_)) | (refine kCallN 55 ?_; first | (refine LOps.ans (AnsL.callP rfl rfl rfl (ok55) (hM2 _)) ?_)))
                | (refine kWL ?_; first | (refine WL.seq ?_) | (refine WL.region (by kernel_rfl) ?_) | (refine WL.block ?_) | (refine WL.skip ?_) | (refine kCond ?_; first | (refine WL.condT' rfl ?_ ?_; (focus (first | (simp only [decide_eq_true_eq, decide_eq_false_iff_not, Bool.not_eq_true', Bool.not_eq_false', Int.ofNat_lt, Int.ofNat_le, Int.ofNat_inj, not_true_eq_false, not_false_eq_true]; omega))))))
                | (refine lthen_n ?_)
                | (refine lblock_n ?_)
              refine lback.of (m + 1) ?_ ?_ ?_ rfl
              · refine ⟨by omega, by omega, ?_⟩
                rw [m3, st, Option.map_map]
                congr 1
                funext x
                simp only [Function.comp_apply]
                omega
              · omega
              · exact ⟨rfl, rfl, rfl, trivial⟩
            · simp only [if_true] at st
              rw [st] at m3
              have hm2 : m + 2 ≤ l.length := by
                simp only [at2, Bool.and_eq_true, decide_eq_true_eq] at e
                have := (List.getElem?_eq_some_iff.1 e.2).1
                omega
              have hp := pass_com hlt w c d m3
              rw [show k + 2 + (0 + (m - (k + 2))) + 2 = m + 2 by omega] at hp
              rw [hp] at hc
              generalize two l m = tw3 at hw3 t3
              have t3' : tw3 = [42, 47] := of_decide_eq_true t3
              have hge' : ¬ (m : Int) ≥ (l.length : Int) := by omega
              repeat' first
                | (refine kOps ?_; first | (refine LOps.nil ?_) | (refine kG ?_; first | (refine LOps.gT rfl rfl rfl ?_) | (refine LOps.gD true rfl rfl rfl ?_ ?_; (focus (first | (exact decide_eq_true (by assumption)))))) | (refine LOps.ev tT_ok rfl ?_) | (refine kBin ?_; first | (refine LOps.ans (AnsL.add rfl rfl ?_) ?_; (focus (constructor <;> omega)))) | (refine kSlc ?_; first | (refine LOps.ans (AnsL.slcStr tT_ok rfl rfl rfl rfl rfl hmn hnl3 hw3) ?_)) | (refine kCallN 55 ?_; first | (refine LOps.ans (AnsL.callP rfl rfl rfl (ok55) (hM2 _)) ?_)))
                | (refine kWL ?_; first | (refine WL.seq ?_) | (refine WL.region (by kernel_rfl) ?_) | (refine WL.exit ?_) | (refine WL.skip ?_) | (refine kCond ?_; first | (refine WL.condF' rfl ?_ ?_; (focus (first | (exact decide_eq_false (by assumption)) | (simp only [decide_eq_true_eq, decide_eq_false_iff_not, Bool.not_eq_true', Bool.not_eq_false', Int.ofNat_lt, Int.ofNat_le, Int.ofNat_inj, not_true_eq_false, not_false_eq_true]; omega))))))
                | (refine lthen_n ?_)
                | (refine lthen_e ?_)
                | (refine lblock_n ?_)
                | (refine lblock_e ?_)
                | (refine lback_e ?_)
              all_goals
                refine lbackD.of (m + 2) ?_ ?_ ?_ ?_
                · first | omega | (refine ⟨?_, ?_⟩; (focus (first | omega | (simp; omega))); (first | omega | (simp_all [hc] <;> fail) | (simp_all [hc]; omega))) | (simp_all [hc] <;> fail) | (simp_all [hc]; omega)
                · first | omega | (simp; omega) | simp_all
                · repeat' first
                    | exact SubL.nil
                    | (refine SubL.mk rfl ?_ ?_)
                    | rfl
                    | (simp [hc] <;> fail)
                    | (simp [hc]; omega)
                · first | rfl | (simp [hc] <;> fail) | (simp [hc]; omega)
          · have hlm' : ¬ (m : Int) < (l.length : Int) := by omega
            have hge' : (m : Int) ≥ (l.length : Int) := by omega
            have hnone : seekC (l.drop (k + 2)) = none := by rw [m3, List.drop_of_length_le hgm]; rfl
            rw [pass_open hlt w c d hnone] at hc
            have w1 : IntKind.i64.wrap (0 - (k : Int)) = -(k : Int) := by rw [wrap_in (by constructor <;> omega)]; omega
            have w2 : IntKind.i64.wrap (-(k : Int) - 1) = -(k : Int) - 1 := wrap_in (by constructor <;> omega)
            repeat' first
              | (refine kOps ?_; first | (refine LOps.nil ?_) | (refine kG ?_; first | (refine LOps.gF rfl rfl rfl ?_) | (refine LOps.gD false rfl rfl rfl ?_ ?_; (focus (first | (exact decide_eq_false (by assumption)))))) | (refine LOps.ev tT_ok rfl ?_) | (refine kBin ?_; first | (refine LOps.ans (AnsL.sub rfl rfl ?_) ?_; (focus (constructor <;> omega)))))
              | (refine kWL ?_; first | (refine WL.seq ?_) | (refine WL.region (by kernel_rfl) ?_) | (refine WL.exit ?_) | (refine WL.ret ?_) | (refine kCond ?_; first | (refine WL.condF rfl ?_) | (refine WL.condT' rfl ?_ ?_; (focus (first | (exact decide_eq_true (by assumption)))))))
              | (refine lthen_n ?_)
              | (refine lthen_r ?_)
              | (refine lthen_e ?_)
              | (refine lblock_r ?_)
              | (refine lblock_e ?_)
              | (refine lback_e ?_)
              | (refine lbackD_r ?_)
              | (refine LPost.r1 (r := .tmp 4) (.inl rfl) (Res1.tmp rfl) ?_)
              | (refine PureR.mk ?_)
            rw [hc, w1]; rfl
      · have hb : l[k] = 45 := by
          simp only [at2, Bool.and_eq_true, decide_eq_true_eq, hg, Option.some.injEq] at c
          exact c.1
        rw [pass_line hlt w c] at hc
        repeat' first
          | (refine kOps ?_; first | (refine LOps.nil ?_) | (refine kG ?_; first | (refine LOps.gT rfl rfl rfl ?_) | (refine LOps.gD false rfl rfl rfl ?_ ?_; (focus (first | (exact decide_eq_false (by assumption)))))) | (refine LOps.ev tT_ok rfl ?_) | (refine kBin ?_; first | (refine LOps.ans (AnsL.add rfl rfl ?_) ?_; (focus (constructor <;> omega)))) | (refine kSidx ?_; first | (refine LOps.ans (AnsL.sidx tT_ok rfl rfl rfl rfl hg) ?_)) | (refine kSlc ?_; first | (refine LOps.ans (AnsL.slcStr tT_ok rfl rfl rfl rfl rfl hkn hnl hw) ?_)) | (refine kCallN 55 ?_; first | (refine LOps.ans (AnsL.callP rfl rfl rfl (ok55) (hM _)) ?_)))
          | (refine kWL ?_; first | (refine WL.seq ?_) | (refine WL.region (by kernel_rfl) ?_) | (refine WL.block ?_) | (refine WL.skip ?_) | (refine kCond ?_; first | (refine WL.condT' rfl ?_ ?_; (focus (first | (assumption) | (exact decide_eq_true (by assumption))))) | (refine WL.condF' rfl ?_ ?_; (focus (first | (exact decide_eq_false (by assumption)))))))
          | (refine lthen_n ?_)
        refine WL.loop0 (fun m : Nat => l.length - m) (fun m => [(0, .str l), (1, .int .i64 (m : Int))]) (fun _ => s.ext []) (fun m => k ≤ m ∧ m ≤ l.length ∧ k + seek (fun b => decide (b = 10)) (l.drop k) = m + seek (fun b => decide (b = 10)) (l.drop m)) k ⟨Nat.le_refl _, by omega, rfl⟩ ⟨rfl, rfl, trivial⟩ rfl (fun m hm => ?_)
        obtain ⟨m1, m2, m3⟩ := hm
        have hkm : k < k + seek (fun b => decide (b = 10)) (l.drop k) := by
          have := seek_step (p := fun b => decide (b = 10)) hlt (by rw [hb]; rfl)
          omega
        rcases Nat.lt_or_ge m l.length with hlm | hgm
        · have hlm' : (m : Int) < (l.length : Int) := by omega
          have hgm : l[m]? = some l[m] := by simp [hlm]
          by_cases hn : l[m] = 10
          · have e : m + seek (fun b => decide (b = 10)) (l.drop m) = m := seek_stop hlm (by simp [hn])
            rw [e] at m3
            rw [m3] at hc hkm
            have hn' : (l[m].toNat : Int) = 10 := by rw [hn]; rfl
            repeat' first
              | (refine kOps ?_; first | (refine LOps.nil ?_) | (refine kG ?_; first | (refine LOps.gT rfl rfl rfl ?_) | (refine LOps.gD true rfl rfl rfl ?_ ?_; (focus (first | (exact decide_eq_true (by assumption)))))) | (refine LOps.ev tT_ok rfl ?_) | (refine kSidx ?_; first | (refine LOps.ans (AnsL.sidx tT_ok rfl rfl rfl rfl hgm) ?_)))
              | (refine kWL ?_; first | (refine WL.seq ?_) | (refine WL.region (by kernel_rfl) ?_) | (refine WL.exit ?_) | (refine kCond ?_; first | (refine WL.condF' rfl ?_ ?_; (focus (first | (simp only [decide_eq_true_eq, decide_eq_false_iff_not, Bool.not_eq_true', Bool.not_eq_false', Int.ofNat_lt, Int.ofNat_le, Int.ofNat_inj, not_true_eq_false, not_false_eq_true]; omega))))))
              | (refine lthen_n ?_)
              | (refine lthen_e ?_)
              | (refine lblock_n ?_)
              | (refine lblock_e ?_)
              | (refine lback_e ?_)
            all_goals
              refine lbackD.of (m) ?_ ?_ ?_ ?_
              · first | omega | (refine ⟨?_, ?_⟩; (focus (first | omega | (simp; omega))); (first | omega | (simp_all [hc] <;> fail) | (simp_all [hc]; omega))) | (simp_all [hc] <;> fail) | (simp_all [hc]; omega)
              · first | omega | (simp; omega) | simp_all
              · repeat' first
                  | exact SubL.nil
                  | (refine SubL.mk rfl ?_ ?_)
                  | rfl
                  | (simp [hc] <;> fail)
                  | (simp [hc]; omega)
              · first | rfl | (simp [hc] <;> fail) | (simp [hc]; omega)
          · have e := seek_step (p := fun b => decide (b = 10)) hlm (by simp [hn])
            have hn' : ¬ (l[m].toNat : Int) = 10 := fun h => hn (by rw [← UInt8.toNat_inj]; have : (10 : UInt8).toNat = 10 := rfl; omega)
            repeat' first
              | (refine kOps ?_; first | (refine LOps.nil ?_) | (refine kG ?_; first | (refine LOps.gT rfl rfl rfl ?_) | (refine LOps.gD true rfl rfl rfl ?_ ?_; (focus (first | (exact decide_eq_true (by assumption)))))) | (refine LOps.ev tT_ok rfl ?_) | (refine kBin ?_; first | (refine LOps.ans (AnsL.add rfl rfl ?_) ?_; (focus (constructor <;> omega)))) | (refine kSidx ?_; first | (refine LOps.ans (AnsL.sidx tT_ok rfl rfl rfl rfl hgm) ?_)))
              | (refine kWL ?_; first | (refine WL.seq ?_) | (refine WL.region (by kernel_rfl) ?_) | (refine WL.block ?_) | (refine WL.skip ?_) | (refine kCond ?_; first | (refine WL.condT' rfl ?_ ?_; (focus (first | (simp only [decide_eq_true_eq, decide_eq_false_iff_not, Bool.not_eq_true', Bool.not_eq_false', Int.ofNat_lt, Int.ofNat_le, Int.ofNat_inj, not_true_eq_false, not_false_eq_true]; omega))))))
              | (refine lthen_n ?_)
              | (refine lblock_n ?_)
            refine lback.of (m + 1) ?_ ?_ ?_ rfl
            · exact ⟨by omega, by omega, by omega⟩
            · omega
            · exact ⟨rfl, rfl, trivial⟩
        · have hlm' : ¬ (m : Int) < (l.length : Int) := by omega
          rw [seek_end hgm, Nat.add_zero] at m3
          rw [m3] at hc hkm
          repeat' first
            | (refine kOps ?_; first | (refine LOps.nil ?_) | (refine kG ?_; first | (refine LOps.gF rfl rfl rfl ?_) | (refine LOps.gD false rfl rfl rfl ?_ ?_; (focus (first | (exact decide_eq_false (by assumption)))))) | (refine LOps.ev tT_ok rfl ?_))
            | (refine kWL ?_; first | (refine WL.seq ?_) | (refine WL.region (by kernel_rfl) ?_) | (refine WL.exit ?_) | (refine kCond ?_; first | (refine WL.condF rfl ?_)))
            | (refine lthen_n ?_)
            | (refine lthen_e ?_)
            | (refine lblock_n ?_)
            | (refine lblock_e ?_)
            | (refine lback_e ?_)
          all_goals
            refine lbackD.of (m) ?_ ?_ ?_ ?_
            · first | omega | (refine ⟨?_, ?_⟩; (focus (first | omega | (simp; omega))); (first | omega | (simp_all [hc] <;> fail) | (simp_all [hc]; omega))) | (simp_all [hc] <;> fail) | (simp_all [hc]; omega)
            · first | omega | (simp; omega) | simp_all
            · repeat' first
                | exact SubL.nil
                | (refine SubL.mk rfl ?_ ?_)
                | rfl
                | (simp [hc] <;> fail)
                | (simp [hc]; omega)
            · first | rfl | (simp [hc] <;> fail) | (simp [hc]; omega)
    · rw [pass_ws hlt w] at hc
      rw [w] at hws
      by_cases e1 : (l[k].toNat : Int) = 32
      · skip
        repeat' first
          | (refine kOps ?_; first | (refine LOps.nil ?_) | (refine kG ?_; first | (refine LOps.gF rfl rfl rfl ?_) | (refine LOps.gD true rfl rfl rfl ?_ ?_; (focus (first | (exact decide_eq_true (by assumption)))))) | (refine LOps.ev tT_ok rfl ?_) | (refine kBin ?_; first | (refine LOps.ans (AnsL.add rfl rfl ?_) ?_; (focus (constructor <;> omega)))) | (refine kSidx ?_; first | (refine LOps.ans (AnsL.sidx tT_ok rfl rfl rfl rfl hg) ?_)) | (refine kSlc ?_; first | (refine LOps.ans (AnsL.slcStr tT_ok rfl rfl rfl rfl rfl hkn hnl hw) ?_)) | (refine kCallN 55 ?_; first | (refine LOps.ans (AnsL.callP rfl rfl rfl (ok55) (hM _)) ?_)))
          | (refine kWL ?_; first | (refine WL.seq ?_) | (refine WL.region (by kernel_rfl) ?_) | (refine WL.block ?_) | (refine WL.skip ?_) | (refine kCond ?_; first | (refine WL.condT rfl ?_) | (refine WL.condT' rfl ?_ ?_; (focus (first | (exact decide_eq_true (by assumption)))))))
          | (refine lthen_n ?_)
          | (refine lblock_n ?_)
        all_goals
          refine lbackD.of (k + 1) ?_ ?_ ?_ ?_
          · first | omega | (refine ⟨?_, ?_⟩; (focus (first | omega | (simp; omega))); (first | omega | (simp_all [hc] <;> fail) | (simp_all [hc]; omega))) | (simp_all [hc] <;> fail) | (simp_all [hc]; omega)
          · first | omega | (simp; omega) | simp_all
          · repeat' first
              | exact SubL.nil
              | (refine SubL.mk rfl ?_ ?_)
              | rfl
              | (simp [hc] <;> fail)
              | (simp [hc]; omega)
          · first | rfl | (simp [hc] <;> fail) | (simp [hc]; omega)
      by_cases e2 : (l[k].toNat : Int) = 9
      · skip
        repeat' first
          | (refine kOps ?_; first | (refine LOps.nil ?_) | (refine kG ?_; first | (refine LOps.gT rfl rfl rfl ?_) | (refine LOps.gF rfl rfl rfl ?_) | (refine LOps.gD true rfl rfl rfl ?_ ?_; (focus (first | (exact decide_eq_true (by assumption))))) | (refine LOps.gD false rfl rfl rfl ?_ ?_; (focus (first | (exact decide_eq_false (by assumption)))))) | (refine LOps.ev tT_ok rfl ?_) | (refine kBin ?_; first | (refine LOps.ans (AnsL.add rfl rfl ?_) ?_; (focus (constructor <;> omega)))) | (refine kSidx ?_; first | (refine LOps.ans (AnsL.sidx tT_ok rfl rfl rfl rfl hg) ?_)) | (refine kSlc ?_; first | (refine LOps.ans (AnsL.slcStr tT_ok rfl rfl rfl rfl rfl hkn hnl hw) ?_)) | (refine kCallN 55 ?_; first | (refine LOps.ans (AnsL.callP rfl rfl rfl (ok55) (hM _)) ?_)))
          | (refine kWL ?_; first | (refine WL.seq ?_) | (refine WL.region (by kernel_rfl) ?_) | (refine WL.block ?_) | (refine WL.skip ?_) | (refine kCond ?_; first | (refine WL.condT rfl ?_) | (refine WL.condT' rfl ?_ ?_; (focus (first | (exact decide_eq_true (by assumption)))))))
          | (refine lthen_n ?_)
          | (refine lblock_n ?_)
        all_goals
          refine lbackD.of (k + 1) ?_ ?_ ?_ ?_
          · first | omega | (refine ⟨?_, ?_⟩; (focus (first | omega | (simp; omega))); (first | omega | (simp_all [hc] <;> fail) | (simp_all [hc]; omega))) | (simp_all [hc] <;> fail) | (simp_all [hc]; omega)
          · first | omega | (simp; omega) | simp_all
          · repeat' first
              | exact SubL.nil
              | (refine SubL.mk rfl ?_ ?_)
              | rfl
              | (simp [hc] <;> fail)
              | (simp [hc]; omega)
          · first | rfl | (simp [hc] <;> fail) | (simp [hc]; omega)
      by_cases e3 : (l[k].toNat : Int) = 10
      · skip
        repeat' first
          | (refine kOps ?_; first | (refine LOps.nil ?_) | (refine kG ?_; first | (refine LOps.gT rfl rfl rfl ?_) | (refine LOps.gF rfl rfl rfl ?_) | (refine LOps.gD true rfl rfl rfl ?_ ?_; (focus (first | (exact decide_eq_true (by assumption))))) | (refine LOps.gD false rfl rfl rfl ?_ ?_; (focus (first | (exact decide_eq_false (by assumption)))))) | (refine LOps.ev tT_ok rfl ?_) | (refine kBin ?_; first | (refine LOps.ans (AnsL.add rfl rfl ?_) ?_; (focus (constructor <;> omega)))) | (refine kSidx ?_; first | (refine LOps.ans (AnsL.sidx tT_ok rfl rfl rfl rfl hg) ?_)) | (refine kSlc ?_; first | (refine LOps.ans (AnsL.slcStr tT_ok rfl rfl rfl rfl rfl hkn hnl hw) ?_)) | (refine kCallN 55 ?_; first | (refine LOps.ans (AnsL.callP rfl rfl rfl (ok55) (hM _)) ?_)))
          | (refine kWL ?_; first | (refine WL.seq ?_) | (refine WL.region (by kernel_rfl) ?_) | (refine WL.block ?_) | (refine WL.skip ?_) | (refine kCond ?_; first | (refine WL.condT rfl ?_) | (refine WL.condT' rfl ?_ ?_; (focus (first | (exact decide_eq_true (by assumption)))))))
          | (refine lthen_n ?_)
          | (refine lblock_n ?_)
        all_goals
          refine lbackD.of (k + 1) ?_ ?_ ?_ ?_
          · first | omega | (refine ⟨?_, ?_⟩; (focus (first | omega | (simp; omega))); (first | omega | (simp_all [hc] <;> fail) | (simp_all [hc]; omega))) | (simp_all [hc] <;> fail) | (simp_all [hc]; omega)
          · first | omega | (simp; omega) | simp_all
          · repeat' first
              | exact SubL.nil
              | (refine SubL.mk rfl ?_ ?_)
              | rfl
              | (simp [hc] <;> fail)
              | (simp [hc]; omega)
          · first | rfl | (simp [hc] <;> fail) | (simp [hc]; omega)
      · have e4 : (l[k].toNat : Int) = 13 := by simpa [e1, e2, e3] using hws
        repeat' first
          | (refine kOps ?_; first | (refine LOps.nil ?_) | (refine kG ?_; first | (refine LOps.gT rfl rfl rfl ?_) | (refine LOps.gD false rfl rfl rfl ?_ ?_; (focus (first | (exact decide_eq_false (by assumption)))))) | (refine LOps.ev tT_ok rfl ?_) | (refine kBin ?_; first | (refine LOps.ans (AnsL.add rfl rfl ?_) ?_; (focus (constructor <;> omega)))) | (refine kSidx ?_; first | (refine LOps.ans (AnsL.sidx tT_ok rfl rfl rfl rfl hg) ?_)) | (refine kSlc ?_; first | (refine LOps.ans (AnsL.slcStr tT_ok rfl rfl rfl rfl rfl hkn hnl hw) ?_)) | (refine kCallN 55 ?_; first | (refine LOps.ans (AnsL.callP rfl rfl rfl (ok55) (hM _)) ?_)))
          | (refine kWL ?_; first | (refine WL.seq ?_) | (refine WL.region (by kernel_rfl) ?_) | (refine WL.block ?_) | (refine WL.skip ?_) | (refine kCond ?_; first | (refine WL.condT' rfl ?_ ?_; (focus (first | (exact decide_eq_true (by assumption)))))))
          | (refine lthen_n ?_)
          | (refine lblock_n ?_)
        all_goals
          refine lbackD.of (k + 1) ?_ ?_ ?_ ?_
          · first | omega | (refine ⟨?_, ?_⟩; (focus (first | omega | (simp; omega))); (first | omega | (simp_all [hc] <;> fail) | (simp_all [hc]; omega))) | (simp_all [hc] <;> fail) | (simp_all [hc]; omega)
          · first | omega | (simp; omega) | simp_all
          · repeat' first
              | exact SubL.nil
              | (refine SubL.mk rfl ?_ ?_)
              | rfl
              | (simp [hc] <;> fail)
              | (simp [hc]; omega)
          · first | rfl | (simp [hc] <;> fail) | (simp [hc]; omega)
  · have hlt' : ¬ (k : Int) < (l.length : Int) := by omega
    rw [pass_end hge] at hc
    repeat' first
      | (refine kOps ?_; first | (refine LOps.nil ?_) | (refine LOps.ev tT_ok rfl ?_))
      | (refine kWL ?_; first | (refine WL.seq ?_) | (refine WL.region (by kernel_rfl) ?_) | (refine WL.exit ?_) | (refine WL.ret ?_) | (refine kCond ?_; first | (refine WL.condF' rfl ?_ ?_; (focus (first | (exact decide_eq_false (by assumption)))))))
      | (refine lthen_n ?_)
      | (refine lthen_e ?_)
      | (refine lblock_e ?_)
      | (refine lbackD_e ?_)
      | (refine LPost.r1 (r := .tmp 4) (.inl rfl) (Res1.tmp rfl) ?_)
      | (refine PureR.mk ?_)
    rw [hc]; rfl

end Go.Proofs.YtbnbmcplmipgdaaGreatDoor
