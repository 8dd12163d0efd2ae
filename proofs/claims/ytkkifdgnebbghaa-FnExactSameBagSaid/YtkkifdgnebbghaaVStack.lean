/-
  A stack in memory of one's own: a slice whose variable is open in the books, cut and appended to. Own work; no condition.
-/
import Derived.Test.YtkkifdgnebbghaaVCap3
import Derived.Test.YtkkifdgnebbghaaVSort
namespace Go.Proofs.Ytkkifdgnebbghaa
open Go
set_option linter.unusedSimpArgs false
set_option linter.unusedVariables false

section
variable {P : Program} {N : Nat} {ops : Array Oper} {l : List Oper} {K : Kn → S → Prop} {L : Kn} {s : S} {tt : BT} {d : Nat} {ty : TypeId} {p : String} {a : Array Edge} {H H1 : List BE}
/-- An append to a slice whose variable is open, be it empty. -/
theorem LOps.appE (ht : tt.ok P) {T U e : TypeId} {t te : Ty} {x y : Operand} {c lv n : Nat} {us ys rest : List V} (i : Nat) (hx : opd L x = some (.slm (.is c) lv 0 n)) (hi : nthO H i = some (.cell lv (V.flat us ++ rest))) (he : eraO H i = some H1) (hy : opd L y = some (.sl 0 ys))
    (hT : tt.get T = some t) (hkd : t.kd = .slice e) (hte : tt.get e = some te) (hz : (Nat.beq te.zero.length te.size && Nat.blt 0 te.size) = true) (hU : Nat.beq U T = true) (hne : ys.isEmpty = false) (hh : Hold s s.next H)
    (hun : us.length = n) (hus : ∀ u ∈ us, u.cells.length = te.size) (hrl : rest.length = (c - n) * te.size) (hnc : n ≤ c) (hall : Elems te ys) (hb : AppB (n + ys.length) te.bytes)
    (hk : ∀ (s' : S) (c' l' : Nat) (rest' : List V), n + ys.length ≤ c' → rest'.length = (c' - (n + ys.length)) * te.size → Hold s' s'.next (.cell l' (V.flat (us ++ ys) ++ rest') :: H1) → LOps P N ops l K ((d, .slm (.is c') l' 0 (n + ys.length)) :: L) (s'.ext [])) : LOps P N ops (⟨some d, appCall x y #[T, U], ty, p, a, none⟩ :: l) K L (s.ext []) := by
  simp only [Bool.and_eq_true] at hz
  have hU' := Nat.eq_of_beq_eq_true hU
  subst hU'
  have hpos : 0 < ys.length := by cases ys with | nil => cases hne | cons _ _ => simp
  obtain ⟨ls, h1, h2, h3⟩ := hh.ex
  obtain ⟨a0, l0, k1, k2, k3⟩ := h1.take hi he
  obtain ⟨rfl, hv⟩ : a0 = [(true, lv)] ∧ s.vars lv = some (V.flat us ++ rest) := k1
  have hnd := k3.1 h2
  have hlt : ∀ p ∈ [(true, lv)] ++ l0, p.2 < s.next := fun p hp => h3 p (k3.2 p hp)
  have hlv : lv < s.next := hlt (true, lv) (by simp)
  have hsz := elems_sizes hall
  refine .geng (vs := [.slm (.is c) lv 0 n, .sl 0 ys]) (R := AppR (s.ext []) True lv te.size (n + ys.length) (V.flat (us ++ ys))) (by
    show opdL L [x, y] = _
    simp only [opdL, hx, hy]) (fun E A hr hrep => ?_) (fun v' s' hR => ?_)
  · obtain ⟨t', d0, _, hd, hkd', _⟩ := tyOf_parts (ht.get hT)
    rw [hkd] at hkd'
    have : d0 = .slice e := by cases d0 <;> simp [kdOf] at hkd'; rw [hkd']
    subst this
    obtain ⟨i0, z, hi0, hz0, hs0, hzs0, hrep0⟩ := zero_rep (ht.get hte) ⟨Nat.eq_of_beq_eq_true hz.1, by simpa using hz.2⟩
    obtain ⟨i', _, hi', _, _, _, hb', _⟩ := tyOf_parts (ht.get hte)
    rw [hi0] at hi'
    cases hi'
    have hrep' : RepL E [.slm (.is c) lv 0 n, .sl 0 ys] [A.eval x, A.eval y] := hrep
    cases hrep' with
    | cons r1 r2 => cases r2 with
      | cons r2 r3 =>
        cases r3
        obtain ⟨ad, m, cy, news, hyv, hm, hmc, hnl, hnr, hnews, hnone⟩ := elems_sound (ht.get hte) (by simpa using hz.2) hr r2 (show elemsOf te (.sl 0 ys) (s.ext []) = some ys from rfl) hsz
        subst hm
        obtain ⟨ad, rfl⟩ : ∃ b, ad = some b := by
          cases ad with
          | none => have := hnone rfl; omega
          | some b => exact ⟨b, rfl⟩
        obtain ⟨v', s', h4, h5⟩ := own_append (P := P) (ty := ty) (te := te) (us := us) (rest := rest) hd hi0 hz0 hzs0 hs0 hb' hr r1 (.inr ⟨trivial, by rw [ext_vars_lt s [] hlv]; exact hv, hrl, hnc⟩) hun hus (a := ad) (cy := cy) hpos hnl hnr (hnews ad rfl) (RepL.one hnr (elems_ones hall)) hb.1 hb.2
        refine ⟨v', s', h4, .of h5 ?_⟩
        rw [← hyv]
        have hexec : execOp A.eval ⟨some d, appCall x y #[U, U], ty, p, a, none⟩ = builtin .append #[U, U] ty (#[x, y].map fun | .const _ => true | _ => false) (#[x, y].map A.eval) := by
          simp only [execOp, appCall, resolve]
          rfl
        rw [hexec, show #[x, y].map A.eval = #[A.eval x, A.eval y] by simp]
        rfl
  · obtain ⟨c', n', rest', rfl, hm, hrl, h4⟩ := hR.ex
    rcases h4 with ⟨rfl, rfl⟩ | ⟨_, rfl, rfl⟩
    · have e1 : (s.ext []).next = s.next := by rw [ext_next]; rfl
      have e2 : (s.ext []).newVar (V.flat (us ++ ys) ++ rest') = (s.ext [.var (V.flat (us ++ ys) ++ rest')]).ext [] := by rw [ext_newVar, ext_ext_nil]; rfl
      rw [e1, e2]
      refine hk _ _ _ rest' hm hrl ?_
      refine ⟨[(true, s.next)] ++ l0, .cons ⟨rfl, by rw [ext_vars0]; rfl⟩ (k2.congr (by rw [ext_next]; omega) fun p hp => .lt (hlt p (List.mem_append_right _ hp))), ?_, fun p hp => ?_⟩
      · rw [List.singleton_append, List.nodup_cons]
        exact ⟨fun hm => by have := hlt _ (List.mem_append_right _ hm); simp at this, (List.nodup_append.1 hnd).2.1⟩
      · rw [ext_next]
        simp only [List.mem_append, List.mem_singleton] at hp
        rcases hp with rfl | hp
        · simp
        · have := hlt p (by simp [hp]); simp only [List.length_singleton]; omega
    · rw [ext0_setVar hlv]
      refine hk _ _ _ rest' hm hrl ?_
      have hnot : ∀ p ∈ l0, SameOn s (s.setVar n' (V.flat (us ++ ys) ++ rest')) p := fun p hp => by
        have hne : p ≠ (true, n') := by
          rintro rfl
          rw [List.singleton_append, List.nodup_cons] at hnd
          exact hnd.1 hp
        refine ⟨fun e => ?_, fun _ => rfl⟩
        have : p.2 ≠ n' := fun e2 => hne (by rw [← e, ← e2])
        simp [S.setVar, this]
      exact ⟨[(true, n')] ++ l0, .cons ⟨rfl, by simp [S.setVar]⟩ (HoldL.congr (s := s) (s' := s.setVar n' (V.flat (us ++ ys) ++ rest')) (show s.next ≤ s.next from Nat.le_refl _) k2 hnot), hnd, hlt⟩

/-- A slice's head. -/
theorem AnsL.slcM (ht : tt.ok P) {T e : TypeId} {t te : Ty} {x i : Operand} {c lv n k : Nat} {kk : IntKind} (hx : opd L x = some (.slm (.is c) lv 0 n)) (hT : tt.get T = some t) (hkd : t.kd = .slice e) (hte : tt.get e = some te) (hi : opd L i = some (.int kk (k : Int)))
    (hk : k ≤ n) (hn : 0 < n) : AnsL P (.slice T x none (some i) none) L s (.slm (.is c) lv 0 k) := by
  refine AnsL.geng (vs := [.slm (.is c) lv 0 n, .int kk (k : Int)]) (by
    show opdL L [x, i] = _
    simp only [opdL, hx, hi]) (fun d ty p a g E A hr hrep => ?_)
  have hrep' : RepL E [.slm (.is c) lv 0 n, .int kk (k : Int)] [A.eval x, A.eval i] := hrep
  cases hrep' with
  | cons r1 r2 => cases r2 with
    | cons r2 r3 =>
      cases r3
      refine DoesO.same (m := Instr.sliceAt T (A.eval x) none (some (A.eval i)) none) hr ?_ rfl
      obtain ⟨_, d0, _, hd, hk0, _⟩ := tyOf_parts (ht.get hT)
      obtain ⟨ie, _, hie, _, _, hse, _⟩ := tyOf_parts (ht.get hte)
      rw [hkd] at hk0
      have : d0 = .slice e := by cases d0 <;> simp [kdOf] at hk0; rw [hk0]
      subst this
      generalize A.eval x = xv at r1
      generalize A.eval i = iv at r2
      cases r1 with
      | slm0 => omega
      | @slm _ _ _ _ cap g q1 q2 q3 q4 =>
        have hb := run_sliceBounds2 (P := P) (E := E) (lo := none) (hi := some (.int kk (k : Int))) (lv := none) (hv := some iv) (len := n) (cap := cap) (l := 0) (h := k) trivial r2 rfl (by simp only [bound, Int.toNat_natCast, Int.natCast_nonneg, if_true]) (Nat.zero_le _) hk q2 true
        have hc0 : cap ≠ 0 := by omega
        refine ⟨.slice (some ⟨g, 0, none⟩) k cap, ?_, .slm q1 (by omega) q3 q4⟩
        simp only [Instr.sliceAt, Sem.run_bind, run_underlying hd, Result.andThen_ok, Instr.slice, hb, run_sizeOf' hie, Sem.run_pure, Option.map_some, add_eq, Nat.sub_zero, if_neg hc0, Nat.zero_mul, Nat.add_zero]
theorem AnsL.slcK (ht : tt.ok P) {T e : TypeId} {t te : Ty} {x i : Operand} {c lv n k : Nat} {m : Int} {kk : IntKind} (hx : opd L x = some (.slm (.is c) lv 0 n)) (hT : tt.get T = some t) (hkd : t.kd = .slice e) (hte : tt.get e = some te) (hi : opd L i = some (.int kk m)) (hm : m = (k : Int))
    (hk : k ≤ n) (hn : 0 < n) : AnsL P (.slice T x none (some i) none) L s (.slm (.is c) lv 0 k) := by
  subst hm
  exact AnsL.slcM ht hx hT hkd hte hi hk hn
end

/-- An owned slice of scalars, its variable opened. -/
theorem Hold.uncell {s : S} {b : Nat} {H : List BE} {c l n : Nat} {ds : List V} (h : Hold s b (.own (.slm (.is c) l 0 n) (.sl 0 ds) :: H)) (hs : ds.all V.scal = true) (hne : ds ≠ []) : ∃ rest : List V, rest.length = c - n ∧ n ≤ c ∧ n = ds.length ∧ Hold s b (.cell l (V.flat ds ++ rest) :: H) := by
  obtain ⟨ls, h1, h2, h3⟩ := h.ex
  cases h1 with
  | @cons _ a0 _ b0 k1 k2 =>
    have k1' : Ow s (.slm (.is c) l 0 n) (.sl 0 ds) a0 := k1
    cases k1' with
    | slm0 => exact absurd rfl hne
    | @slc _ _ _ sz us _ rest la q1 q2 q3 q4 q5 q0 q6 =>
      have key : ∀ {us ds : List V} {la : List (Bool × Nat)}, OwL s us ds la → ds.all V.scal = true → us = ds := by
        intro us ds
        induction ds generalizing us with
        | nil => intro la h _; cases h; rfl
        | cons d ds ih =>
          intro la h hd
          simp only [List.all_cons, Bool.and_eq_true] at hd
          cases h with
          | cons h1 h2 =>
            have e2 := ih h2 hd.2
            subst e2
            cases h1 with
            | scal _ => rfl
            | slm0 => simp [V.scal] at hd
            | slc => simp [V.scal] at hd
            | agg => simp [V.scal] at hd
      have e := key q6 hs
      subst e
      have hsz : sz = 1 := by
        obtain ⟨u, us', rfl⟩ : ∃ u us', us = u :: us' := List.exists_cons_of_ne_nil q0
        have h1 := q3 u (by simp)
        have h2 : u.scal = true := by simp only [List.all_cons, Bool.and_eq_true] at hs; exact hs.1
        rw [← h1]; cases u <;> first | rfl | (simp [V.scal] at h2)
      subst hsz
      refine ⟨rest, by rw [q4, Nat.mul_one], q5, q2.symm, ⟨[(true, l)] ++ b0, .cons ⟨rfl, q1⟩ k2, ?_, fun p hp => h3 p ?_⟩⟩
      · have hp : LeL ([(true, l)] ++ b0) ((la ++ [(true, l)]) ++ b0) := ⟨fun h => by rw [List.append_assoc, List.nodup_append] at h; exact h.2.1, fun p hp => by rw [List.append_assoc]; exact List.mem_append_right _ hp⟩
        exact hp.1 h2
      · rw [List.append_assoc]; exact List.mem_append_right _ hp

end Go.Proofs.Ytkkifdgnebbghaa
