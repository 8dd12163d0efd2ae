/-
  Behind a call that marked variables, what it made of its own is forgotten. Own work; no condition.
-/
import Derived.Test.YtejdgmdebfkkeaaVMark
namespace Go.Proofs.Ytejdgmdebfkkeaa
open Go

theorem under_le {n m : Nat} (h : n ≤ m) : ∀ {v : V}, v.under n = true → v.under m = true := by
  intro v
  refine V.rec (motive_1 := fun v => v.under n = true → v.under m = true) (motive_2 := fun vs => V.underL n vs = true → V.underL m vs = true) ?_ ?_ ?_ ?_ ?_ ?_ ?_ ?_ ?_ ?_ ?_ ?_ ?_ ?_ ?_ ?_ ?_ v
  all_goals (intros; simp_all [V.under, V.underL] <;> omega)
theorem underL_le {n m : Nat} (h : n ≤ m) {vs : List V} (hv : V.underL n vs = true) : V.underL m vs = true := by
  rw [V.underL_eq, List.all_eq_true] at hv ⊢
  exact fun v hm => under_le h (hv v hm)

mutual
theorem thw_under : ∀ (d : V) (n : Nat), d.plain = true → (thw n d).1.under (n + cv d) = true ∧ ∀ p ∈ (thw n d).2, V.underL (n + cv d) p.2 = true
  | .agg cs, n, h => thwL_under cs n h
  | .tup cs, n, h => by cases h
  | .sl id xs, n, h => by
    simp only [V.plain, Bool.and_eq_true, beq_iff_eq] at h
    obtain ⟨⟨rfl, h1⟩, h2⟩ := h
    cases he : xs.isEmpty with
    | true =>
      have : xs = [] := by simpa using he
      subst this
      exact ⟨rfl, fun p hp => by cases hp⟩
    | false =>
      obtain ⟨k1, k2⟩ := thwL_under xs n h2
      have e : cv (.sl 0 xs) = cvL xs + 1 := by simp only [cv, he, Bool.false_eq_true, if_false]
      rw [thw_sl n 0 he, e]
      refine ⟨by simp only [V.under, decide_eq_true_eq]; omega, fun p hp => ?_⟩
      unfold thw at hp
      rw [he] at hp
      simp only [Bool.false_eq_true, if_false, List.mem_append, List.mem_singleton] at hp
      rcases hp with hp | rfl
      · exact underL_le (by omega) (k2 p hp)
      · refine underL_le (n := n + cvL xs) (by omega) ?_
        simp only
        rw [V.underL_eq, List.all_eq_true] at k1 ⊢
        intro v hv
        simp only [V.flat, List.mem_flatMap] at hv
        obtain ⟨u, hu, hv⟩ := hv
        have hu2 := k1 u hu
        cases u with
        | agg cs =>
          simp only [V.cells] at hv
          simp only [V.under] at hu2
          rw [V.underL_eq, List.all_eq_true] at hu2
          exact hu2 v hv
        | raw w =>
          simp only [V.cells, List.mem_map] at hv
          obtain ⟨y, _, rfl⟩ := hv
          rfl
        | _ =>
          simp only [V.cells, List.mem_singleton] at hv
          subst hv
          exact hu2
  | .zsl, n, h => by cases h
  | .nilsl, n, h => by cases h
  | .int _ _, n, h => ⟨rfl, fun p hp => by cases hp⟩
  | .bool _, n, h => ⟨rfl, fun p hp => by cases hp⟩
  | .str _, n, h => ⟨rfl, fun p hp => by cases hp⟩
  | .nilp, n, h => ⟨rfl, fun p hp => by cases hp⟩
  | .und, n, h => ⟨rfl, fun p hp => by cases hp⟩
  | .ptr _ _, n, h => by cases h
  | .eptr _ _, n, h => by cases h
  | .slm _ _ _ _, n, h => by cases h
  | .fn _ _, n, h => by cases h
  | .raw _, n, h => by cases h
theorem thwL_under : ∀ (ds : List V) (n : Nat), V.plainL ds = true → V.underL (n + cvL ds) (thwL n ds).1 = true ∧ ∀ p ∈ (thwL n ds).2, V.underL (n + cvL ds) p.2 = true
  | [], n, h => ⟨rfl, fun p hp => by cases hp⟩
  | d :: ds, n, h => by
    simp only [V.plainL, Bool.and_eq_true] at h
    obtain ⟨a1, a2⟩ := thw_under d n h.1
    obtain ⟨b1, b2⟩ := thwL_under ds (n + cv d) h.2
    simp only [thwL, thw_cv, cvL]
    rw [← Nat.add_assoc]
    refine ⟨?_, fun p hp => ?_⟩
    · simp only [V.underL, Bool.and_eq_true]
      exact ⟨under_le (by omega) a1, b1⟩
    · rcases List.mem_append.1 hp with hp | hp
      · exact underL_le (by omega) (a2 p hp)
      · exact b2 p hp
end

theorem VCalls.dropB {P : Program} {f : FuncId} {args : List V} {t : S} {d r : V} {n : Nat} (hr : r.scal = true) (hd : d.plain = true) (hn : n + cv d ≤ t.next)
    (h : VCalls P f args t (fun v t' => v = r ∧ ∃ ys, t' = (t.blk n (thw n d).2).ext ys)) : VCalls P f args t (fun v t' => v = r ∧ t' = t.blk n (thw n d).2) := by
  intro E vals h1 h2
  refine (h E vals h1 h2).mono ?_
  rintro e w' ⟨E1, v, val, s', rfl, rfl, ⟨rfl, ys, rfl⟩, k, rp, st⟩
  have hlen : (thw n d).2.length = cv d := thw_cv d n
  have hnx : (t.blk n (thw n d).2).next = t.next := rfl
  obtain ⟨E', hw, r2, st2, rep2⟩ := dropExt (s := t.blk n (thw n d).2) (xs := []) (ys := ys) h1 (by rw [hnx]; rfl) k st (fun l cs hl => by
    simp only [S.ext, List.getElem?_nil] at hl
    split at hl
    · simp only [S.blk] at hl
      split at hl
      · right
        obtain ⟨p, hp, rfl⟩ := Option.map_eq_some_iff.1 hl
        have := (thw_under d n hd).2 p (List.mem_of_getElem? hp)
        have := underL_le (m := t.next + 0) (by omega) this
        rw [V.underL_eq] at this
        exact this
      · exact .inl hl
    · cases hl)
  have e0 : (t.blk n (thw n d).2).ext [] = t.blk n (thw n d).2 := by
    have h0 := ext_nil h1
    refine S.ext_eq (fun x => ?_) (fun x => ?_) rfl
    · have := congrFun (congrArg S.vars h0) x
      simp only [S.ext, List.getElem?_nil] at this ⊢
      split
      · rfl
      · rename_i hx
        have hx' : ¬ x < t.next := hx
        rw [if_neg hx'] at this
        simp only [S.blk]
        rw [if_neg (by omega)]
        exact this
    · exact congrFun (congrArg S.fams h0) x
  rw [e0] at r2 st2
  exact ⟨E', _, val, _, rfl, hw, ⟨rfl, rfl⟩, r2, rep2 _ _ (by cases v <;> first | rfl | cases hr) rp, st2⟩

theorem ext_blk {t : S} {xs : List Own} {n : Nat} {B : List (Nat × List V)} (hn : n + B.length ≤ t.next) : (t.ext xs).blk n B = (t.blk n B).ext xs := by
  refine S.ext_eq (fun x => ?_) (fun _ => rfl) rfl
  simp only [S.ext, S.blk]
  by_cases h1 : n ≤ x ∧ x < n + B.length
  · rw [if_pos h1]
    split
    · rfl
    · rename_i hx
      exact (hx (show x < t.next by omega)).elim
  · rw [if_neg h1]
    split <;> rfl
theorem HasV.ext0 {t : S} {xs : List Own} {n : Nat} {os : List (Nat × List V)} (h : HasV t n os) (hl : n + os.length ≤ t.next) : HasV (t.ext xs) n os := fun j p hj => by
  have hlt := (List.getElem?_eq_some_iff.1 hj).1
  rw [ext_vars_lt _ _ (by omega)]
  exact h j p hj

section
variable {P : Program} {N : Nat} {ops : Array Oper} {l : List Oper} {K : Kn → S → Prop} {L : Kn} {t : S} {xs : List Own} {d : Nat} {ty : TypeId} {p : String} {a : Array Edge}
/-- A call that marks variables of the caller's. -/
theorem LOps.markX {f : Operand} {g : FuncId} {args : Array Operand} {B : Array TypeId} {dv v : V} {kk : Int} {m : Nat} (hf : opd L f = some (.fn g [])) (ha : opdL L args.toList = some [v, .int .i64 kk]) (hok : CallOk P g)
    (hc : MarkC P g dv) (hv : v = (thw m dv).1) (hh : HasV t m (thw m dv).2) (hl : m + cv dv ≤ t.next) (h0 : 0 ≤ kk) (hb : nk dv kk ≤ 4000000000000)
    (hk : LOps P N ops l K ((d, .int .i64 (nk dv kk)) :: L) ((t.blk m (thw m (mkV dv kk)).2).ext xs)) :
    LOps P N ops (⟨some d, .call ⟨.value f, args, B⟩, ty, p, a, none⟩ :: l) K L (t.ext xs) := by
  subst hv
  refine .call hf ha rfl hok (hc (t.ext xs) m kk (hh.ext0 (by rw [thw_cv]; exact hl)) h0 hb) fun v s' hv => ?_
  obtain ⟨rfl, rfl⟩ := hv
  rw [ext_blk (by rw [thw_cv, mk_cv]; exact hl)]
  exact hk
end

theorem plain_map {α : Type} {f : α → V} (sz : Nat) (h1 : ∀ x, (f x).plain = true) (h2 : ∀ x, (f x).cells.length = sz) (l : List α) : V.plain (.sl 0 (l.map f)) = true := by
  simp only [V.plain, Bool.and_eq_true, beq_self_eq_true, true_and, V.plainL_eq, List.all_eq_true, List.mem_map]
  refine ⟨sameSz_of (sz := sz) fun x hx => ?_, ?_⟩
  · obtain ⟨y, _, rfl⟩ := List.mem_map.1 hx
    exact h2 y
  · rintro x ⟨y, _, rfl⟩
    exact h1 y

end Go.Proofs.Ytejdgmdebfkkeaa
