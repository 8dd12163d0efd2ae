/-
  What answers new memory, seen as plain; marks of what is held by value. Own work; no condition.
-/
import Derived.Test.YtejdgmdebfkkeaaVOwn3
namespace Go.Proofs.Ytejdgmdebfkkeaa
open Go

/-- New variables that hold a value's slices are taken for slices that nobody writes. -/
theorem VTurn.thaw (s : S) {d : V} (hd : d.plain = true) : VTurn (thw s.next d).1 (s.ext (thawed s.next d)) d (s.ext ((thawed s.next d).map fun _ => Own.gone)) := by
  intro E val hr hv
  let x := s.ext (thawed s.next d)
  let y := s.ext ((thawed s.next d).map fun _ => Own.gone)
  let t : S := { vars := fun l => if l < s.next then none else x.vars l, fams := fun _ => none, next := x.next }
  have hyv : ∀ l cs, y.vars l = some cs → l < s.next ∧ x.vars l = some cs := by
    intro l cs h
    change (if l < s.next then s.vars l else Own.cells? ((thawed s.next d).map fun _ => Own.gone)[l - s.next]?) = some cs at h
    split at h
    · rename_i hl
      exact ⟨hl, by show (if l < s.next then s.vars l else _) = _; rw [if_pos hl]; exact h⟩
    · rw [List.getElem?_map] at h
      cases hq : (thawed s.next d)[l - s.next]? with
      | none => rw [hq] at h; cases h
      | some o => rw [hq] at h; cases h
  have hyf : ∀ l p, y.fams l = some p → x.fams l = some p := by
    intro l p h
    change (if l < s.next then s.fams l else Own.fam? ((thawed s.next d).map fun _ => Own.gone)[l - s.next]?) = some p at h
    split at h
    · rename_i hl
      show (if l < s.next then s.fams l else _) = _
      rw [if_pos hl]; exact h
    · rw [List.getElem?_map] at h
      cases hq : (thawed s.next d)[l - s.next]? with
      | none => rw [hq] at h; cases h
      | some o => rw [hq] at h; cases h
  have htv : ∀ l cs, t.vars l = some cs → s.next ≤ l ∧ x.vars l = some cs := by
    intro l cs h
    change (if l < s.next then none else x.vars l) = some cs at h
    split at h
    · cases h
    · exact ⟨by omega, h⟩
  have hyn : y.next = x.next := by show s.next + _ = s.next + _; rw [List.length_map]
  have ht : RelS E t := hr.weaken (fun l cs h => (htv l cs h).2) (fun l p h => by cases h) (Nat.le_refl _)
  have hy : RelS E y := hr.weaken (fun l cs h => (hyv l cs h).2) hyf (Nat.le_of_eq hyn.symm)
  have hrd : Rd t (thw s.next d).1 d := Rd_thw d s.next hd fun j p hj => by
    show (if s.next + j < s.next then none else x.vars (s.next + j)) = _
    rw [if_neg (by omega)]
    exact HasV.extC (s := s) [] (d := d) (m := s.next) (by simp) j p hj
  refine ⟨lentEnv E t, rfl, ⟨⟨fun _ _ i => .inl i, fun _ _ _ => rfl, fun _ _ h => h, fun id F h => ⟨F, h, Nat.le_refl _, fun _ => rfl⟩⟩, rfl, rfl, rfl, Nat.le_refl _, fun _ _ _ => rfl, fun k hk tr => ?_, Nat.le_of_eq hyn.symm⟩, ?_, Rd.rep ht hrd hv⟩
  · rcases tr with ⟨l, hl, hg⟩ | ⟨id, F, hl, hF, hb⟩
    · obtain ⟨cs, hcs⟩ := Option.isSome_iff_exists.1 hl
      exact .inl ⟨l, by rw [(hyv l cs hcs).2]; rfl, hg⟩
    · obtain ⟨p, hp⟩ := Option.isSome_iff_exists.1 hl
      exact .inr ⟨id, F, by rw [hyf id p hp]; rfl, hF, hb⟩
  · refine ⟨fun l cs hl => ?_, hy.varinj, fun id n sz hid => ?_, hy.faminj, hy.famvar, hy.fresh, hy.pos, fun g o i => ?_⟩
    · obtain ⟨g, arr, e, fr, h1, h2⟩ := hy.var l cs hl
      obtain ⟨hlt, hx⟩ := hyv l cs hl
      refine ⟨g, arr, e, fr, h1, h2.heap, h2.rep.evolve (E' := lentEnv E t) ⟨fun _ _ i => Or.inl i, fun _ _ _ => rfl, fun _ _ h => h, fun id F h => ⟨F, h, Nat.le_refl _, fun _ => rfl⟩⟩, h2.le, h2.free, fun o i => ?_⟩
      rcases i with i | ⟨l', cs', hl', hg', _⟩
      · exact h2.imm o i
      · obtain ⟨hge, hx'⟩ := htv l' cs' hl'
        have := hr.varinj l l' g (by show (x.vars l).isSome = true; rw [hx]; rfl) (by show (x.vars l').isSome = true; rw [hx']; rfl) h1 hg'
        omega
    · obtain ⟨h00, F, h1, h2, h3, h4, h5, h6⟩ := hy.fam id n sz hid
      refine ⟨h00, F, h1, h2, h3, h4, h5, fun g hg => ?_⟩
      obtain ⟨arr, e, fr, h7, h8, h8', h9⟩ := h6 g hg
      refine ⟨arr, e, fr, h7, h8, h8', fun o ho i => ?_⟩
      rcases i with i | ⟨l', cs', hl', hg', _⟩
      · exact h9 o ho i
      · obtain ⟨hge, hx'⟩ := htv l' cs' hl'
        exact hr.famvar l' g id F (by show (x.vars l').isSome = true; rw [hx']; rfl) hg' (by show (x.fams id).isSome = true; rw [hyf id _ hid]; rfl) h1 hg
    · rcases i with i | ⟨l', cs', hl', hg', ho⟩
      · exact hy.imm g o i
      · obtain ⟨hge, hx'⟩ := htv l' cs' hl'
        obtain ⟨g', arr, e, fr, k1, k2⟩ := hr.var l' cs' hx'
        rw [hg'] at k1
        cases k1
        have := k2.le
        exact ⟨arr[o]'(by omega), by show E.w.cell? _ = _; rw [cell_of_row E.w _ _ arr e fr k2.heap]; simp⟩

mutual
theorem plain_dat : ∀ (d : V), d.plain = true → d.dat = true
  | .agg cs, h => plainL_dat cs h
  | .sl id xs, h => by
    simp only [V.plain, Bool.and_eq_true, beq_iff_eq] at h
    obtain ⟨⟨rfl, _⟩, h2⟩ := h
    simp only [V.dat, plainL_dat xs h2, beq_self_eq_true, Bool.and_self]
  | .int _ _, _ | .bool _, _ | .str _, _ | .nilp, _ | .und, _ => rfl
  | .tup _, h | .ptr _ _, h | .eptr _ _, h | .zsl, h | .nilsl, h | .slm _ _ _ _, h | .fn _ _, h | .raw _, h => by cases h
theorem plainL_dat : ∀ (ds : List V), V.plainL ds = true → V.datL ds = true
  | [], _ => rfl
  | d :: ds, h => by
    simp only [V.plainL, Bool.and_eq_true] at h
    simp only [V.datL, plain_dat d h.1, plainL_dat ds h.2, Bool.and_self]
end
theorem plain_forget : ∀ (v : V), v.plain = true → v.forget = v := by
  intro v
  refine V.rec (motive_1 := fun v => v.plain = true → v.forget = v) (motive_2 := fun vs => V.plainL vs = true → V.forgetL vs = vs) ?_ ?_ ?_ ?_ ?_ ?_ ?_ ?_ ?_ ?_ ?_ ?_ ?_ ?_ ?_ ?_ ?_ v
  all_goals (intros; simp_all [V.plain, V.plainL, V.forget, V.forgetL])

theorem VCalls.pureOf {P : Program} {f : FuncId} {ds : List V} {d : V} (hds : V.plainL ds = true) (hd : d.plain = true) (h : ∀ t, VCalls P f ds t (fun v t' => Own2 d v t')) (s : S) : VCalls P f ds s (fun v s' => v = d ∧ s' = s) := by
  refine VCalls.pure (plain_dat d hd) (VCalls.turn (VCalls.lend2 (RdL.plain ds hds) h) ?_)
  rintro v s' _ ⟨rfl, rfl⟩
  exact ⟨d, _, VTurn.thaw s hd, plain_forget d hd, fun l hl => ext_vars_lt s _ hl, fun l hl => ext_fams_lt s _ hl⟩

/-! ### Results in slices that were appended to -/
section
variable {s : S} {xs : List Own}
theorem Own2.fam {α : Type} {f : α → V} {cs : List α} {k szf : Nat} (sz : Nat) (hk : nthO xs k = some (.fam cs.length szf)) (h1 : ∀ x, (f x).cells.length = sz) (h2 : ∀ x, (f x).cells.all V.scal = true) :
    Own2 (.sl 0 (cs.map f)) (.sl (s.next + k) (cs.map f)) (s.ext xs) := by
  cases cs with
  | nil => exact ⟨[], .emp, List.nodup_nil⟩
  | cons c cs =>
    refine ⟨[] ++ [(false, s.next + k)], .sl (sz := szf) (sz' := sz) rfl rfl (cells_map h1 (c :: cs)) ?_ (TrL.scal ?_), by simp⟩
    · rw [ext_fams, nthO_eq hk, List.length_map]; rfl
    · rw [List.all_eq_true]
      intro v hv
      simp only [V.flat, List.mem_flatMap, List.mem_map] at hv
      obtain ⟨_, ⟨x, _, rfl⟩, hv⟩ := hv
      exact List.all_eq_true.1 (h2 x) v hv
end

theorem thw_one_of {v : V} (h : v.one = true) (n : Nat) : (thw n v).1.one = true := by
  cases v with
  | sl id xs => exact thw_one n id xs
  | agg cs => cases h
  | tup cs => cases h
  | und => cases h
  | raw w => cases h
  | _ => rfl
theorem thwL_ones : ∀ {vs : List V} (n : Nat), vs.all V.one = true → (thwL n vs).1.all V.one = true
  | [], _, _ => rfl
  | v :: vs, n, h => by
    rw [List.all_cons, Bool.and_eq_true] at h
    unfold thwL
    rw [List.all_cons, thw_one_of h.1, thwL_ones _ h.2]
    rfl
theorem thw_cells_ones {v : V} (n : Nat) (h : v.cells.all V.one = true) : (thw n v).1.cells.all V.one = true := by
  rw [(thw_cells' v n).1]
  exact thwL_ones n h
theorem thw_cells_len (v : V) (n : Nat) : (thw n v).1.cells.length = v.cells.length := by
  rw [(thw_cells' v n).1, thwL_len]

/-! ### Marks of what is held by value: its scalars stay -/
mutual
def mkT : V → Int → V
  | .agg cs, k => .agg (mkTL cs k)
  | .sl id xs, k => .sl id (mkL xs k)
  | .int i m, _ => .int i m
  | .bool b, _ => .bool b
  | .str b, _ => .str b
  | .tup vs, _ => .tup vs
  | .ptr l o, _ => .ptr l o
  | .eptr cs o, _ => .eptr cs o
  | .nilp, _ => .nilp
  | .zsl, _ => .zsl
  | .nilsl, _ => .nilsl
  | .slm x l o n, _ => .slm x l o n
  | .fn f cs, _ => .fn f cs
  | .und, _ => .und
  | .raw v, _ => .raw v
def mkTL : List V → Int → List V
  | [], _ => []
  | v :: vs, k => mkT v k :: mkTL vs (nkT v k)
def nkT : V → Int → Int
  | .agg cs, k => nkTL cs k
  | .sl _ xs, k => nkL xs k
  | .int _ _, k | .bool _, k | .str _, k | .tup _, k | .ptr _ _, k | .eptr _ _, k | .nilp, k | .zsl, k | .nilsl, k | .slm _ _ _ _, k | .fn _ _, k | .und, k | .raw _, k => k
def nkTL : List V → Int → Int
  | [], k => k
  | v :: vs, k => nkTL vs (nkT v k)
end
mutual
theorem nkT_le : ∀ (v : V) (k : Int), k ≤ nkT v k
  | .agg cs, k => by simp only [nkT]; exact nkTL_le cs k
  | .sl _ xs, k => by simp only [nkT]; exact nkL_le xs k
  | .int _ _, k | .bool _, k | .str _, k | .tup _, k | .ptr _ _, k | .eptr _ _, k | .nilp, k | .zsl, k | .nilsl, k | .slm _ _ _ _, k | .fn _ _, k | .und, k | .raw _, k => by simp only [nkT]; omega
theorem nkTL_le : ∀ (vs : List V) (k : Int), k ≤ nkTL vs k
  | [], k => by simp only [nkTL]; omega
  | v :: vs, k => by
    have h1 := nkT_le v k
    have h2 := nkTL_le vs (nkT v k)
    simp only [nkTL]; omega
end
mutual
theorem mkT_cv : ∀ (v : V) (k : Int), cv (mkT v k) = cv v
  | .agg cs, k => by simp only [mkT, cv, mkTL_cv cs k]
  | .sl id xs, k => mk_cv (.sl id xs) k
  | .int _ _, k | .bool _, k | .str _, k | .tup _, k | .ptr _ _, k | .eptr _ _, k | .nilp, k | .zsl, k | .nilsl, k | .slm _ _ _ _, k | .fn _ _, k | .und, k | .raw _, k => by simp only [mkT]
theorem mkTL_cv : ∀ (vs : List V) (k : Int), cvL (mkTL vs k) = cvL vs
  | [], k => rfl
  | v :: vs, k => by simp only [mkTL, cvL, mkT_cv v k, mkTL_cv vs]
end
mutual
theorem mkT_plain : ∀ (v : V) (k : Int), v.plain = true → (mkT v k).plain = true
  | .agg cs, k, h => mkTL_plain cs k h
  | .sl id xs, k, h => mk_plain (.sl id xs) k h
  | .int _ _, k, h | .bool _, k, h | .str _, k, h | .nilp, k, h | .und, k, h => by simp only [mkT]; exact h
  | .tup _, k, h | .ptr _ _, k, h | .eptr _ _, k, h | .zsl, k, h | .nilsl, k, h | .slm _ _ _ _, k, h | .fn _ _, k, h | .raw _, k, h => by cases h
theorem mkTL_plain : ∀ (vs : List V) (k : Int), V.plainL vs = true → V.plainL (mkTL vs k) = true
  | [], _, _ => rfl
  | v :: vs, k, h => by
    simp only [V.plainL, Bool.and_eq_true] at h
    simp only [mkTL, V.plainL, mkT_plain v k h.1, mkTL_plain vs _ h.2, Bool.and_self]
end
mutual
/-- It stays where it is. -/
theorem thw_mkT : ∀ (v : V) (n : Nat) (k : Int), (thw n (mkT v k)).1 = (thw n v).1
  | .agg cs, n, k => by simp only [mkT, thw, thwL_mkT cs n k]
  | .sl id xs, n, k => thw_mk_sl n id xs k
  | .int _ _, n, k | .bool _, n, k | .str _, n, k | .tup _, n, k | .ptr _ _, n, k | .eptr _ _, n, k | .nilp, n, k | .zsl, n, k | .nilsl, n, k | .slm _ _ _ _, n, k | .fn _ _, n, k | .und, n, k | .raw _, n, k => by simp only [mkT]
theorem thwL_mkT : ∀ (vs : List V) (n : Nat) (k : Int), (thwL n (mkTL vs k)).1 = (thwL n vs).1
  | [], n, k => rfl
  | v :: vs, n, k => by simp only [mkTL, thwL, thw_mkT v n k, thw_cv, mkT_cv, thwL_mkT vs _ _]
end
mutual
/-- How many scalars are marked. -/
def sc : V → Nat
  | .int _ _ | .bool _ | .str _ => 1
  | .agg cs => scL cs
  | .sl _ xs => scL xs
  | .tup _ | .ptr _ _ | .eptr _ _ | .nilp | .zsl | .nilsl | .slm _ _ _ _ | .fn _ _ | .und | .raw _ => 0
def scL : List V → Nat
  | [] => 0
  | v :: vs => sc v + scL vs
end
mutual
theorem nk_sc : ∀ (v : V) (k : Int), nk v k = k + (sc v : Nat)
  | .int _ _, k | .bool _, k | .str _, k => by simp only [nk, sc]; omega
  | .agg cs, k => by simp only [nk, sc]; exact nkL_sc cs k
  | .sl _ xs, k => by simp only [nk, sc]; exact nkL_sc xs k
  | .tup _, k | .ptr _ _, k | .eptr _ _, k | .nilp, k | .zsl, k | .nilsl, k | .slm _ _ _ _, k | .fn _ _, k | .und, k | .raw _, k => by simp only [nk, sc]; omega
theorem nkL_sc : ∀ (vs : List V) (k : Int), nkL vs k = k + (scL vs : Nat)
  | [], k => by simp only [nkL, scL]; omega
  | v :: vs, k => by
    have h1 := nk_sc v k
    have h2 := nkL_sc vs (nk v k)
    simp only [nkL, scL]; omega
end
mutual
theorem nkT_sc : ∀ (v : V) (k : Int), nkT v k ≤ k + (sc v : Nat)
  | .agg cs, k => by simp only [nkT, sc]; exact nkTL_sc cs k
  | .sl _ xs, k => by simp only [nkT, sc, nkL_sc]; omega
  | .int _ _, k | .bool _, k | .str _, k | .tup _, k | .ptr _ _, k | .eptr _ _, k | .nilp, k | .zsl, k | .nilsl, k | .slm _ _ _ _, k | .fn _ _, k | .und, k | .raw _, k => by simp only [nkT]; omega
theorem nkTL_sc : ∀ (vs : List V) (k : Int), nkTL vs k ≤ k + (scL vs : Nat)
  | [], k => by simp only [nkTL]; omega
  | v :: vs, k => by
    have h1 := nkT_sc v k
    have h2 := nkTL_sc vs (nkT v k)
    simp only [nkTL, scL]; omega
end
theorem scL_append : ∀ (a b : List V), scL (a ++ b) = scL a + scL b
  | [], b => by simp [scL]
  | x :: a, b => by simp only [List.cons_append, scL, scL_append a b]; omega
theorem scL_map {α : Type} {f : α → V} (c : Nat) (h : ∀ x, sc (f x) ≤ c) : ∀ (l : List α), scL (l.map f) ≤ c * l.length
  | [] => by simp [scL]
  | x :: l => by
    have h1 := h x
    have h2 := scL_map c h l
    simp only [List.map_cons, scL, List.length_cons, Nat.mul_add]; omega

end Go.Proofs.Ytejdgmdebfkkeaa
