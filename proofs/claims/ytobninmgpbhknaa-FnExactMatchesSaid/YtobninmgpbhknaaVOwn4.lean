/-
  What answers new memory, seen as plain; the books of a law: which variables hold which data; calls that lend, mark and look. Own work; no condition.
-/
import Derived.Test.YtobninmgpbhknaaVOwn3
namespace Go.Proofs.Ytobninmgpbhknaa
open Go

/-- New variables that hold a value's slices are taken for slices that nobody writes. -/
theorem VTurn.thaw (s : S) {d : V} (hd : d.plain = true) : VTurn (thw s.next d).1 (s.ext (thawed s.next d)) d (s.ext ((thawed s.next d).map fun _ => Own.gone)) := by
  intro E val hr hv
  let x := s.ext (thawed s.next d)
  let y := s.ext ((thawed s.next d).map fun _ => Own.gone)
  let t : S := { vars := fun l => if l < s.next then none else x.vars l, fams := fun _ => none, next := x.next }
  have hyv : ∀ l cs, y.vars l = some cs → l < s.next ∧ x.vars l = some cs := by
    intro l cs h
    change (if l < s.next then s.vars l else Own.cells? ((thawed s.next d).map fun _ => Own.gone)[l - s.next]?) = some cs at h
    split at h
    · rename_i hl
      exact ⟨hl, by show (if l < s.next then s.vars l else _) = _; rw [if_pos hl]; exact h⟩
    · rw [List.getElem?_map] at h
      cases hq : (thawed s.next d)[l - s.next]? with
      | none => rw [hq] at h; cases h
      | some o => rw [hq] at h; cases h
  have hyf : ∀ l p, y.fams l = some p → x.fams l = some p := by
    intro l p h
    change (if l < s.next then s.fams l else Own.fam? ((thawed s.next d).map fun _ => Own.gone)[l - s.next]?) = some p at h
    split at h
    · rename_i hl
      show (if l < s.next then s.fams l else _) = _
      rw [if_pos hl]; exact h
    · rw [List.getElem?_map] at h
      cases hq : (thawed s.next d)[l - s.next]? with
      | none => rw [hq] at h; cases h
      | some o => rw [hq] at h; cases h
  have htv : ∀ l cs, t.vars l = some cs → s.next ≤ l ∧ x.vars l = some cs := by
    intro l cs h
    change (if l < s.next then none else x.vars l) = some cs at h
    split at h
    · cases h
    · exact ⟨by omega, h⟩
  have hyn : y.next = x.next := by show s.next + _ = s.next + _; rw [List.length_map]
  have ht : RelS E t := hr.weaken (fun l cs h => (htv l cs h).2) (fun l p h => by cases h) (Nat.le_refl _)
  have hy : RelS E y := hr.weaken (fun l cs h => (hyv l cs h).2) hyf (Nat.le_of_eq hyn.symm)
  have hrd : Rd t (thw s.next d).1 d := Rd_thw d s.next hd fun j p hj => by
    show (if s.next + j < s.next then none else x.vars (s.next + j)) = _
    rw [if_neg (by omega)]
    exact HasV.extC (s := s) [] (d := d) (m := s.next) (by simp) j p hj
  refine ⟨lentEnv E t, rfl, ⟨⟨fun _ _ i => .inl i, fun _ _ _ => rfl, fun _ _ h => h, fun id F h => ⟨F, h, Nat.le_refl _, fun _ => rfl⟩⟩, rfl, rfl, rfl, Nat.le_refl _, fun _ _ _ => rfl, fun k hk tr => ?_, Nat.le_of_eq hyn.symm⟩, ?_, Rd.rep ht hrd hv⟩
  · rcases tr with ⟨l, hl, hg⟩ | ⟨id, F, hl, hF, hb⟩
    · obtain ⟨cs, hcs⟩ := Option.isSome_iff_exists.1 hl
      exact .inl ⟨l, by rw [(hyv l cs hcs).2]; rfl, hg⟩
    · obtain ⟨p, hp⟩ := Option.isSome_iff_exists.1 hl
      exact .inr ⟨id, F, by rw [hyf id p hp]; rfl, hF, hb⟩
  · refine ⟨fun l cs hl => ?_, hy.varinj, fun id n sz hid => ?_, hy.faminj, hy.famvar, hy.fresh, hy.pos, fun g o i => ?_⟩
    · obtain ⟨g, arr, e, fr, h1, h2⟩ := hy.var l cs hl
      obtain ⟨hlt, hx⟩ := hyv l cs hl
      refine ⟨g, arr, e, fr, h1, h2.heap, h2.rep.evolve (E' := lentEnv E t) ⟨fun _ _ i => Or.inl i, fun _ _ _ => rfl, fun _ _ h => h, fun id F h => ⟨F, h, Nat.le_refl _, fun _ => rfl⟩⟩, h2.le, h2.free, fun o i => ?_⟩
      rcases i with i | ⟨l', cs', hl', hg', _⟩
      · exact h2.imm o i
      · obtain ⟨hge, hx'⟩ := htv l' cs' hl'
        have := hr.varinj l l' g (by show (x.vars l).isSome = true; rw [hx]; rfl) (by show (x.vars l').isSome = true; rw [hx']; rfl) h1 hg'
        omega
    · obtain ⟨h00, F, h1, h2, h3, h4, h5, h6⟩ := hy.fam id n sz hid
      refine ⟨h00, F, h1, h2, h3, h4, h5, fun g hg => ?_⟩
      obtain ⟨arr, e, fr, h7, h8, h8', h9⟩ := h6 g hg
      refine ⟨arr, e, fr, h7, h8, h8', fun o ho i => ?_⟩
      rcases i with i | ⟨l', cs', hl', hg', _⟩
      · exact h9 o ho i
      · obtain ⟨hge, hx'⟩ := htv l' cs' hl'
        exact hr.famvar l' g id F (by show (x.vars l').isSome = true; rw [hx']; rfl) hg' (by show (x.fams id).isSome = true; rw [hyf id _ hid]; rfl) h1 hg
    · rcases i with i | ⟨l', cs', hl', hg', ho⟩
      · exact hy.imm g o i
      · obtain ⟨hge, hx'⟩ := htv l' cs' hl'
        obtain ⟨g', arr, e, fr, k1, k2⟩ := hr.var l' cs' hx'
        rw [hg'] at k1
        cases k1
        have := k2.le
        exact ⟨arr[o]'(by omega), by show E.w.cell? _ = _; rw [cell_of_row E.w _ _ arr e fr k2.heap]; simp⟩

mutual
theorem plain_dat : ∀ (d : V), d.plain = true → d.dat = true
  | .agg cs, h => plainL_dat cs h
  | .sl id xs, h => by
    simp only [V.plain, Bool.and_eq_true, beq_iff_eq] at h
    obtain ⟨⟨rfl, _⟩, h2⟩ := h
    simp only [V.dat, plainL_dat xs h2, beq_self_eq_true, Bool.and_self]
  | .int _ _, _ | .bool _, _ | .str _, _ | .nilp, _ | .und, _ => rfl
  | .tup _, h | .ptr _ _, h | .eptr _ _, h | .zsl, h | .nilsl, h | .slm _ _ _ _, h | .fn _ _, h | .raw _, h => by cases h
theorem plainL_dat : ∀ (ds : List V), V.plainL ds = true → V.datL ds = true
  | [], _ => rfl
  | d :: ds, h => by
    simp only [V.plainL, Bool.and_eq_true] at h
    simp only [V.datL, plain_dat d h.1, plainL_dat ds h.2, Bool.and_self]
end
theorem plain_forget : ∀ (v : V), v.plain = true → v.forget = v := by
  intro v
  refine V.rec (motive_1 := fun v => v.plain = true → v.forget = v) (motive_2 := fun vs => V.plainL vs = true → V.forgetL vs = vs) ?_ ?_ ?_ ?_ ?_ ?_ ?_ ?_ ?_ ?_ ?_ ?_ ?_ ?_ ?_ ?_ ?_ v
  all_goals (intros; simp_all [V.plain, V.plainL, V.forget, V.forgetL])

theorem VCalls.pureOf {P : Program} {f : FuncId} {ds : List V} {d : V} (hds : V.plainL ds = true) (hd : d.plain = true) (h : ∀ t, VCalls P f ds t (fun v t' => Own2 d v t')) (s : S) : VCalls P f ds s (fun v s' => v = d ∧ s' = s) := by
  refine VCalls.pure (plain_dat d hd) (VCalls.turn (VCalls.lend2 (RdL.plain ds hds) h) ?_)
  rintro v s' _ ⟨rfl, rfl⟩
  exact ⟨d, _, VTurn.thaw s hd, plain_forget d hd, fun l hl => ext_vars_lt s _ hl, fun l hl => ext_fams_lt s _ hl⟩

/-! ### Results in slices that were appended to -/
section
variable {s : S} {xs : List Own}
theorem Own2.fam {α : Type} {f : α → V} {cs : List α} {k szf : Nat} (sz : Nat) (hk : nthO xs k = some (.fam cs.length szf)) (h1 : ∀ x, (f x).cells.length = sz) (h2 : ∀ x, (f x).cells.all V.scal = true) :
    Own2 (.sl 0 (cs.map f)) (.sl (s.next + k) (cs.map f)) (s.ext xs) := by
  cases cs with
  | nil => exact ⟨[], .emp, List.nodup_nil⟩
  | cons c cs =>
    refine ⟨[] ++ [(false, s.next + k)], .sl (sz := szf) (sz' := sz) rfl rfl (cells_map h1 (c :: cs)) ?_ (TrL.scal ?_), by simp⟩
    · rw [ext_fams, nthO_eq hk, List.length_map]; rfl
    · rw [List.all_eq_true]
      intro v hv
      simp only [V.flat, List.mem_flatMap, List.mem_map] at hv
      obtain ⟨_, ⟨x, _, rfl⟩, hv⟩ := hv
      exact List.all_eq_true.1 (h2 x) v hv
end

theorem thw_one_of {v : V} (h : v.one = true) (n : Nat) : (thw n v).1.one = true := by
  cases v with
  | sl id xs => exact thw_one n id xs
  | agg cs => cases h
  | tup cs => cases h
  | und => cases h
  | raw w => cases h
  | _ => rfl
theorem thwL_ones : ∀ {vs : List V} (n : Nat), vs.all V.one = true → (thwL n vs).1.all V.one = true
  | [], _, _ => rfl
  | v :: vs, n, h => by
    rw [List.all_cons, Bool.and_eq_true] at h
    unfold thwL
    rw [List.all_cons, thw_one_of h.1, thwL_ones _ h.2]
    rfl
theorem thw_cells_ones {v : V} (n : Nat) (h : v.cells.all V.one = true) : (thw n v).1.cells.all V.one = true := by
  rw [(thw_cells' v n).1]
  exact thwL_ones n h
theorem thw_cells_len (v : V) (n : Nat) : (thw n v).1.cells.length = v.cells.length := by
  rw [(thw_cells' v n).1, thwL_len]

/-! ### Marks of what is held by value: its scalars stay -/
mutual
def mkT : V → Int → V
  | .agg cs, k => .agg (mkTL cs k)
  | .sl id xs, k => .sl id (mkL xs k)
  | .int i m, _ => .int i m
  | .bool b, _ => .bool b
  | .str b, _ => .str b
  | .tup vs, _ => .tup vs
  | .ptr l o, _ => .ptr l o
  | .eptr cs o, _ => .eptr cs o
  | .nilp, _ => .nilp
  | .zsl, _ => .zsl
  | .nilsl, _ => .nilsl
  | .slm x l o n, _ => .slm x l o n
  | .fn f cs, _ => .fn f cs
  | .und, _ => .und
  | .raw v, _ => .raw v
def mkTL : List V → Int → List V
  | [], _ => []
  | v :: vs, k => mkT v k :: mkTL vs (nkT v k)
def nkT : V → Int → Int
  | .agg cs, k => nkTL cs k
  | .sl _ xs, k => nkL xs k
  | .int _ _, k | .bool _, k | .str _, k | .tup _, k | .ptr _ _, k | .eptr _ _, k | .nilp, k | .zsl, k | .nilsl, k | .slm _ _ _ _, k | .fn _ _, k | .und, k | .raw _, k => k
def nkTL : List V → Int → Int
  | [], k => k
  | v :: vs, k => nkTL vs (nkT v k)
end
mutual
theorem nkT_le : ∀ (v : V) (k : Int), k ≤ nkT v k
  | .agg cs, k => by simp only [nkT]; exact nkTL_le cs k
  | .sl _ xs, k => by simp only [nkT]; exact nkL_le xs k
  | .int _ _, k | .bool _, k | .str _, k | .tup _, k | .ptr _ _, k | .eptr _ _, k | .nilp, k | .zsl, k | .nilsl, k | .slm _ _ _ _, k | .fn _ _, k | .und, k | .raw _, k => by simp only [nkT]; omega
theorem nkTL_le : ∀ (vs : List V) (k : Int), k ≤ nkTL vs k
  | [], k => by simp only [nkTL]; omega
  | v :: vs, k => by
    have h1 := nkT_le v k
    have h2 := nkTL_le vs (nkT v k)
    simp only [nkTL]; omega
end
mutual
theorem mkT_cv : ∀ (v : V) (k : Int), cv (mkT v k) = cv v
  | .agg cs, k => by simp only [mkT, cv, mkTL_cv cs k]
  | .sl id xs, k => mk_cv (.sl id xs) k
  | .int _ _, k | .bool _, k | .str _, k | .tup _, k | .ptr _ _, k | .eptr _ _, k | .nilp, k | .zsl, k | .nilsl, k | .slm _ _ _ _, k | .fn _ _, k | .und, k | .raw _, k => by simp only [mkT]
theorem mkTL_cv : ∀ (vs : List V) (k : Int), cvL (mkTL vs k) = cvL vs
  | [], k => rfl
  | v :: vs, k => by simp only [mkTL, cvL, mkT_cv v k, mkTL_cv vs]
end
mutual
theorem mkT_plain : ∀ (v : V) (k : Int), v.plain = true → (mkT v k).plain = true
  | .agg cs, k, h => mkTL_plain cs k h
  | .sl id xs, k, h => mk_plain (.sl id xs) k h
  | .int _ _, k, h | .bool _, k, h | .str _, k, h | .nilp, k, h | .und, k, h => by simp only [mkT]; exact h
  | .tup _, k, h | .ptr _ _, k, h | .eptr _ _, k, h | .zsl, k, h | .nilsl, k, h | .slm _ _ _ _, k, h | .fn _ _, k, h | .raw _, k, h => by cases h
theorem mkTL_plain : ∀ (vs : List V) (k : Int), V.plainL vs = true → V.plainL (mkTL vs k) = true
  | [], _, _ => rfl
  | v :: vs, k, h => by
    simp only [V.plainL, Bool.and_eq_true] at h
    simp only [mkTL, V.plainL, mkT_plain v k h.1, mkTL_plain vs _ h.2, Bool.and_self]
end
mutual
/-- It stays where it is. -/
theorem thw_mkT : ∀ (v : V) (n : Nat) (k : Int), (thw n (mkT v k)).1 = (thw n v).1
  | .agg cs, n, k => by simp only [mkT, thw, thwL_mkT cs n k]
  | .sl id xs, n, k => thw_mk_sl n id xs k
  | .int _ _, n, k | .bool _, n, k | .str _, n, k | .tup _, n, k | .ptr _ _, n, k | .eptr _ _, n, k | .nilp, n, k | .zsl, n, k | .nilsl, n, k | .slm _ _ _ _, n, k | .fn _ _, n, k | .und, n, k | .raw _, n, k => by simp only [mkT]
theorem thwL_mkT : ∀ (vs : List V) (n : Nat) (k : Int), (thwL n (mkTL vs k)).1 = (thwL n vs).1
  | [], n, k => rfl
  | v :: vs, n, k => by simp only [mkTL, thwL, thw_mkT v n k, thw_cv, mkT_cv, thwL_mkT vs _ _]
end
mutual
/-- How many scalars are marked. -/
def sc : V → Nat
  | .int _ _ | .bool _ | .str _ => 1
  | .agg cs => scL cs
  | .sl _ xs => scL xs
  | .tup _ | .ptr _ _ | .eptr _ _ | .nilp | .zsl | .nilsl | .slm _ _ _ _ | .fn _ _ | .und | .raw _ => 0
def scL : List V → Nat
  | [] => 0
  | v :: vs => sc v + scL vs
end
mutual
theorem nk_sc : ∀ (v : V) (k : Int), nk v k = k + (sc v : Nat)
  | .int _ _, k | .bool _, k | .str _, k => by simp only [nk, sc]; omega
  | .agg cs, k => by simp only [nk, sc]; exact nkL_sc cs k
  | .sl _ xs, k => by simp only [nk, sc]; exact nkL_sc xs k
  | .tup _, k | .ptr _ _, k | .eptr _ _, k | .nilp, k | .zsl, k | .nilsl, k | .slm _ _ _ _, k | .fn _ _, k | .und, k | .raw _, k => by simp only [nk, sc]; omega
theorem nkL_sc : ∀ (vs : List V) (k : Int), nkL vs k = k + (scL vs : Nat)
  | [], k => by simp only [nkL, scL]; omega
  | v :: vs, k => by
    have h1 := nk_sc v k
    have h2 := nkL_sc vs (nk v k)
    simp only [nkL, scL]; omega
end
mutual
theorem nkT_sc : ∀ (v : V) (k : Int), nkT v k ≤ k + (sc v : Nat)
  | .agg cs, k => by simp only [nkT, sc]; exact nkTL_sc cs k
  | .sl _ xs, k => by simp only [nkT, sc, nkL_sc]; omega
  | .int _ _, k | .bool _, k | .str _, k | .tup _, k | .ptr _ _, k | .eptr _ _, k | .nilp, k | .zsl, k | .nilsl, k | .slm _ _ _ _, k | .fn _ _, k | .und, k | .raw _, k => by simp only [nkT]; omega
theorem nkTL_sc : ∀ (vs : List V) (k : Int), nkTL vs k ≤ k + (scL vs : Nat)
  | [], k => by simp only [nkTL]; omega
  | v :: vs, k => by
    have h1 := nkT_sc v k
    have h2 := nkTL_sc vs (nkT v k)
    simp only [nkTL, scL]; omega
end
theorem scL_append : ∀ (a b : List V), scL (a ++ b) = scL a + scL b
  | [], b => by simp [scL]
  | x :: a, b => by simp only [List.cons_append, scL, scL_append a b]; omega
theorem scL_map {α : Type} {f : α → V} (c : Nat) (h : ∀ x, sc (f x) ≤ c) : ∀ (l : List α), scL (l.map f) ≤ c * l.length
  | [] => by simp [scL]
  | x :: l => by
    have h1 := h x
    have h2 := scL_map c h l
    simp only [List.map_cons, scL, List.length_cons, Nat.mul_add]; omega

/-! ### The books: which variables hold which data, and which are a function's own; the newest first, each below the one ahead of it -/
inductive BE where
  | blk (n : Nat) (d : V)
  | cell (l : Nat) (cs : List V)
def Hold (s : S) : Nat → List BE → Prop
  | _, [] => True
  | b, .blk n d :: H => n + cv d ≤ b ∧ d.plain = true ∧ HasV s n (thw n d).2 ∧ Hold s n H
  | b, .cell l cs :: H => l + 1 ≤ b ∧ s.vars l = some cs ∧ Hold s l H
theorem Hold.get {s : S} : ∀ {H : List BE} {b n : Nat} {d : V}, Hold s b H → BE.blk n d ∈ H → n + cv d ≤ b ∧ d.plain = true ∧ HasV s n (thw n d).2
  | .blk n' d' :: H, b, n, d, h, hm => by
    rcases List.mem_cons.1 hm with e | hm
    · cases e
      exact ⟨h.1, h.2.1, h.2.2.1⟩
    · obtain ⟨h1, h2, h3⟩ := Hold.get h.2.2.2 hm
      exact ⟨by have := h.1; omega, h2, h3⟩
  | .cell l cs :: H, b, n, d, h, hm => by
    rcases List.mem_cons.1 hm with e | hm
    · cases e
    · obtain ⟨h1, h2, h3⟩ := Hold.get h.2.2 hm
      exact ⟨by have := h.1; omega, h2, h3⟩
theorem Hold.cell {s : S} : ∀ {H : List BE} {b l : Nat} {cs : List V}, Hold s b H → BE.cell l cs ∈ H → l + 1 ≤ b ∧ s.vars l = some cs
  | .blk n' d' :: H, b, l, cs, h, hm => by
    rcases List.mem_cons.1 hm with e | hm
    · cases e
    · obtain ⟨h1, h2⟩ := Hold.cell h.2.2.2 hm
      exact ⟨by have := h.1; omega, h2⟩
  | .cell l' cs' :: H, b, l, cs, h, hm => by
    rcases List.mem_cons.1 hm with e | hm
    · cases e
      exact ⟨h.1, h.2.1⟩
    · obtain ⟨h1, h2⟩ := Hold.cell h.2.2 hm
      exact ⟨by have := h.1; omega, h2⟩
theorem Hold.congr {s s' : S} : ∀ {H : List BE} {b : Nat}, Hold s b H → (∀ l, l < b → s'.vars l = s.vars l) → Hold s' b H
  | [], _, _, _ => trivial
  | .blk n d :: H, b, h, hv => by
    refine ⟨h.1, h.2.1, fun j p hj => ?_, Hold.congr h.2.2.2 fun l hl => hv l (by have := h.1; omega)⟩
    have hlt := (List.getElem?_eq_some_iff.1 hj).1
    rw [thw_cv] at hlt
    rw [hv _ (by have := h.1; omega)]
    exact h.2.2.1 j p hj
  | .cell l cs :: H, b, h, hv => ⟨h.1, by rw [hv l (by have := h.1; omega)]; exact h.2.1, Hold.congr h.2.2 fun x hx => hv x (by have := h.1; omega)⟩
theorem Hold.push {s : S} {H : List BE} {d : V} (h : Hold s s.next H) (hd : d.plain = true) : Hold (s.ext (thawed s.next d)) (s.ext (thawed s.next d)).next (.blk s.next d :: H) := by
  refine ⟨by rw [ext_next, thawed_length]; exact Nat.le_refl _, hd, ?_, h.congr fun l hl => ext_vars_lt _ _ hl⟩
  exact HasV.extC (s := s) [] (d := d) (m := s.next) (by simp)
theorem Hold.new {s : S} {H : List BE} (h : Hold s s.next H) (cs : List V) : Hold (s.ext [.var cs]) (s.ext [.var cs]).next (.cell s.next cs :: H) :=
  ⟨Nat.le_refl _, by rw [ext_vars0]; rfl, h.congr fun l hl => ext_vars_lt _ _ hl⟩
theorem blk_out {s : S} {n : Nat} {B : List (Nat × List V)} {l : Nat} (h : l < n ∨ n + B.length ≤ l) : (s.blk n B).vars l = s.vars l := by
  show (if n ≤ l ∧ l < n + B.length then _ else _) = _
  rw [if_neg (by omega)]
theorem blk_in {s : S} {n : Nat} {B : List (Nat × List V)} : HasV (s.blk n B) n B := fun j p hj => by
  have hlt := (List.getElem?_eq_some_iff.1 hj).1
  show (if n ≤ n + j ∧ n + j < n + B.length then _ else _) = _
  rw [if_pos (by omega), Nat.add_sub_cancel_left, hj]
  rfl
theorem Hold.blk {s : S} : ∀ {H : List BE} {b i n : Nat} {d d' : V}, Hold s b H → nthO H i = some (.blk n d) → cv d' = cv d → d'.plain = true → ∀ {H' : List BE}, setO H i (.blk n d') = some H' → Hold (s.blk n (thw n d').2) b H'
  | e :: H, b, 0, n, d, d', h, hi, hc, hp, H', hs => by
    cases hi
    cases hs
    exact ⟨by rw [hc]; exact h.1, hp, blk_in, h.2.2.2.congr fun l hl => blk_out (.inl hl)⟩
  | e :: H, b, i + 1, n, d, d', h, hi, hc, hp, H', hs => by
    simp only [setO] at hs
    cases hq : setO H i (.blk n d') with
    | none => rw [hq] at hs; cases hs
    | some r =>
      rw [hq] at hs
      cases hs
      have hm := List.mem_of_getElem? (nthO_eq (show nthO H i = some (.blk n d) from hi))
      cases e with
      | blk n0 d0 =>
        have hg := (Hold.get h.2.2.2 hm).1
        refine ⟨h.1, h.2.1, fun j p hj => ?_, Hold.blk h.2.2.2 hi hc hp hq⟩
        rw [blk_out (.inr (by rw [thw_cv, hc]; omega))]
        exact h.2.2.1 j p hj
      | cell l cs =>
        have hg := (Hold.get h.2.2 hm).1
        refine ⟨h.1, ?_, Hold.blk h.2.2 hi hc hp hq⟩
        rw [blk_out (.inr (by rw [thw_cv, hc]; omega))]
        exact h.2.1
theorem Hold.set {s : S} : ∀ {H : List BE} {b i k : Nat} {cs cs' : List V}, Hold s b H → nthO H i = some (.cell k cs) → ∀ {H' : List BE}, setO H i (.cell k cs') = some H' → Hold (s.setVar k cs') b H'
  | e :: H, b, 0, k, cs, cs', h, hi, H', hs => by
    cases hi
    cases hs
    exact ⟨h.1, by simp [S.setVar], h.2.2.congr fun l hl => by simp [S.setVar, Nat.ne_of_lt hl]⟩
  | e :: H, b, i + 1, k, cs, cs', h, hi, H', hs => by
    simp only [setO] at hs
    cases hq : setO H i (.cell k cs') with
    | none => rw [hq] at hs; cases hs
    | some r =>
      rw [hq] at hs
      cases hs
      have hm := List.mem_of_getElem? (nthO_eq (show nthO H i = some (.cell k cs) from hi))
      cases e with
      | blk n0 d0 =>
        have hg := (Hold.cell h.2.2.2 hm).1
        refine ⟨h.1, h.2.1, fun j p hj => ?_, Hold.set h.2.2.2 hi hq⟩
        have : n0 + j ≠ k := by omega
        simp only [S.setVar, this, if_false]
        exact h.2.2.1 j p hj
      | cell l cs0 =>
        have hg := (Hold.cell h.2.2 hm).1
        refine ⟨h.1, ?_, Hold.set h.2.2 hi hq⟩
        have : l ≠ k := by omega
        simp only [S.setVar, this, if_false]
        exact h.2.1

/-- Arguments: plain data, or data in variables of the books. -/
inductive RdH (H : List BE) : List V → List V → Prop
  | nil : RdH H [] []
  | pl {v vs ds} : v.plain = true → RdH H vs ds → RdH H (v :: vs) (v :: ds)
  | th {n d vs ds} : BE.blk n d ∈ H → RdH H vs ds → RdH H ((thw n d).1 :: vs) (d :: ds)
  | mk {n d k vs ds} : BE.blk n (mkT d k) ∈ H → RdH H vs ds → RdH H ((thw n d).1 :: vs) (mkT d k :: ds)
theorem RdH.rd {s : S} {b : Nat} {H : List BE} (hh : Hold s b H) (hb : b ≤ s.next) : ∀ {vs ds : List V}, RdH H vs ds → RdL (s.ext []) vs ds
  | _, _, .nil => .nil
  | _, _, .pl h t => .cons (Rd.plain _ h) (RdH.rd hh hb t)
  | _, _, .th h t => by
    obtain ⟨h1, h2, h3⟩ := hh.get h
    exact .cons (Rd_thw _ _ h2 (h3.ext0 (by rw [thw_cv]; omega))) (RdH.rd hh hb t)
  | _, _, .mk (n := n) (d := d) (k := k) h t => by
    obtain ⟨h1, h2, h3⟩ := hh.get h
    refine .cons ?_ (RdH.rd hh hb t)
    rw [← thw_mkT d n k]
    exact Rd_thw _ _ h2 (h3.ext0 (by rw [thw_cv]; omega))

theorem ext_ext_nil (s : S) (xs : List Own) : (s.ext xs).ext [] = s.ext xs := by
  refine S.ext_eq (fun x => ?_) (fun x => ?_) rfl
  · show (if x < (s.ext xs).next then (s.ext xs).vars x else Own.cells? _) = _
    split
    · rfl
    · rename_i h
      rw [ext_next] at h
      show _ = (if x < s.next then s.vars x else Own.cells? xs[x - s.next]?)
      rw [if_neg (by omega), List.getElem?_nil, List.getElem?_eq_none (show xs.length ≤ x - s.next by omega)]
  · show (if x < (s.ext xs).next then (s.ext xs).fams x else Own.fam? _) = _
    split
    · rfl
    · rename_i h
      rw [ext_next] at h
      show _ = (if x < s.next then s.fams x else Own.fam? xs[x - s.next]?)
      rw [if_neg (by omega), List.getElem?_nil, List.getElem?_eq_none (show xs.length ≤ x - s.next by omega)]

/-- What marks what is held by value. -/
def MarkT (P : Program) (f : FuncId) (d : V) : Prop := ∀ (t : S) (n : Nat) (k : Int), HasV t n (thw n d).2 → n + cv d ≤ t.next → 0 ≤ k → nkT d k ≤ 1000000000000 →
  VCalls P f [(thw n d).1, .int .i64 k] t (fun v t' => v = .int .i64 (nkT d k) ∧ t' = t.blk n (thw n (mkT d k)).2)
def HeldT (P : Program) (f : FuncId) (d : V) : Prop := ∀ (k : Int) (s : S), 0 ≤ k → nkT d k ≤ 1000000000000 → VCalls P f [mkT d k, .int .i64 k] s (fun v s' => v = .int .i64 (nkT d k) ∧ s' = s)
theorem MarkC.toT {P : Program} {f : FuncId} {id : Nat} {xs : List V} (h : MarkC P f (.sl id xs)) : MarkT P f (.sl id xs) := fun t n k hv _ h0 hb => h t n k hv h0 hb

theorem appO_nil {α : Type} : ∀ (l : List α), appO l [] = some l
  | [] => rfl
  | x :: l => by simp only [appO, appO_nil l]
section
variable {P : Program} {N : Nat} {ops : Array Oper} {l : List Oper} {K : Kn → S → Prop} {L : Kn} {s : S} {d : Nat} {ty : TypeId} {p : String} {a : Array Edge} {H : List BE}
theorem lend_at {s : S} {dv : V} : (s.ext []).ext (thawed (s.ext []).next dv) = (s.ext (thawed s.next dv)).ext [] := by
  rw [ext_ext, ext_ext_nil]
  rfl
/-- A call that answers new memory. -/
theorem LOps.lendH {f : Operand} {g : FuncId} {args : Array Operand} {B : Array TypeId} {vs ds : List V} {dv : V} (hf : opd L f = some (.fn g [])) (ha : opdL L args.toList = some vs) (hok : CallOk P g) (hh : Hold s s.next H) (hrd : RdH H vs ds)
    (hc : ∀ t, VCalls P g ds t (fun v t' => Own2 dv v t')) (hp : dv.plain = true) (hk : ∀ (s' : S) (n : Nat), Hold s' s'.next (.blk n dv :: H) → LOps P N ops l K ((d, (thw n dv).1) :: L) (s'.ext [])) :
    LOps P N ops (⟨some d, .call ⟨.value f, args, B⟩, ty, p, a, none⟩ :: l) K L (s.ext []) := by
  refine .call hf ha (appO_nil _) hok (VCalls.lend2 (hrd.rd hh (Nat.le_refl _)) hc) fun v s' hv => ?_
  obtain ⟨rfl, rfl⟩ := hv
  rw [lend_at]
  exact hk _ _ (hh.push hp)
theorem scal_thwL : ∀ {us : List V}, us.all V.scal = true → ∀ n, thwL n us = (us, [])
  | [], _, n => rfl
  | u :: us, h, n => by
    rw [List.all_cons, Bool.and_eq_true] at h
    have h1 : thw n u = (u, []) := by cases u <;> first | rfl | cases h.1
    unfold thwL
    rw [h1]
    simp only [List.length_nil, Nat.add_zero, scal_thwL h.2, List.nil_append]
/-- The same, with scalars behind it. -/
theorem LOps.lendHT {f : Operand} {g : FuncId} {args : Array Operand} {B : Array TypeId} {vs ds us : List V} {dv : V} (hf : opd L f = some (.fn g [])) (ha : opdL L args.toList = some vs) (hok : CallOk P g) (hh : Hold s s.next H) (hrd : RdH H vs ds)
    (hc : ∀ t, VCalls P g ds t (fun v t' => Own2 (.tup (dv :: us)) v t')) (hp : dv.plain = true) (hu : us.all V.scal = true) (hk : ∀ (s' : S) (n : Nat), Hold s' s'.next (.blk n dv :: H) → LOps P N ops l K ((d, .tup ((thw n dv).1 :: us)) :: L) (s'.ext [])) :
    LOps P N ops (⟨some d, .call ⟨.value f, args, B⟩, ty, p, a, none⟩ :: l) K L (s.ext []) := by
  refine .call hf ha (appO_nil _) hok (VCalls.lend2 (hrd.rd hh (Nat.le_refl _)) hc) fun v s' hv => ?_
  obtain ⟨rfl, rfl⟩ := hv
  rw [lend_at]
  have e : thw s.next (.tup (dv :: us)) = (.tup ((thw s.next dv).1 :: us), (thw s.next dv).2) := by
    show ((V.tup (thwL s.next (dv :: us)).1, (thwL s.next (dv :: us)).2) : V × _) = _
    unfold thwL
    simp only [scal_thwL hu, List.append_nil]
  have e2 : thawed s.next (.tup (dv :: us)) = thawed s.next dv := by unfold thawed; rw [e]
  show LOps P N ops l K ((d, (thw s.next (.tup (dv :: us))).1) :: L) _
  rw [e2, e]
  exact hk _ _ (hh.push hp)
/-- A call that marks. -/
theorem LOps.markH {f : Operand} {g : FuncId} {args : Array Operand} {B : Array TypeId} {dv v : V} {kk : Int} {m : Nat} {H' : List BE} (i : Nat) (hf : opd L f = some (.fn g [])) (ha : opdL L args.toList = some [v, .int .i64 kk]) (hok : CallOk P g)
    (hh : Hold s s.next H) (hv : v = (thw m dv).1) (hi : nthO H i = some (.blk m dv)) (hc : MarkT P g dv) (hs : setO H i (.blk m (mkT dv kk)) = some H') (h0 : 0 ≤ kk) (hb : nkT dv kk ≤ 1000000000000)
    (hk : ∀ s' : S, Hold s' s'.next H' → LOps P N ops l K ((d, .int .i64 (nkT dv kk)) :: L) (s'.ext [])) :
    LOps P N ops (⟨some d, .call ⟨.value f, args, B⟩, ty, p, a, none⟩ :: l) K L (s.ext []) := by
  subst hv
  obtain ⟨h1, h2, h3⟩ := hh.get (List.mem_of_getElem? (nthO_eq hi))
  refine .call hf ha (appO_nil _) hok (hc (s.ext []) m kk (h3.ext0 (by rw [thw_cv]; exact h1)) h1 h0 hb) fun v s' hv => ?_
  obtain ⟨rfl, rfl⟩ := hv
  rw [ext_blk (by rw [thw_cv, mkT_cv]; exact h1)]
  exact hk _ (hh.blk hi (mkT_cv _ _) (mkT_plain _ _ h2) hs)
variable {tt : BT}
theorem ext0_setVar {s : S} {k : Nat} (h : k < s.next) (cs : List V) : (s.ext []).setVar k cs = (s.setVar k cs).ext [] := ext_setVar_lt s [] h cs
theorem LOps.boxH {T : TypeId} {x : Operand} {v : V} {cs : List V} (hh : Hold s s.next H) (hx : opd L x = some v) (hc : cellsO v = some cs) (hk : ∀ (s' : S) (n : Nat), Hold s' s'.next (.cell n cs :: H) → LOps P N ops l K ((d, .ptr n 0) :: L) (s'.ext [])) :
    LOps P N ops (⟨some d, .box T x, ty, p, a, none⟩ :: l) K L (s.ext []) := by
  refine .st (v := .ptr s.next 0) (s' := (s.ext [.var cs]).ext []) (fun σ hσ => ?_) (hk _ _ (hh.new cs))
  simp only [vop, opd_eq hσ hx, Option.map_some, cellsO_eq hc, ext_newVar, ext_ext_nil]
  rfl
theorem LOps.allocH (ht : tt.ok P) {T : TypeId} {t : Ty} (hh : Hold s s.next H) (hT : tt.get T = some t) (hz : (Nat.beq t.zero.length t.size && Nat.blt 0 t.size) = true) (hk : ∀ (s' : S) (n : Nat), Hold s' s'.next (.cell n t.zero :: H) → LOps P N ops l K ((d, .ptr n 0) :: L) (s'.ext [])) :
    LOps P N ops (⟨some d, .alloc T, ty, p, a, none⟩ :: l) K L (s.ext []) := by
  refine .st (v := .ptr s.next 0) (s' := (s.ext [.var t.zero]).ext []) (fun σ hσ => ?_) (hk _ _ (hh.new t.zero))
  simp only [vop, valloc, ht.get hT, Option.bind_some, ext_newVar, ext_ext_nil]
  simp only [Bool.and_eq_true] at hz
  first
    | rfl
    | (rw [if_pos ⟨Nat.eq_of_beq_eq_true hz.1, by simpa using hz.2⟩]; rfl)
theorem LOps.storeH (ht : tt.ok P) {T : TypeId} {u : Ty} {x y : Operand} {k off : Nat} {cs cs' vs : List V} {v : V} {H' : List BE} (i : Nat) (hh : Hold s s.next H) (hx : opd L x = some (.ptr k off)) (hi : nthO H i = some (.cell k cs)) (hy : opd L y = some v) (hT : tt.get T = some u)
    (hc : cellsO v = some vs) (ho : onesO vs = true) (hn : Nat.beq vs.length u.size = true) (hsp : splO cs off vs = some cs') (hs : setO H i (.cell k cs') = some H') (hk : ∀ s' : S, Hold s' s'.next H' → LOps P N ops l K L (s'.ext [])) :
    LOps P N ops (⟨none, .store T x y, ty, p, a, none⟩ :: l) K L (s.ext []) := by
  obtain ⟨h1, h2⟩ := hh.cell (List.mem_of_getElem? (nthO_eq hi))
  refine .stN (v := .und) (s' := (s.setVar k cs').ext []) (fun σ hσ => ?_) (hk _ (hh.set hi hs))
  obtain ⟨h3, h4⟩ := splO_eq hsp
  have h5 : vs.length = u.size := Nat.eq_of_beq_eq_true hn
  simp only [vop, opd_eq hσ hx, opd_eq hσ hy, vstore, ht.get hT, ext_vars_lt s [] (show k < s.next by omega), h2, cellsO_eq hc, Option.bind_some]
  rw [if_pos ⟨h5, by omega, onesO_eq ho⟩, Option.map_some, ext0_setVar (by omega), h3]
/-- A value in variables, stored whole. -/
theorem LOps.storeHW (ht : tt.ok P) {T : TypeId} {u : Ty} {x y : Operand} {k n : Nat} {cs : List V} {v dv : V} {H' : List BE} (i : Nat) (hh : Hold s s.next H) (hx : opd L x = some (.ptr k 0)) (hi : nthO H i = some (.cell k cs)) (hy : opd L y = some v) (hT : tt.get T = some u)
    (hv : v = (thw n dv).1) (h1 : (dv.cells.all V.one && Nat.beq dv.cells.length u.size && Nat.beq cs.length dv.cells.length) = true) (hs : setO H i (.cell k (thw n dv).1.cells) = some H') (hk : ∀ s' : S, Hold s' s'.next H' → LOps P N ops l K L (s'.ext [])) :
    LOps P N ops (⟨none, .store T x y, ty, p, a, none⟩ :: l) K L (s.ext []) := by
  subst hv
  simp only [Bool.and_eq_true] at h1
  obtain ⟨⟨h1, hn⟩, hl⟩ := h1
  have hn := Nat.eq_of_beq_eq_true hn
  have hl := Nat.eq_of_beq_eq_true hl
  obtain ⟨h3, h2⟩ := hh.cell (List.mem_of_getElem? (nthO_eq hi))
  have hc1 := thw_cells_len dv n
  refine .stN (v := .und) (s' := (s.setVar k (thw n dv).1.cells).ext []) (fun σ hσ => ?_) (hk _ (hh.set hi hs))
  simp only [vop, opd_eq hσ hx, opd_eq hσ hy, vstore, ht.get hT, ext_vars_lt s [] (show k < s.next by omega), h2, Option.bind_some]
  rw [if_pos ⟨by omega, by omega, thw_cells_ones n h1⟩, Option.map_some, ext0_setVar (by omega)]
  have e : splice cs 0 (thw n dv).1.cells = (thw n dv).1.cells := by
    unfold splice
    simp only [List.take_zero, List.nil_append, Nat.zero_add]
    rw [List.drop_of_length_le (by omega), List.append_nil]
  rw [e]
theorem AnsL.loadH (ht : tt.ok P) {T : TypeId} {u : Ty} {x : Operand} {k off : Nat} {cs : List V} {v : V} (i : Nat) (hh : Hold s s.next H) (hx : opd L x = some (.ptr k off)) (hi : nthO H i = some (.cell k cs)) (hT : tt.get T = some u) (hr : takeO cs off u.size u.agg = some v) :
    AnsL P (.load T x) L (s.ext []) v := by
  obtain ⟨h1, h2⟩ := hh.cell (List.mem_of_getElem? (nthO_eq hi))
  exact AnsL.loadO ht hx (by omega) h2 hT hr
def V.isAgg : V → Bool
  | .agg _ => true
  | _ => false
theorem AnsL.loadHW (ht : tt.ok P) {T : TypeId} {u : Ty} {x : Operand} {k n : Nat} {dv : V} (i : Nat) (hh : Hold s s.next H) (hx : opd L x = some (.ptr k 0)) (hi : nthO H i = some (.cell k (thw n dv).1.cells)) (hT : tt.get T = some u)
    (hg : (dv.isAgg && u.agg && Nat.beq dv.cells.length u.size) = true) : AnsL P (.load T x) L (s.ext []) (thw n dv).1 := by
  obtain ⟨h1, h2⟩ := hh.cell (List.mem_of_getElem? (nthO_eq hi))
  simp only [Bool.and_eq_true] at hg
  obtain ⟨⟨hg1, hg2⟩, hg3⟩ := hg
  have hg3 := Nat.eq_of_beq_eq_true hg3
  have hc1 := thw_cells_len dv n
  cases dv with
  | agg cs =>
    have e : (thw n (.agg cs)).1 = .agg (thw n (.agg cs)).1.cells := rfl
    refine .of fun σ hσ _ _ _ _ _ => ?_
    simp only [vop, opd_eq hσ hx, vload, ht.get hT, ext_vars_lt s [] (show k < s.next by omega), h2, Option.bind_some, hg2]
    have e2 : takeV (thw n (.agg cs)).1.cells 0 u.size true = some (thw n (.agg cs)).1 := by
      unfold takeV
      simp only [List.drop_zero, if_true]
      first
        | (rw [if_pos (by omega), List.take_of_length_le (by omega), ← e])
        | (rw [List.take_of_length_le (by omega), ← e])
        | (rw [if_pos (by omega), ← hg3, ← hc1, List.take_length, ← e])
    rw [e2]
    rfl
  | _ => cases hg1
end
/-- A call that answers a scalar, its arguments in the books. -/
theorem VCalls.lookH {P : Program} {f : FuncId} {vs ds : List V} {r : V} {s : S} {H : List BE} (hr : r.scal = true) (hh : Hold s s.next H) (hrd : RdH H vs ds) (h : ∀ t, VCalls P f ds t (fun v t' => v = r ∧ t' = t)) :
    VCalls P f vs (s.ext []) (fun v s' => v = r ∧ s' = s.ext []) := VCalls.lendP hr (hrd.rd hh (Nat.le_refl _)) h

end Go.Proofs.Ytobninmgpbhknaa
