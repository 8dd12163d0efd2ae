/-
  Data in variables: how many, that they read as the data, and calls on them. Own work; no condition.
-/
import Derived.Test.YtejdgmdebfkkeaaVOwn
namespace Go.Proofs.Ytejdgmdebfkkeaa
open Go

def sameSz : List V → Bool
  | [] => true
  | x :: xs => xs.all (fun y => y.cells.length == x.cells.length)
theorem sameSz_spec {xs : List V} (h : sameSz xs = true) : ∃ sz, ∀ x ∈ xs, x.cells.length = sz := by
  cases xs with
  | nil => exact ⟨0, fun x hx => by cases hx⟩
  | cons x xs =>
    refine ⟨x.cells.length, fun y hy => ?_⟩
    rcases List.mem_cons.1 hy with rfl | hy
    · rfl
    · simp only [sameSz, List.all_eq_true, beq_iff_eq] at h
      exact h y hy
theorem sameSz_of {xs : List V} {sz : Nat} (h : ∀ x ∈ xs, x.cells.length = sz) : sameSz xs = true := by
  cases xs with
  | nil => rfl
  | cons x xs =>
    simp only [sameSz, List.all_eq_true, beq_iff_eq]
    intro y hy
    rw [h y (by simp [hy]), h x (by simp)]

mutual
/-- Data without memory of its own; a slice's elements are of one size. -/
def V.plain : V → Bool
  | .agg cs => V.plainL cs
  | .sl id xs => (id == 0 && sameSz xs) && V.plainL xs
  | .int _ _ | .bool _ | .str _ | .nilp | .und => true
  | .tup _ | .ptr _ _ | .eptr _ _ | .zsl | .nilsl | .slm _ _ _ _ | .fn _ _ | .raw _ => false
def V.plainL : List V → Bool
  | [] => true
  | v :: vs => V.plain v && V.plainL vs
end
theorem V.plainL_eq : ∀ vs : List V, V.plainL vs = vs.all V.plain
  | [] => rfl
  | v :: vs => by simp [V.plainL, V.plainL_eq vs]

mutual
/-- How many variables hold its slices. -/
def cv : V → Nat
  | .agg cs => cvL cs
  | .tup vs => cvL vs
  | .sl _ xs => if xs.isEmpty then 0 else cvL xs + 1
  | .int _ _ | .bool _ | .str _ | .ptr _ _ | .eptr _ _ | .nilp | .zsl | .nilsl | .slm _ _ _ _ | .fn _ _ | .und | .raw _ => 0
def cvL : List V → Nat
  | [] => 0
  | v :: vs => cv v + cvL vs
end
mutual
theorem thw_cv : ∀ (v : V) (n : Nat), (thw n v).2.length = cv v
  | .agg cs, n => by simp only [thw, cv]; exact thwL_cv cs n
  | .tup cs, n => by simp only [thw, cv]; exact thwL_cv cs n
  | .sl id xs, n => by
    unfold thw cv
    cases xs.isEmpty with
    | true => rfl
    | false => simp [thwL_cv xs n]
  | .zsl, _ | .nilsl, _ | .int _ _, _ | .bool _, _ | .str _, _ | .ptr _ _, _ | .eptr _ _, _ | .nilp, _ | .slm _ _ _ _, _ | .fn _ _, _ | .und, _ | .raw _, _ => rfl
theorem thwL_cv : ∀ (vs : List V) (n : Nat), (thwL n vs).2.length = cvL vs
  | [], _ => rfl
  | v :: vs, n => by simp only [thwL, cvL, List.length_append, thw_cv v n, thwL_cv vs]
end
theorem cvL_append : ∀ (a b : List V), cvL (a ++ b) = cvL a + cvL b
  | [], b => by simp [cvL]
  | x :: a, b => by simp only [List.cons_append, cvL, cvL_append a b]; omega
@[simp] theorem thawed_length (n : Nat) (d : V) : (thawed n d).length = cv d := by simp [thawed, thw_cv]

def thawedL (n : Nat) (ds : List V) : List Own := (thwL n ds).2.map fun p => .var p.2
@[simp] theorem thawedL_length (n : Nat) (d : List V) : (thawedL n d).length = cvL d := by simp [thawedL, thwL_cv]
@[simp] theorem thawedL_nil (n : Nat) : thawedL n [] = [] := rfl
theorem thwL_snoc (n : Nat) (ds : List V) (d : V) : thwL n (ds ++ [d]) = ((thwL n ds).1 ++ [(thw (n + cvL ds) d).1], (thwL n ds).2 ++ (thw (n + cvL ds) d).2) := by
  rw [thwL_append, thwL_cv]
  simp [thwL]
theorem thawedL_snoc (n : Nat) (ds : List V) (d : V) : thawedL n (ds ++ [d]) = thawedL n ds ++ thawed (n + cvL ds) d := by
  simp [thawedL, thawed, thwL_snoc]
theorem thawed_sl (n : Nat) (id : Nat) {ds : List V} (h : ds.isEmpty = false) : thawed n (.sl id ds) = thawedL n ds ++ [.var (V.flat (thwL n ds).1)] := by
  unfold thawed thawedL thw
  rw [h]
  simp
theorem thw_sl (n : Nat) (id : Nat) {ds : List V} (h : ds.isEmpty = false) : (thw n (.sl id ds)).1 = .slm false (n + cvL ds) 0 ds.length := by
  unfold thw
  rw [h]
  simp [thwL_cv]
theorem thwL_take_succ {n i : Nat} {ds : List V} (h : i < ds.length) : thwL n (ds.take (i + 1)) = ((thwL n (ds.take i)).1 ++ [(thw (n + cvL (ds.take i)) ds[i]).1], (thwL n (ds.take i)).2 ++ (thw (n + cvL (ds.take i)) ds[i]).2) := by
  rw [← List.take_append_getElem h, thwL_snoc]
theorem thawedL_take_succ {n i : Nat} {ds : List V} (h : i < ds.length) : thawedL n (ds.take (i + 1)) = thawedL n (ds.take i) ++ thawed (n + cvL (ds.take i)) ds[i] := by
  rw [← List.take_append_getElem h, thawedL_snoc]

/-- These variables hold this. -/
def HasV (t : S) (n : Nat) (os : List (Nat × List V)) : Prop := ∀ (j : Nat) (p : Nat × List V), os[j]? = some p → t.vars (n + j) = some p.2
theorem HasV.left {t : S} {n : Nat} {a b : List (Nat × List V)} (h : HasV t n (a ++ b)) : HasV t n a := fun j p hj => h j p (by
  rw [List.getElem?_append_left (List.getElem?_eq_some_iff.1 hj).1]; exact hj)
theorem HasV.right {t : S} {n : Nat} {a b : List (Nat × List V)} (h : HasV t n (a ++ b)) : HasV t (n + a.length) b := fun j p hj => by
  have := h (a.length + j) p (by rw [List.getElem?_append_right (by omega), Nat.add_sub_cancel_left]; exact hj)
  rw [Nat.add_assoc]; exact this
theorem HasV.ext {s : S} {n : Nat} {A B : List Own} {os : List (Nat × List V)} (hn : n = s.next + A.length) : HasV (s.ext (A ++ (os.map (fun p => Own.var p.2) ++ B))) n os := by
  intro j p hj
  have hlt := (List.getElem?_eq_some_iff.1 hj).1
  have : ((A ++ (os.map (fun p => Own.var p.2) ++ B)))[A.length + j]? = some (.var p.2) := by
    rw [List.getElem?_append_right (by omega), Nat.add_sub_cancel_left, List.getElem?_append_left (by simpa using hlt), List.getElem?_map, hj]
    rfl
  rw [hn, Nat.add_assoc, ext_vars, this]
  rfl

def vl (n k : Nat) : List (Bool × Nat) := (List.range' n k).map fun l => (true, l)
theorem vl_append (n a b : Nat) : vl n a ++ vl (n + a) b = vl n (a + b) := by
  simp only [vl, ← List.map_append]
  congr 1
  exact List.range'_append_1
theorem vl_one (n : Nat) : [(true, n)] = vl n 1 := rfl
@[simp] theorem mem_vl {n k : Nat} {p : Bool × Nat} : p ∈ vl n k ↔ p.1 = true ∧ n ≤ p.2 ∧ p.2 < n + k := by
  obtain ⟨b, l⟩ := p
  simp only [vl, List.mem_map, List.mem_range'_1, Prod.mk.injEq]
  constructor
  · rintro ⟨a, ha, h1, h2⟩
    subst h1 h2
    exact ⟨rfl, ha⟩
  · rintro ⟨h1, h2⟩
    exact ⟨l, h2, h1.symm, rfl⟩
theorem vl_nodup (n k : Nat) : (vl n k).Nodup := by
  unfold vl
  rw [List.Nodup, List.pairwise_map]
  exact (List.nodup_range' (s := n) (n := k)).imp fun h e => h (Prod.mk.inj e).2

theorem TrL.append {t : S} : ∀ {a da b db : List V} {la lb : List (Bool × Nat)}, TrL t a da la → TrL t b db lb → TrL t (a ++ b) (da ++ db) (la ++ lb)
  | _, _, _, _, _, _, .nil, k => k
  | _, _, _, _, _, _, .cons h r, k => by
    rw [List.append_assoc]
    exact .cons h (r.append k)

mutual
theorem Tr_thw {t : S} : ∀ (d : V) (n : Nat), d.plain = true → HasV t n (thw n d).2 → Tr t (thw n d).1 d (vl n (cv d))
  | .agg cs, n, h, hv => .agg (TrL_thw cs n h hv)
  | .tup cs, n, h, hv => by cases h
  | .sl id xs, n, h, hv => by
    simp only [V.plain, Bool.and_eq_true, beq_iff_eq] at h
    obtain ⟨⟨rfl, h1⟩, h2⟩ := h
    cases he : xs.isEmpty with
    | true =>
      have : xs = [] := by simpa using he
      subst this
      exact .emp
    | false =>
      obtain ⟨sz, hsz⟩ := sameSz_spec h1
      rw [thw_sl n 0 he]
      have e : cv (.sl 0 xs) = cvL xs + 1 := by simp only [cv, he, Bool.false_eq_true, if_false]
      rw [e, ← vl_append, ← vl_one]
      unfold thw at hv
      rw [he] at hv
      simp only [Bool.false_eq_true, if_false] at hv
      refine .slm he rfl hsz ?_ (TrL_flat xs n h2 hv.left)
      have := hv.right 0 _ rfl
      rw [thwL_cv] at this
      exact this
  | .zsl, n, h, hv => by cases h
  | .nilsl, n, h, hv => by cases h
  | .int _ _, n, h, hv => .scal rfl
  | .bool _, n, h, hv => .scal rfl
  | .str _, n, h, hv => .scal rfl
  | .nilp, n, h, hv => .scal rfl
  | .und, n, h, hv => .scal rfl
  | .ptr _ _, n, h, hv => by cases h
  | .eptr _ _, n, h, hv => by cases h
  | .slm _ _ _ _, n, h, hv => by cases h
  | .fn _ _, n, h, hv => by cases h
  | .raw _, n, h, hv => by cases h
theorem TrL_thw {t : S} : ∀ (ds : List V) (n : Nat), V.plainL ds = true → HasV t n (thwL n ds).2 → TrL t (thwL n ds).1 ds (vl n (cvL ds))
  | [], n, h, hv => .nil
  | d :: ds, n, h, hv => by
    simp only [V.plainL, Bool.and_eq_true] at h
    simp only [thwL] at hv ⊢
    rw [cvL, ← vl_append]
    have hr := hv.right
    rw [thw_cv] at hr ⊢
    exact .cons (Tr_thw d n h.1 hv.left) (TrL_thw ds _ h.2 hr)
theorem TrL_flat {t : S} : ∀ (ds : List V) (n : Nat), V.plainL ds = true → HasV t n (thwL n ds).2 → TrL t (V.flat (thwL n ds).1) (V.flat ds) (vl n (cvL ds))
  | [], n, h, hv => .nil
  | d :: ds, n, h, hv => by
    simp only [V.plainL, Bool.and_eq_true] at h
    simp only [thwL] at hv ⊢
    rw [cvL, ← vl_append, flat_cons, flat_cons]
    have hr := hv.right
    rw [thw_cv] at hr ⊢
    exact (Tr_cells d n h.1 hv.left).append (TrL_flat ds _ h.2 hr)
theorem Tr_cells {t : S} : ∀ (d : V) (n : Nat), d.plain = true → HasV t n (thw n d).2 → TrL t (thw n d).1.cells d.cells (vl n (cv d))
  | .agg cs, n, h, hv => TrL_thw cs n h hv
  | .tup cs, n, h, hv => by cases h
  | .sl id xs, n, h, hv => by
    have := TrL.cons (Tr_thw (.sl id xs) n h hv) .nil
    rw [List.append_nil] at this
    have e : (thw n (.sl id xs)).1.cells = [(thw n (.sl id xs)).1] := by
      unfold thw
      cases xs.isEmpty <;> rfl
    rw [e]
    exact this
  | .zsl, n, h, hv => by cases h
  | .nilsl, n, h, hv => by cases h
  | .int _ _, n, h, hv => .cons (.scal rfl) .nil
  | .bool _, n, h, hv => .cons (.scal rfl) .nil
  | .str _, n, h, hv => .cons (.scal rfl) .nil
  | .nilp, n, h, hv => .cons (.scal rfl) .nil
  | .und, n, h, hv => .cons (.scal rfl) .nil
  | .ptr _ _, n, h, hv => by cases h
  | .eptr _ _, n, h, hv => by cases h
  | .slm _ _ _ _, n, h, hv => by cases h
  | .fn _ _, n, h, hv => by cases h
  | .raw _, n, h, hv => by cases h
end

mutual
theorem Rd_thw {t : S} : ∀ (d : V) (n : Nat), d.plain = true → HasV t n (thw n d).2 → Rd t (thw n d).1 d
  | .agg cs, n, h, hv => .agg (RdL_thw cs n h hv)
  | .tup cs, n, h, hv => by cases h
  | .sl id xs, n, h, hv => by
    simp only [V.plain, Bool.and_eq_true, beq_iff_eq] at h
    obtain ⟨⟨rfl, h1⟩, h2⟩ := h
    cases he : xs.isEmpty with
    | true =>
      have : xs = [] := by simpa using he
      subst this
      exact .sl .nil
    | false =>
      obtain ⟨sz, hsz⟩ := sameSz_spec h1
      rw [thw_sl n 0 he]
      unfold thw at hv
      rw [he] at hv
      simp only [Bool.false_eq_true, if_false] at hv
      have hv2 := hv.right 0 _ rfl
      rw [thwL_cv] at hv2
      refine .slm (sz := sz) hv2 (thwL_len xs n) ?_ (RdL_thw xs n h2 hv.left)
      have : ∀ (ds : List V) (m : Nat), (∀ x ∈ ds, x.cells.length = sz) → ∀ u ∈ (thwL m ds).1, u.cells.length = sz := by
        intro ds
        induction ds with
        | nil => intro m _ u hu; cases hu
        | cons d ds ih =>
          intro m hd u hu
          simp only [thwL, List.mem_cons] at hu
          rcases hu with rfl | hu
          · rw [(thw_cells' d m).1, thwL_len]; exact hd d (by simp)
          · exact ih _ (fun x hx => hd x (by simp [hx])) u hu
      exact this xs n hsz
  | .zsl, n, h, hv => by cases h
  | .nilsl, n, h, hv => by cases h
  | .int _ _, n, h, hv => .scal rfl
  | .bool _, n, h, hv => .scal rfl
  | .str _, n, h, hv => .scal rfl
  | .nilp, n, h, hv => .scal rfl
  | .und, n, h, hv => .scal rfl
  | .ptr _ _, n, h, hv => by cases h
  | .eptr _ _, n, h, hv => by cases h
  | .slm _ _ _ _, n, h, hv => by cases h
  | .fn _ _, n, h, hv => by cases h
  | .raw _, n, h, hv => by cases h
theorem RdL_thw {t : S} : ∀ (ds : List V) (n : Nat), V.plainL ds = true → HasV t n (thwL n ds).2 → RdL t (thwL n ds).1 ds
  | [], n, h, hv => .nil
  | d :: ds, n, h, hv => by
    simp only [V.plainL, Bool.and_eq_true] at h
    simp only [thwL] at hv ⊢
    exact .cons (Rd_thw d n h.1 hv.left) (RdL_thw ds _ h.2 hv.right)
end
mutual
theorem Rd.plain {t : S} : ∀ (d : V), d.plain = true → Rd t d d
  | .agg cs, h => .agg (RdL.plain cs h)
  | .tup cs, h => by cases h
  | .sl id xs, h => by
    simp only [V.plain, Bool.and_eq_true, beq_iff_eq] at h
    obtain ⟨⟨rfl, h1⟩, h2⟩ := h
    exact .sl (RdL.plain xs h2)
  | .zsl, h => by cases h
  | .nilsl, h => by cases h
  | .int _ _, h => .scal rfl
  | .bool _, h => .scal rfl
  | .str _, h => .scal rfl
  | .nilp, h => .scal rfl
  | .und, h => .scal rfl
  | .ptr _ _, h => by cases h
  | .eptr _ _, h => by cases h
  | .slm _ _ _ _, h => by cases h
  | .fn _ _, h => by cases h
  | .raw _, h => by cases h
theorem RdL.plain {t : S} : ∀ (ds : List V), V.plainL ds = true → RdL t ds ds
  | [], _ => .nil
  | d :: ds, h => by
    simp only [V.plainL, Bool.and_eq_true] at h
    exact .cons (Rd.plain d h.1) (RdL.plain ds h.2)
end

/-! ### Calls -/
section
variable {P : Program} {N : Nat} {ops : Array Oper} {l : List Oper} {K : Kn → S → Prop} {L : Kn} {s : S} {xs : List Own} {d : Nat} {ty : TypeId} {p : String} {a : Array Edge}

theorem ext_nil {E : Env} {s : S} (h : RelS E s) : s.ext [] = s := by
  refine S.ext_eq (fun x => ?_) (fun x => ?_) rfl
  · simp only [S.ext, List.getElem?_nil]
    split
    · rfl
    · exact (h.none_of_le (by omega)).1.symm
  · simp only [S.ext, List.getElem?_nil]
    split
    · rfl
    · exact (h.none_of_le (by omega)).2.symm

theorem VCalls.lendP {f : FuncId} {vs ds : List V} {r : V} (hr : r.scal = true) (hrd : RdL s vs ds) (h : ∀ t, VCalls P f ds t (fun v t' => v = r ∧ t' = t)) : VCalls P f vs s (fun v s' => v = r ∧ s' = s) := by
  have e1 : ∀ n, thw n r = (r, []) := fun n => by cases r <;> first | rfl | cases hr
  have := VCalls.lend2 (d := r) hrd fun t => (h t).mono fun v t' hv => by
    obtain ⟨rfl, rfl⟩ := hv
    exact ⟨[], .scal hr, List.nodup_nil⟩
  intro E vals h1 h2
  have e2 : s.ext [] = s := ext_nil h1
  refine (this.mono fun v s' hv => ?_) E vals h1 h2
  obtain ⟨rfl, rfl⟩ := hv
  rw [thawed, e1]
  exact ⟨rfl, e2⟩

/-- A call that answers new memory. -/
theorem LOps.lend {f : Operand} {g : FuncId} {args : Array Operand} {B : Array TypeId} {caps vs ws : List V} {dv : V} {m : Nat} (hf : opd L f = some (.fn g caps)) (ha : opdL L args.toList = some vs) (hap : appO vs caps = some ws) (hok : CallOk P g)
    (hc : VCalls P g ws (s.ext xs) (fun v s' => v = (thw (s.ext xs).next dv).1 ∧ s' = (s.ext xs).ext (thawed (s.ext xs).next dv))) (hm : s.next + xs.length = m) (hk : LOps P N ops l K ((d, (thw m dv).1) :: L) (s.ext (xs ++ thawed m dv))) :
    LOps P N ops (⟨some d, .call ⟨.value f, args, B⟩, ty, p, a, none⟩ :: l) K L (s.ext xs) := by
  refine .call hf ha hap hok hc fun v s' hv => ?_
  obtain ⟨rfl, rfl⟩ := hv
  rw [ext_next, hm, ext_ext]
  exact hk
end

end Go.Proofs.Ytejdgmdebfkkeaa
