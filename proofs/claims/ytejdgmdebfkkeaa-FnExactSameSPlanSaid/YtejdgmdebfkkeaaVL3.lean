/-
  The value level's logic with frames known at some slots: memory, calls, functions, loops. Own work; no condition.
-/
import Derived.Test.YtejdgmdebfkkeaaVL2
namespace Go.Proofs.Ytejdgmdebfkkeaa
open Go

variable {P : Program} {N : Nat} {ops : Array Oper} {l : List Oper} {K : Kn → S → Prop} {L : Kn} {s : S} {xs ys : List Own} {tt : BT}
variable {d : Nat} {ty : TypeId} {p : String} {a : Array Edge}

/-! ### Memory of one's own -/
theorem LOps.box {T : TypeId} {x : Operand} {v : V} {cs : List V} {n : Nat} (hx : opd L x = some v) (hc : cellsO v = some cs) (hl : lenO xs = some n) (hs : snocO xs (.var cs) = some ys)
    (hk : LOps P N ops l K ((d, .ptr (s.next + n) 0) :: L) (s.ext ys)) : LOps P N ops (⟨some d, .box T x, ty, p, a, none⟩ :: l) K L (s.ext xs) :=
  .st (fun σ hσ => by simp only [vop, opd_eq hσ hx, Option.map_some, ext_newVar, ext_next, lenO_eq hl, cellsO_eq hc, snocO_eq hs]) hk

theorem LOps.alloc (ht : tt.ok P) {T : TypeId} {t : Ty} {n : Nat} (hT : tt.get T = some t) (hz : (Nat.beq t.zero.length t.size && Nat.blt 0 t.size) = true) (hl : lenO xs = some n) (hs : snocO xs (.var t.zero) = some ys)
    (hk : LOps P N ops l K ((d, .ptr (s.next + n) 0) :: L) (s.ext ys)) : LOps P N ops (⟨some d, .alloc T, ty, p, a, none⟩ :: l) K L (s.ext xs) := by
  simp only [Bool.and_eq_true] at hz
  refine .st (fun σ hσ => ?_) hk
  simp only [vop, valloc, ht.get hT, Option.bind_some, ext_newVar, ext_next, lenO_eq hl, snocO_eq hs]
  rw [if_pos ⟨Nat.eq_of_beq_eq_true hz.1, by simpa using hz.2⟩]

theorem own_vars {k : Nat} {cs : List V} (hv : nthO xs k = some (.var cs)) : (s.ext xs).vars (s.next + k) = some cs := by rw [ext_vars, nthO_eq hv]; rfl

theorem LOps.loadP (ht : tt.ok P) {T : TypeId} {t : Ty} {x : Operand} {k off : Nat} {cs : List V} {v : V} (hx : opd L x = some (.ptr (s.next + k) off)) (hv : nthO xs k = some (.var cs)) (hT : tt.get T = some t)
    (hr : takeO cs off t.size t.agg = some v) (hk : LOps P N ops l K ((d, v) :: L) (s.ext xs)) : LOps P N ops (⟨some d, .load T x, ty, p, a, none⟩ :: l) K L (s.ext xs) :=
  .st (fun σ hσ => by simp only [vop, opd_eq hσ hx, vload, ht.get hT, own_vars hv, takeO_eq hr, Option.bind_some, Option.map_some]) hk

theorem LOps.storeP (ht : tt.ok P) {T : TypeId} {t : Ty} {x y : Operand} {k off : Nat} {cs vs cs' : List V} {v : V} (hx : opd L x = some (.ptr (s.next + k) off)) (hy : opd L y = some v) (hv : nthO xs k = some (.var cs)) (hT : tt.get T = some t)
    (hc : cellsO v = some vs) (ho : onesO vs = true) (hn : Nat.beq vs.length t.size = true) (hsp : splO cs off vs = some cs') (hset : setO xs k (.var cs') = some ys)
    (hk : LOps P N ops l K L (s.ext ys)) : LOps P N ops (⟨none, .store T x y, ty, p, a, none⟩ :: l) K L (s.ext xs) := by
  refine .stN (v := .und) (fun σ hσ => ?_) hk
  obtain ⟨h1, h2⟩ := splO_eq hsp
  have h3 : vs.length = t.size := Nat.eq_of_beq_eq_true hn
  simp only [vop, opd_eq hσ hx, opd_eq hσ hy, vstore, ht.get hT, own_vars hv, cellsO_eq hc, Option.bind_some]
  rw [if_pos ⟨h3, by omega, onesO_eq ho⟩, Option.map_some, ext_setVar _ _ _ _ (by rw [nthO_eq hv]; rfl), setO_eq hset, h1]

theorem LOps.loadO (ht : tt.ok P) {T : TypeId} {t : Ty} {x : Operand} {k off : Nat} {cs : List V} {v : V} (hx : opd L x = some (.ptr k off)) (hlt : k < s.next) (hv : s.vars k = some cs) (hT : tt.get T = some t)
    (hr : takeO cs off t.size t.agg = some v) (hk : LOps P N ops l K ((d, v) :: L) (s.ext xs)) : LOps P N ops (⟨some d, .load T x, ty, p, a, none⟩ :: l) K L (s.ext xs) :=
  .st (fun σ hσ => by simp only [vop, opd_eq hσ hx, vload, ht.get hT, ext_vars_lt _ _ hlt, hv, takeO_eq hr, Option.bind_some, Option.map_some]) hk

theorem LOps.storeO (ht : tt.ok P) {T : TypeId} {t : Ty} {x y : Operand} {k off : Nat} {cs vs cs' : List V} {v : V} (hx : opd L x = some (.ptr k off)) (hy : opd L y = some v) (hlt : k < s.next) (hv : s.vars k = some cs) (hT : tt.get T = some t)
    (hc : cellsO v = some vs) (ho : onesO vs = true) (hn : Nat.beq vs.length t.size = true) (hsp : splO cs off vs = some cs')
    (hk : LOps P N ops l K L ((s.setVar k cs').ext xs)) : LOps P N ops (⟨none, .store T x y, ty, p, a, none⟩ :: l) K L (s.ext xs) := by
  refine .stN (v := .und) (fun σ hσ => ?_) hk
  obtain ⟨h1, h2⟩ := splO_eq hsp
  have h3 : vs.length = t.size := Nat.eq_of_beq_eq_true hn
  simp only [vop, opd_eq hσ hx, opd_eq hσ hy, vstore, ht.get hT, ext_vars_lt _ _ hlt, hv, cellsO_eq hc, Option.bind_some]
  rw [if_pos ⟨h3, by omega, onesO_eq ho⟩, Option.map_some, ext_setVar_lt _ _ hlt, h1]

/-! ### Slices -/
def seqO : Nat → List (Nat × V) → Option (List V)
  | _, [] => some []
  | k, (i, v) :: l => match Nat.beq i k with
    | true => (match seqO (k + 1) l with
      | some r => some (v :: r)
      | none => none)
    | false => none
/-- Elements of this size, each put together as a slice's are. -/
def elemO (t : Ty) : V → Bool
  | .agg cs => t.agg && Nat.beq cs.length t.size
  | .raw _ => false
  | v => !t.agg && v.one && Nat.beq t.size 1
def elemsO (t : Ty) : List V → Bool
  | [] => true
  | v :: l => match elemO t v with
    | true => elemsO t l
    | false => false
theorem elemO_eq {t : Ty} {v : V} (h : elemO t v = true) : v.cells.length = t.size ∧ v.fits t.agg = true := by
  cases v <;> simp_all [elemO, V.fits, V.cells, V.one]
theorem elemsO_eq {t : Ty} : ∀ {l : List V}, elemsO t l = true → ∀ v ∈ l, elemO t v = true
  | [], _, v, hv => by cases hv
  | u :: l, h, v, hv => by
    unfold elemsO at h
    split at h
    · rename_i e
      rcases List.mem_cons.1 hv with rfl | hv
      · exact e
      · exact elemsO_eq h v hv
    · cases h

theorem vfill_seq {sz n : Nat} {z : List V} (hz : z.length = sz) : ∀ {ps : List (Nat × V)} {us vs : List V}, seqO us.length ps = some vs → (∀ v ∈ us ++ vs, v.cells.length = sz) → us.length + vs.length ≤ n →
    vfill (fun i => some (i * sz, sz)) (filled z n us) ps = some (filled z n (us ++ vs))
  | [], us, vs, h, _, _ => by cases h; simp [vfill]
  | (i, v) :: ps, us, vs, h, hall, hn => by
    unfold seqO at h
    split at h
    case h_2 => cases h
    rename_i e
    split at h
    case h_2 => cases h
    rename_i r e2
    cases h
    have hi : i = us.length := Nat.eq_of_beq_eq_true e
    subst hi
    have hv : v.cells.length = sz := hall v (by simp)
    have hus : ∀ u ∈ us, u.cells.length = z.length := fun u hu => by rw [hz]; exact hall u (by simp [hu])
    simp only [List.length_cons] at hn
    have hfl := filled_length (n := n) hus (by omega)
    have hstep := filled_snoc (n := n) hus (by omega) (hv.trans hz.symm)
    rw [hz] at hstep hfl
    have hle : us.length * sz + sz ≤ (filled z n us).length := by
      rw [hfl, ← Nat.succ_mul]
      exact Nat.mul_le_mul_right _ (by omega)
    simp only [vfill, Option.bind_some]
    rw [if_pos ⟨hv, hle⟩, hstep]
    have := vfill_seq (n := n) hz (ps := ps) (us := us ++ [v]) (vs := r) (by simpa using e2) (by simpa using hall) (by simp; omega)
    simpa using this

theorem seqO_len : ∀ {k : Nat} {ps : List (Nat × V)} {vs : List V}, seqO k ps = some vs → vs.length = ps.length
  | _, [], vs, h => by cases h; rfl
  | k, (i, v) :: ps, vs, h => by
    unfold seqO at h
    split at h
    case h_2 => cases h
    split at h
    case h_2 => cases h
    rename_i r e2
    cases h
    simp [seqO_len e2]

theorem LOps.bsl0 (ht : tt.ok P) {T e : TypeId} {t te : Ty} {parts : Array (Nat × Operand)} (hp : parts.toList = []) (hT : tt.get T = some t) (hkd : t.kd = .slice e) (hte : tt.get e = some te) (hz : (Nat.beq te.zero.length te.size && Nat.blt 0 te.size) = true)
    (hk : LOps P N ops l K ((d, .zsl) :: L) (s.ext xs)) : LOps P N ops (⟨some d, .buildSlice T 0 parts, ty, p, a, none⟩ :: l) K L (s.ext xs) := by
  simp only [Bool.and_eq_true] at hz
  refine .st (fun σ hσ => ?_) hk
  simp only [vop, hp, vparts, vbuildSlice, ht.get hT, hkd, ht.get hte, Option.bind_some]
  rw [if_pos ⟨Nat.eq_of_beq_eq_true hz.1, by simpa using hz.2, by omega⟩]
  simp [vfill]

theorem LOps.bsl (ht : tt.ok P) {T e : TypeId} {t te : Ty} {m n : Nat} {parts : Array (Nat × Operand)} {ps : List (Nat × V)} {vs : List V} (hp : opdP L parts.toList = some ps) (hT : tt.get T = some t) (hkd : t.kd = .slice e) (hte : tt.get e = some te)
    (hz : (Nat.beq te.zero.length te.size && Nat.blt 0 te.size && Nat.ble (m * te.size) 16777216) = true) (hsq : seqO 0 ps = some vs) (hlen : Nat.beq vs.length m = true) (hm : Nat.beq m 0 = false) (hel : elemsO te vs = true)
    (hl : lenO xs = some n) (hs : snocO xs (.fam m te.size) = some ys)
    (hk : LOps P N ops l K ((d, .sl (s.next + n) vs) :: L) (s.ext ys)) : LOps P N ops (⟨some d, .buildSlice T m parts, ty, p, a, none⟩ :: l) K L (s.ext xs) := by
  simp only [Bool.and_eq_true] at hz
  have hm' : vs.length = m := Nat.eq_of_beq_eq_true hlen
  have h0 : ¬ m = 0 := fun e => by rw [e] at hm; cases hm
  have hz1 : te.zero.length = te.size := Nat.eq_of_beq_eq_true hz.1.1
  have hz2 : 0 < te.size := by simpa using hz.1.2
  have hz3 : m * te.size ≤ 16777216 := Nat.le_of_ble_eq_true hz.2
  have hc : ∀ v ∈ vs, v.cells.length = te.size := fun v hv => (elemO_eq (elemsO_eq hel v hv)).1
  have hf : ∀ v ∈ vs, v.fits te.agg = true := fun v hv => (elemO_eq (elemsO_eq hel v hv)).2
  have hfill := vfill_seq (n := m) hz1 (us := []) (by simpa using hsq) (by simpa using hc) (by simp; omega)
  rw [List.nil_append, filled_full hm', filled_nil] at hfill
  have hsz1 : te.agg = false → te.size = 1 := fun hag => by
    cases vs with
    | nil => exact absurd hm'.symm h0
    | cons v r =>
      have h1 := elemsO_eq hel v (by simp)
      cases v <;> simp_all [elemO]
  refine .st (fun σ hσ => ?_) hk
  simp only [vop, opdP_eq hσ hp, vbuildSlice, ht.get hT, hkd, ht.get hte, Option.bind_some]
  rw [if_pos ⟨hz1, hz2, hz3⟩, hfill]
  simp only [Option.bind_some]
  have hck := chunk_flat hz2 hc hf
  rw [hm'] at hck
  rw [if_neg h0, if_pos (chunkOk_flat hf hsz1), hck, ext_newFam, snocO_eq hs, ext_next, lenO_eq hl]

/-- What may be read out of an appended slice. -/
def spreadO : V → Option (List V)
  | .sl _ ys => some ys
  | .zsl => some []
  | .nilsl => some []
  | _ => none
theorem spreadO_eq {te : Ty} {v : V} {us : List V} {s : S} (h : spreadO v = some us) : elemsOf te v s = some us := by
  cases v <;> first | cases h; rfl | cases h

def appCall (x y : Operand) (A : Array TypeId) : Op := .call ⟨.builtin .append, #[x, y], A⟩

theorem elemsO_all {te : Ty} {us : List V} (h : elemsO te us = true) : (us.all fun y => decide (y.cells.length = te.size) && y.cells.all V.one) = true ∨ te.agg = true := by
  cases hag : te.agg
  · left
    rw [List.all_eq_true]
    intro v hv
    have h1 := elemsO_eq h v hv
    cases v <;> simp_all [elemO, V.cells]
  · exact .inr rfl

def Elems (te : Ty) (us : List V) : Prop := (us.all fun y => decide (y.cells.length = te.size) && y.cells.all V.one) = true
def elemsA (te : Ty) : List V → Bool
  | [] => true
  | v :: l => match cellsO v with
    | some cs => match Nat.beq cs.length te.size && onesO cs with
      | true => elemsA te l
      | false => false
    | none => false
theorem Elems.of {te : Ty} : ∀ {us : List V}, elemsA te us = true → Elems te us
  | [], _ => rfl
  | v :: l, h => by
    unfold elemsA at h
    split at h
    case h_2 => cases h
    rename_i cs e
    split at h
    case h_2 => cases h
    rename_i e2
    simp only [Bool.and_eq_true] at e2
    have := Elems.of h
    unfold Elems at this ⊢
    rw [List.all_cons, this, cellsO_eq e, onesO_eq e2.2]
    simp [Nat.eq_of_beq_eq_true e2.1]
theorem Elems.map {α : Type} {te : Ty} {f : α → V} {us : List α} (h : ∀ x, elemsA te [f x] = true) : Elems te (us.map f) := by
  unfold Elems
  rw [List.all_map, List.all_eq_true]
  intro x _
  have := Elems.of (h x)
  unfold Elems at this
  simpa using this

/-- The bound of an append. -/
def AppB (n bytes : Nat) : Prop := n * bytes ≤ 140737488355328 ∧ n ≤ 140737488355328
theorem AppB.of {n b : Nat} (h : n ≤ 1099511627776) (hb : Nat.ble b 128 = true) : AppB n b := by
  have hb := Nat.le_of_ble_eq_true hb
  refine ⟨Nat.le_trans (Nat.mul_le_mul h hb) (by omega), by omega⟩

theorem LOps.app (ht : tt.ok P) {T U e : TypeId} {t te : Ty} {x y : Operand} {k n m : Nat} {us vs : List V} {w : V} (hx : opd L x = some (.sl (s.next + k) us)) (hy : opd L y = some w) (hw : spreadO w = some vs)
    (hT : tt.get T = some t) (hkd : t.kd = .slice e) (hte : tt.get e = some te) (hz : (Nat.beq te.zero.length te.size && Nat.blt 0 te.size) = true) (hf : nthO xs k = some (.fam n m)) (hm : Nat.beq m te.size = true)
    (hset : setO xs k (.fam (us.length + vs.length) te.size) = some ys) (hU : Nat.beq U T = true) (hn : n = us.length) (hall : Elems te vs) (hb : AppB (us.length + vs.length) te.bytes)
    (hk : LOps P N ops l K ((d, .sl (s.next + k) (us ++ vs)) :: L) (s.ext ys)) : LOps P N ops (⟨some d, appCall x y #[T, U], ty, p, a, none⟩ :: l) K L (s.ext xs) := by
  simp only [Bool.and_eq_true] at hz
  have hU' := Nat.eq_of_beq_eq_true hU
  subst hU'
  subst hn
  have hm' := Nat.eq_of_beq_eq_true hm
  refine .st (fun σ hσ => ?_) hk
  simp only [appCall, vop, vevL, opd_eq hσ hx, opd_eq hσ hy, vbuiltin, vappend, ht.get hT, hkd, ht.get hte, spreadO_eq hw, Option.bind_some, Option.map_some, if_true]
  rw [if_pos ⟨Nat.eq_of_beq_eq_true hz.1, by simpa using hz.2, hall⟩, ext_fams, nthO_eq hf]
  simp only [Own.fam?, Option.bind_some]
  rw [if_pos ⟨trivial, hm', hb.1, hb.2⟩, ext_setFam _ _ _ _ _ (by rw [nthO_eq hf]; rfl), setO_eq hset]

def nilO : V → Bool
  | .zsl => true
  | .nilsl => true
  | _ => false

theorem LOps.app0 (ht : tt.ok P) {T U e : TypeId} {t te : Ty} {x y : Operand} {n : Nat} {vs : List V} {u w : V} (hx : opd L x = some u) (hu : nilO u = true) (hy : opd L y = some w) (hw : spreadO w = some vs)
    (hT : tt.get T = some t) (hkd : t.kd = .slice e) (hte : tt.get e = some te) (hz : (Nat.beq te.zero.length te.size && Nat.blt 0 te.size) = true) (hl : lenO xs = some n)
    (hs : snocO xs (.fam vs.length te.size) = some ys) (hU : Nat.beq U T = true) (hall : Elems te vs) (hb : AppB vs.length te.bytes)
    (hk : LOps P N ops l K ((d, .sl (s.next + n) vs) :: L) (s.ext ys)) : LOps P N ops (⟨some d, appCall x y #[T, U], ty, p, a, none⟩ :: l) K L (s.ext xs) := by
  simp only [Bool.and_eq_true] at hz
  have hU' := Nat.eq_of_beq_eq_true hU
  subst hU'
  refine .st (fun σ hσ => ?_) hk
  simp only [appCall, vop, vevL, opd_eq hσ hx, opd_eq hσ hy, vbuiltin, vappend, ht.get hT, hkd, ht.get hte, spreadO_eq hw, Option.bind_some, Option.map_some, if_true]
  rw [if_pos ⟨Nat.eq_of_beq_eq_true hz.1, by simpa using hz.2, hall⟩]
  have hk : u = .zsl ∨ u = .nilsl := by
    unfold nilO at hu
    split at hu
    · exact .inl rfl
    · exact .inr rfl
    · cases hu
  rcases hk with rfl | rfl
  all_goals
    simp only
    rw [if_pos ⟨hb.1, hb.2⟩, ext_newFam, snocO_eq hs, ext_next, lenO_eq hl]

theorem LOps.make (ht : tt.ok P) {T e : TypeId} {t te : Ty} {x y : Operand} {k k' : IntKind} {n m : Nat} (hx : opd L x = some (.int k (m : Int))) (hy : opd L y = some (.int k' (m : Int))) (hT : tt.get T = some t) (hkd : t.kd = .slice e) (hte : tt.get e = some te)
    (hz : (Nat.beq te.zero.length te.size && Nat.blt 0 te.size) = true) (hl : lenO xs = some n) (hs : snocO xs (.var (List.replicate m te.zero).flatten) = some ys) (hb : AppB m te.bytes)
    (hk : LOps P N ops l K ((d, .slm true (s.next + n) 0 m) :: L) (s.ext ys)) : LOps P N ops (⟨some d, .makeSlice T x y, ty, p, a, none⟩ :: l) K L (s.ext xs) := by
  simp only [Bool.and_eq_true] at hz
  refine .st (fun σ hσ => ?_) hk
  have h1 := hb.1
  have h2 := hb.2
  have h3 : (te.bytes : Int) * (m : Int) ≤ 140737488355328 := by rw [Int.mul_comm, ← Int.natCast_mul]; omega
  simp only [vop, opd_eq hσ hx, opd_eq hσ hy, vmake, ht.get hT, hkd, ht.get hte, Option.bind_some]
  rw [if_pos ⟨Nat.eq_of_beq_eq_true hz.1, by simpa using hz.2, by omega, by omega, by omega, h3⟩]
  rw [if_pos trivial, Int.toNat_natCast, ext_newVar, ext_next, lenO_eq hl, snocO_eq hs]

theorem LOps.idx (ht : tt.ok P) {T e : TypeId} {t te : Ty} {x i : Operand} {id j : Nat} {k : IntKind} {us : List V} {y : V} {cs : List V} (hx : opd L x = some (.sl id us)) (hi : opd L i = some (.int k (j : Int))) (hT : tt.get T = some t) (hkd : t.kd = .slice e)
    (hte : tt.get e = some te) (hj : us[j]? = some y) (hc : cellsO y = some cs) (hn : Nat.beq cs.length te.size = true)
    (hk : LOps P N ops l K ((d, .eptr cs 0) :: L) s) : LOps P N ops (⟨some d, .indexAddr T x i, ty, p, a, none⟩ :: l) K L s := by
  refine .st (fun σ hσ => ?_) hk
  simp only [vop, opd_eq hσ hx, opd_eq hσ hi, vindexAddr, ht.get hT, hkd, ht.get hte, Option.bind_some]
  rw [if_pos (Int.natCast_nonneg j), Int.toNat_natCast, hj]
  simp only [Option.bind_some, cellsO_eq hc, Nat.eq_of_beq_eq_true hn, if_true, Option.map_some]

theorem LOps.idxZ (ht : tt.ok P) {T e : TypeId} {t te : Ty} {x i : Operand} {id : Nat} {n : Int} {k : IntKind} {us : List V} {y : V} {cs : List V} (hx : opd L x = some (.sl id us)) (hi : opd L i = some (.int k n)) (hT : tt.get T = some t) (hkd : t.kd = .slice e)
    (hte : tt.get e = some te) (h0 : 0 ≤ n) (hj : us[n.toNat]? = some y) (hc : cellsO y = some cs) (hn : Nat.beq cs.length te.size = true)
    (hk : LOps P N ops l K ((d, .eptr cs 0) :: L) s) : LOps P N ops (⟨some d, .indexAddr T x i, ty, p, a, none⟩ :: l) K L s := by
  refine .st (fun σ hσ => ?_) hk
  simp only [vop, opd_eq hσ hx, opd_eq hσ hi, vindexAddr, ht.get hT, hkd, ht.get hte, Option.bind_some]
  rw [if_pos h0, hj]
  simp only [Option.bind_some, cellsO_eq hc, Nat.eq_of_beq_eq_true hn, if_true, Option.map_some]

theorem LOps.idxM (ht : tt.ok P) {T e : TypeId} {t te : Ty} {x i : Operand} {ex : Bool} {b off len j : Nat} {k : IntKind} (hx : opd L x = some (.slm ex b off len)) (hi : opd L i = some (.int k (j : Int))) (hT : tt.get T = some t) (hkd : t.kd = .slice e)
    (hte : tt.get e = some te) (hj : j < len)
    (hk : LOps P N ops l K ((d, .ptr b (off + j * te.size)) :: L) s) : LOps P N ops (⟨some d, .indexAddr T x i, ty, p, a, none⟩ :: l) K L s := by
  refine .st (fun σ hσ => ?_) hk
  simp only [vop, opd_eq hσ hx, opd_eq hσ hi, vindexAddr, ht.get hT, hkd, ht.get hte, Option.bind_some]
  rw [if_pos ⟨Int.natCast_nonneg j, by omega⟩, Int.toNat_natCast]
  rfl

theorem LOps.sidx (ht : tt.ok P) {T : TypeId} {t : Ty} {x i : Operand} {j : Nat} {k : IntKind} {u : List UInt8} {b : UInt8} (hx : opd L x = some (.str u)) (hi : opd L i = some (.int k (j : Int))) (hT : tt.get T = some t) (hkd : t.kd = .string) (hj : u[j]? = some b)
    (hk : LOps P N ops l K ((d, .int .u8 b.toNat) :: L) s) : LOps P N ops (⟨some d, .index T x i, ty, p, a, none⟩ :: l) K L s := by
  refine .st (fun σ hσ => ?_) hk
  simp only [vop, opd_eq hσ hx, opd_eq hσ hi, vindex, ht.get hT, hkd, Option.bind_some]
  rw [if_pos (Int.natCast_nonneg j), Int.toNat_natCast, hj]
  rfl

def opdO (L : Kn) : Option Operand → Option (Option V)
  | none => some none
  | some x => match opd L x with
    | some v => some (some v)
    | none => none
theorem opdO_eq {L : Kn} {σ : Fr} (ha : At L σ) {x : Option Operand} {v : Option V} (h : opdO L x = some v) : vevO σ x = some v := by
  cases x with
  | none => exact h
  | some x =>
    unfold opdO at h
    cases he : opd L x with
    | none => simp only [he] at h; cases h
    | some u => simp only [he] at h; simp only [vevO, opd_eq ha he, Option.map_some]; exact h
theorem LOps.slc {T : TypeId} {x : Operand} {lo hi mx : Option Operand} {xv v : V} {lo' hi' mx' : Option V} (hx : opd L x = some xv) (h1 : opdO L lo = some lo') (h2 : opdO L hi = some hi') (h3 : opdO L mx = some mx') (hv : vslice P T xv lo' hi' mx' = some v)
    (hk : LOps P N ops l K ((d, v) :: L) s) : LOps P N ops (⟨some d, .slice T x lo hi mx, ty, p, a, none⟩ :: l) K L s :=
  .st (fun σ hσ => by simp only [vop, opd_eq hσ hx, opdO_eq hσ h1, opdO_eq hσ h2, opdO_eq hσ h3, hv, Option.bind_some, Option.map_some]) hk

theorem LOps.cat {T U : TypeId} {x y : Operand} {u w : List UInt8} (hx : opd L x = some (.str u)) (hy : opd L y = some (.str w)) (hb : u.length + w.length ≤ maxLen)
    (hk : LOps P N ops l K ((d, .str (u ++ w)) :: L) s) : LOps P N ops (⟨some d, .binOp .add T x y U, ty, p, a, none⟩ :: l) K L s :=
  .st (fun σ hσ => by simp only [vop, opd_eq hσ hx, opd_eq hσ hy, vbin, vstrOp, Option.bind_some]; rw [if_pos hb]; rfl) hk

/-- An operation that none of the rules takes. -/
theorem LOps.gen {op : Op} {v : V} {s' : S} (hv : ∀ σ, At L σ → vop P ⟨some d, op, ty, p, a, none⟩ σ s = some (v, s')) (hk : LOps P N ops l K ((d, v) :: L) s') : LOps P N ops (⟨some d, op, ty, p, a, none⟩ :: l) K L s := .st hv hk

/-! ### Calls -/
theorem LOps.call {f : Operand} {g : FuncId} {args : Array Operand} {A : Array TypeId} {caps vs ws : List V} {R : V → S → Prop} (hf : opd L f = some (.fn g caps)) (ha : opdL L args.toList = some vs) (hap : appO vs caps = some ws) (hok : CallOk P g)
    (hc : VCalls P g ws s R) (hk : ∀ v s', R v s' → LOps P N ops l K ((d, v) :: L) s') : LOps P N ops (⟨some d, .call ⟨.value f, args, A⟩, ty, p, a, none⟩ :: l) K L s := by
  refine ⟨fun hd σ hσ => ?_⟩
  simp only [List.all_cons, Bool.and_eq_true] at hd
  refine ⟨hd.1, ?_⟩
  simp only [vwanted, VOp, opd_eq hσ hf, opdL_eq hσ ha, VCall]
  refine ⟨hok.h, ?_⟩
  rw [← appO_eq hap]
  exact hc.mono fun v s' hr => (hk v s' hr).run hd.2 _ (hσ.cons d v)

theorem LOps.callP {f : Operand} {g : FuncId} {args : Array Operand} {A : Array TypeId} {caps vs ws : List V} {v : V} (hf : opd L f = some (.fn g caps)) (ha : opdL L args.toList = some vs) (hap : appO vs caps = some ws) (hok : CallOk P g)
    (hc : VCalls P g ws s (fun r s' => r = v ∧ s' = s)) (hk : LOps P N ops l K ((d, v) :: L) s) : LOps P N ops (⟨some d, .call ⟨.value f, args, A⟩, ty, p, a, none⟩ :: l) K L s :=
  .call hf ha hap hok hc fun _ _ ⟨h1, h2⟩ => by subst h1; subst h2; exact hk

/-- Its arguments' slices taken for ones that are not to be appended to. -/
theorem LOps.callF {f : Operand} {g : FuncId} {args : Array Operand} {A : Array TypeId} {caps vs ws us : List V} {v : V} (hf : opd L f = some (.fn g caps)) (ha : opdL L args.toList = some vs) (hap : appO vs caps = some ws) (hok : CallOk P g)
    (hus : ws.map V.forget = us) (hc : VCalls P g us s (fun r s' => r = v ∧ s' = s)) (hk : LOps P N ops l K ((d, v) :: L) s) : LOps P N ops (⟨some d, .call ⟨.value f, args, A⟩, ty, p, a, none⟩ :: l) K L s :=
  .callP hf ha hap hok (VCalls.forget (by rw [hus]; exact hc)) hk

/-! ### Functions -/
def argL : Nat → List V → Kn
  | _, [] => []
  | k, v :: vs => (k, v) :: argL (k + 1) vs
theorem argL_lk : ∀ (args : List V) (k x : Nat) (v : V), lk (argL k args) x = some v → k ≤ x ∧ args[x - k]? = some v
  | [], k, x, v, h => by cases h
  | u :: args, k, x, v, h => by
    unfold argL lk at h
    split at h
    · rename_i e
      cases h
      have := Nat.eq_of_beq_eq_true e
      subst this
      simp
    · rename_i e
      obtain ⟨h1, h2⟩ := argL_lk args (k + 1) x v h
      refine ⟨by omega, ?_⟩
      rw [show x - k = (x - (k + 1)) + 1 by omega]
      simpa using h2
theorem At.args (args : List V) : At (argL 0 args) (argsFr args) := by
  intro x v h
  have := (argL_lk args 0 x v h).2
  simp only [Nat.sub_zero] at this
  simp [argsFr, List.getD_eq_getElem?_getD, this]

def LPostD (P : Program) (rs : List ResultVar) (R : V → S → Prop) : Exit → Kn → S → Prop
  | .normal, L, s | .ret, L, s => ∃ vs, (∀ σ, At L σ → vresL P σ s rs = some vs) ∧ R (oneOf vs) s
  | _, _, _ => False
structure LPost (P : Program) (rs : List ResultVar) (R : V → S → Prop) (e : Exit) (L : Kn) (s : S) : Prop where
  h : LPostD P rs R e L s

theorem LCalls.body {f : FuncId} {fn : Func} {c : Code} {args : List V} {R : V → S → Prop} (hf : P.funcs[f]? = some fn) (hb : fn.body = some c) (hn : Nat.ble args.length fn.ntmps = true)
    (h : WL P fn.ntmps c (LPost P fn.results.toList R) (argL 0 args) (s.ext [])) : VCalls P f args s R := by
  refine VCalls.bodyE hf hb (Nat.le_of_ble_eq_true hn) (VWp.mono (h.run _ (At.args args)) ?_)
  rintro e σ' s' ⟨L', hat, ⟨hq⟩⟩
  cases e with
  | normal => obtain ⟨vs, h1, h2⟩ := hq; simp only [VPost, h1 σ' hat]; exact h2
  | ret => obtain ⟨vs, h1, h2⟩ := hq; simp only [VPost, h1 σ' hat]; exact h2
  | _ => exact hq.elim

def PureR (s : S) (d : V) (v : V) (s' : S) : Prop := v.forget = d ∧ ∃ xs, s' = s.ext xs
theorem PureR.mk {s : S} {d v : V} {xs : List Own} (h : v.forget = d) : PureR s d v (s.ext xs) := ⟨h, xs, rfl⟩

theorem LCalls.pure {f : FuncId} {fn : Func} {c : Code} {args : List V} {d : V} (hf : P.funcs[f]? = some fn) (hb : fn.body = some c) (hn : Nat.ble args.length fn.ntmps = true) (hd : d.dat = true)
    (h : WL P fn.ntmps c (LPost P fn.results.toList (PureR s d)) (argL 0 args) (s.ext [])) : VCalls P f args s (fun v s' => v = d ∧ s' = s) := by
  refine VCalls.pureE hf hb (Nat.le_of_ble_eq_true hn) hd (VWp.mono (h.run _ (At.args args)) ?_)
  rintro e σ' s' ⟨L', hat, ⟨hq⟩⟩
  cases e with
  | normal => obtain ⟨vs, h1, h2⟩ := hq; simp only [VPost, h1 σ' hat]; exact h2
  | ret => obtain ⟨vs, h1, h2⟩ := hq; simp only [VPost, h1 σ' hat]; exact h2
  | _ => exact hq.elim

def Res1 (P : Program) (r : ResultVar) (L : Kn) (s : S) (v : V) : Prop := ∀ σ, At L σ → vres1 P σ s r = some v
theorem Res1.tmp {t : Nat} {v : V} (h : lk L t = some v) : Res1 P (.tmp t) L s v := fun σ hσ => by simp [vres1, hσ t v h]
theorem Res1.cell (ht : tt.ok P) {x : Nat} {T : TypeId} {t : Ty} {k off : Nat} {cs : List V} {v : V} (hx : lk L x = some (.ptr (s.next + k) off)) (hv : nthO xs k = some (.var cs)) (hT : tt.get T = some t) (hr : takeO cs off t.size t.agg = some v) :
    Res1 P (.cell x T) L (s.ext xs) v := fun σ hσ => by simp only [vres1, hσ x _ hx, vload, ht.get hT, own_vars hv, takeO_eq hr, Option.bind_some]
theorem LPost.r0 {R : V → S → Prop} {e : Exit} (he : e = .ret ∨ e = .normal) (h : R (.tup []) s) : LPost P [] R e L s := by
  rcases he with rfl | rfl <;> exact ⟨⟨[], fun _ _ => rfl, h⟩⟩
theorem LPost.r1 {R : V → S → Prop} {r : ResultVar} {v : V} {e : Exit} (he : e = .ret ∨ e = .normal) (h1 : Res1 P r L s v) (h : R v s) : LPost P [r] R e L s := by
  rcases he with rfl | rfl <;> exact ⟨⟨[v], fun σ hσ => by simp [vresL, h1 σ hσ, -vres1], h⟩⟩
theorem LPost.r2 {R : V → S → Prop} {r r' : ResultVar} {v v' : V} {e : Exit} (he : e = .ret ∨ e = .normal) (h1 : Res1 P r L s v) (h2 : Res1 P r' L s v') (h : R (.tup [v, v']) s) : LPost P [r, r'] R e L s := by
  rcases he with rfl | rfl <;> exact ⟨⟨[v, v'], fun σ hσ => by simp [vresL, h1 σ hσ, h2 σ hσ, -vres1], h⟩⟩
theorem LPost.r3 {R : V → S → Prop} {r r' r'' : ResultVar} {v v' v'' : V} {e : Exit} (he : e = .ret ∨ e = .normal) (h1 : Res1 P r L s v) (h2 : Res1 P r' L s v') (h3 : Res1 P r'' L s v'') (h : R (.tup [v, v', v'']) s) : LPost P [r, r', r''] R e L s := by
  rcases he with rfl | rfl <;> exact ⟨⟨[v, v', v''], fun σ hσ => by simp [vresL, h1 σ hσ, h2 σ hσ, h3 σ hσ, -vres1], h⟩⟩

/-! ### Loops -/
def lbackO {α : Type} (M : α → Nat) (LI : α → Kn) (SI : α → S) (I : α → Prop) (x : α) (Q : Exit → Kn → S → Prop) : Exit → Kn → S → Prop
  | .normal, L', s' => ∃ y, I y ∧ M y < M x ∧ SubL (LI y) L' ∧ s' = SI y
  | e, L', s' => Q e L' s'
structure lback {α : Type} (M : α → Nat) (LI : α → Kn) (SI : α → S) (I : α → Prop) (x : α) (Q : Exit → Kn → S → Prop) (e : Exit) (L : Kn) (s : S) : Prop where
  h : lbackO M LI SI I x Q e L s

/-- A loop whose rounds leave nothing of their own. -/
theorem WL.loop0 {α : Type} {c : Code} {Q : Exit → Kn → S → Prop} (M : α → Nat) (LI : α → Kn) (SI : α → S) (I : α → Prop) (x0 : α) (h0 : I x0) (hL : SubL (LI x0) L) (hs : s = SI x0)
    (round : ∀ x, I x → WL P N c (lback M LI SI I x Q) (LI x) (SI x)) : WL P N (.loop c) Q L s := by
  refine ⟨fun σ hσ => VWp.loop (fun n σ s => ∃ x, M x = n ∧ I x ∧ At (LI x) σ ∧ s = SI x) (M x0) ⟨x0, rfl, h0, hL.at hσ, hs⟩ ?_⟩
  rintro n σ s ⟨x, rfl, hI, hat, rfl⟩
  refine ((round x hI).run σ hat).mono ?_
  rintro e σ' s' ⟨L', hat', ⟨q⟩⟩
  cases e with
  | normal =>
    obtain ⟨y, hy, hlt, hsub, rfl⟩ := q
    exact ⟨M y, hlt, y, rfl, hy, hsub.at hat', rfl⟩
  | _ => exact ⟨L', hat', q⟩

/-- What was made since is forgotten: state and world. -/
theorem dropExt {E0 E1 : Env} {s0 s : S} {xs ys : List Own} (h1 : RelS E0 s0) (hn : s0.next = s.next + xs.length) (k : RelS E1 (s.ext (xs ++ ys))) (st : Step E0 s0 E1 (s.ext (xs ++ ys)))
    (hun : ∀ l cs, (s.ext xs).vars l = some cs → s0.vars l = some cs ∨ cs.all (V.under (s.next + xs.length)) = true) :
    ∃ E', E'.w = E1.w ∧ RelS E' (s.ext xs) ∧ Step E0 s0 E' (s.ext xs) ∧ ∀ v val, v.under (s.next + xs.length) = true → RepV E1 v val → RepV E' v val := by
  let n := s.next + xs.length
  let E' : Env := { w := E1.w, imm := E1.imm, loc := fun l => if l < n then E1.loc l else none, fam := fun l => if l < n then E1.fam l else none }
  have hloc : ∀ l, l < n → E'.loc l = E1.loc l := fun l hl => by show (if l < n then E1.loc l else none) = _; rw [if_pos hl]
  have hfam : ∀ l, l < n → E'.fam l = E1.fam l := fun l hl => by show (if l < n then E1.fam l else none) = _; rw [if_pos hl]
  have hlt2 : ∀ l g, E0.loc l = some g → l < n := fun l g hl => by
    rcases Nat.lt_or_ge l n with h | h
    · exact h
    · rw [(h1.fresh l (by omega)).1] at hl; cases hl
  have hltf2 : ∀ l F, E0.fam l = some F → l < n := fun l g hl => by
    rcases Nat.lt_or_ge l n with h | h
    · exact h
    · rw [(h1.fresh l (by omega)).2] at hl; cases hl
  have ev : Evolve E0 E' := ⟨st.ev.imm, st.ev.cell, fun l g hl => (hloc l (hlt2 l g hl)).trans (st.ev.loc l g hl), fun id F hF => by rw [hfam id (hltf2 id F hF)]; exact st.ev.fam id F hF⟩
  have hvars : ∀ l cs, (s.ext xs).vars l = some cs → l < n ∧ (s.ext (xs ++ ys)).vars l = some cs := by
    intro l cs hl
    simp only [S.ext] at hl ⊢
    by_cases e : l < s.next
    · rw [if_pos e] at hl ⊢
      exact ⟨by omega, hl⟩
    · rw [if_neg e] at hl ⊢
      have hlt : l - s.next < xs.length := by
        rcases Nat.lt_or_ge (l - s.next) xs.length with h | h
        · exact h
        · rw [List.getElem?_eq_none h] at hl; cases hl
      refine ⟨by omega, ?_⟩
      rw [List.getElem?_append_left hlt]; exact hl
  have hfams : ∀ l q, (s.ext xs).fams l = some q → l < n ∧ (s.ext (xs ++ ys)).fams l = some q := by
    intro l q hl
    simp only [S.ext] at hl ⊢
    by_cases e : l < s.next
    · rw [if_pos e] at hl ⊢
      exact ⟨by omega, hl⟩
    · rw [if_neg e] at hl ⊢
      have hlt : l - s.next < xs.length := by
        rcases Nat.lt_or_ge (l - s.next) xs.length with h | h
        · exact h
        · rw [List.getElem?_eq_none h] at hl; cases hl
      refine ⟨by omega, ?_⟩
      rw [List.getElem?_append_left hlt]; exact hl
  have hvs : ∀ l, ((s.ext xs).vars l).isSome = true → l < n ∧ ((s.ext (xs ++ ys)).vars l).isSome = true := fun l hl => by
    obtain ⟨cs, hcs⟩ := Option.isSome_iff_exists.1 hl
    obtain ⟨a, b⟩ := hvars l cs hcs
    exact ⟨a, by rw [b]; rfl⟩
  have hfs : ∀ l, ((s.ext xs).fams l).isSome = true → l < n ∧ ((s.ext (xs ++ ys)).fams l).isSome = true := fun l hl => by
    obtain ⟨cs, hcs⟩ := Option.isSome_iff_exists.1 hl
    obtain ⟨a, b⟩ := hfams l cs hcs
    exact ⟨a, by rw [b]; rfl⟩
  have hposn : 0 < n := by have := h1.pos; omega
  refine ⟨E', rfl, ⟨fun l cs hl => ?_, fun l l' g hl hl' hg hg' => ?_, fun id m sz hid => ?_, fun id id' F F' g hid hid' hF hF' => ?_, fun l g id F hl hg hid hF => ?_, fun l hl => ?_, hposn, k.imm⟩,
    ⟨ev, st.os, st.tape, st.output, st.size, st.block, fun q hq ht => st.track q hq ?_, by rw [hn, ext_next]; exact Nat.le_refl _⟩,
    fun v val hu hr => RepV.restrict (E := E1) (E' := E') (n := n) rfl rfl hloc hfam hr hu⟩
  · obtain ⟨hl0, hl1⟩ := hvars l cs hl
    obtain ⟨g, arr, e, fr, m3, m4⟩ := k.var l cs hl1
    have hbel : cs.all (V.under n) = true := by
      rcases hun l cs hl with hs | hs
      · obtain ⟨g0, arr0, e0, fr0, m1, m2⟩ := h1.var l cs hs
        exact m2.rep.isBelow (n := n) (fun l hl => (h1.fresh l (by omega)).1) (fun l hl => (h1.fresh l (by omega)).2)
      · exact hs
    exact ⟨g, arr, e, fr, (hloc l hl0).trans m3, ⟨m4.heap, RepL.restrict (E := E1) (E' := E') rfl rfl hloc hfam m4.rep hbel, m4.le, m4.free, m4.imm⟩⟩
  · obtain ⟨a1, a2⟩ := hvs l hl
    obtain ⟨b1, b2⟩ := hvs l' hl'
    rw [hloc l a1] at hg
    rw [hloc l' b1] at hg'
    exact k.varinj l l' g a2 b2 hg hg'
  · obtain ⟨a1, a2⟩ := hfams id _ hid
    obtain ⟨h00, F, m1, m2⟩ := k.fam id m sz a2
    exact ⟨h00, F, (hfam id a1).trans m1, m2⟩
  · obtain ⟨a1, a2⟩ := hfs id hid
    obtain ⟨b1, b2⟩ := hfs id' hid'
    rw [hfam id a1] at hF
    rw [hfam id' b1] at hF'
    exact k.faminj id id' F F' g a2 b2 hF hF'
  · obtain ⟨a1, a2⟩ := hvs l hl
    obtain ⟨b1, b2⟩ := hfs id hid
    rw [hloc l a1] at hg
    rw [hfam id b1] at hF
    exact k.famvar l g id F a2 hg b2 hF
  · have hl' : ¬ l < n := Nat.not_lt.2 (by rw [ext_next] at hl; exact hl)
    exact ⟨by show (if l < n then E1.loc l else none) = none; rw [if_neg hl'], by show (if l < n then E1.fam l else none) = none; rw [if_neg hl']⟩
  · rcases ht with ⟨l, hl, hg⟩ | ⟨id, F, hl, hF, hg⟩
    · obtain ⟨a1, a2⟩ := hvs l hl
      rw [hloc l a1] at hg
      exact .inl ⟨l, a2, hg⟩
    · obtain ⟨a1, a2⟩ := hfs id hl
      rw [hfam id a1] at hF
      exact .inr ⟨id, F, a2, hF, hg⟩

def Own.under (n : Nat) : Own → Bool
  | .var cs => V.underL n cs
  | _ => true
def UnderK (n : Nat) (L : Kn) : Prop := L.all (fun kv => kv.2.under n) = true
def UnderX (n : Nat) (xs : List Own) : Prop := xs.all (Own.under n) = true

def lbackDO {α : Type} (M : α → Nat) (LI : α → Kn) (XI : α → List Own) (I : α → Prop) (s : S) (x : α) (Q : Exit → Kn → S → Prop) : Exit → Kn → S → Prop
  | .normal, L', s' => ∃ y zs, I y ∧ M y < M x ∧ SubL (LI y) L' ∧ s' = s.ext (XI y ++ zs)
  | e, L', s' => Q e L' s'
structure lbackD {α : Type} (M : α → Nat) (LI : α → Kn) (XI : α → List Own) (I : α → Prop) (s : S) (x : α) (Q : Exit → Kn → S → Prop) (e : Exit) (L : Kn) (s' : S) : Prop where
  h : lbackDO M LI XI I s x Q e L s'

theorem lk_all {L : Kn} {f : V → Bool} (h : L.all (fun kv => f kv.2) = true) {k : Nat} {v : V} (hv : lk L k = some v) : f v = true := by
  induction L with
  | nil => cases hv
  | cons x L ih =>
    obtain ⟨j, u⟩ := x
    simp only [List.all_cons, Bool.and_eq_true] at h
    unfold lk at hv
    split at hv
    · cases hv; exact h.1
    · exact ih h.2 hv

/-- A loop: what a round has made of its own is forgotten behind it. -/
theorem WL.loopD {α : Type} {c : Code} {Q : Exit → Kn → S → Prop} (M : α → Nat) (LI : α → Kn) (XI : α → List Own) (I : α → Prop) (m : Nat) (x0 : α) (h0 : I x0) (hm : ∀ x, (XI x).length = m) (hL : SubL (LI x0) L) (hs : xs = XI x0)
    (hu : ∀ x, I x → UnderK (s.next + m) (LI x) ∧ UnderX (s.next + m) (XI x))
    (round : ∀ x, I x → WL P N c (lbackD M LI XI I s x Q) (LI x) (s.ext (XI x))) : WL P N (.loop c) Q L (s.ext xs) := by
  subst hs
  refine ⟨fun σ hσ E act h1 h2 => ?_⟩
  refine wp_loop_ghost (fun n a w => ∃ x E1 σ1, M x = n ∧ I x ∧ E1.w = w ∧ RelS E1 (s.ext (XI x)) ∧ At (LI x) σ1 ∧ RepA E1 σ1 N a ∧ Step E (s.ext (XI x0)) E1 (s.ext (XI x))) (M x0) ⟨x0, E, σ, rfl, h0, rfl, h1, hL.at hσ, h2, .refl _ _⟩ ?_
  rintro n a1 w1 ⟨x, E1, σ1, rfl, hI, rfl, h3, hat, h4, h5⟩
  refine wp_mono ((round x hI).run σ1 hat E1 a1 h3 h4) ?_
  rintro e a' w' ⟨E', σ', s', rfl, ⟨L', hat', ⟨q⟩⟩, k3, k4, k5⟩
  cases e with
  | normal =>
    obtain ⟨y, zs, hIy, hlt, hsub, rfl⟩ := q
    obtain ⟨uK, uX⟩ := hu y hIy
    have hmy := hm y
    obtain ⟨E'', hw, r2, st2, rep2⟩ := dropExt (s := s) (xs := XI y) (ys := zs) h3 (by rw [ext_next, hm, hm]) k3 k5 (fun l cs hl => by
      simp only [S.ext] at hl ⊢
      by_cases e : l < s.next
      · rw [if_pos e] at hl ⊢; exact .inl hl
      · rw [if_neg e] at hl
        right
        cases hc : (XI y)[l - s.next]? with
        | none => rw [hc] at hl; cases hl
        | some o =>
          rw [hc] at hl
          cases o with
          | var cs' =>
            cases hl
            have := List.all_eq_true.1 uX (.var cs) (List.mem_of_getElem? hc)
            rw [hm, ← V.underL_eq]
            exact this
          | _ => cases hl)
    rw [hm] at rep2
    refine ⟨M y, hlt, y, E'', fun t => if (lk (LI y) t).isSome then σ' t else .raw (a'.tmps.getD t undef), rfl, hIy, hw, r2, fun t v hv => ?_, ⟨fun t => ?_, k4.size, k4.defers⟩, h5.trans st2⟩
    · simp only [hv, Option.isSome_some, if_true]
      exact hsub.at hat' t v hv
    · cases hlk : lk (LI y) t with
      | none => simp only [Option.isSome_none, Bool.false_eq_true, if_false]; exact .raw
      | some v =>
        simp only [Option.isSome_some, if_true]
        refine rep2 _ _ ?_ (k4.slot t)
        rw [hsub.at hat' t v hlk]
        exact lk_all (f := V.under (s.next + m)) uK hlk
  | _ => exact ⟨E', σ', s', rfl, ⟨L', hat', q⟩, k3, k4, h5.trans k5⟩

/-- A slice of nothing may be taken for one that may be appended to. -/
theorem WL.zfam {c : Code} {Q : Exit → Kn → S → Prop} {t n : Nat} {v : V} (sz : Nat) (hx : lk L t = some v) (hv : nilO v = true) (hl : lenO xs = some n) (hs : snocO xs (.fam 0 sz) = some ys) (h : WL P N c Q ((t, .sl (s.next + n) []) :: L) (s.ext ys)) :
    WL P N c Q L (s.ext xs) := by
  refine ⟨fun σ hσ E act h1 h2 => ?_⟩
  obtain ⟨st, r⟩ := step_emptyFam h1 sz
  have e1 : (s.ext xs).newFam 0 sz = s.ext ys := by rw [ext_newFam, snocO_eq hs]
  have e2 : (s.ext xs).next = s.next + n := by rw [ext_next, lenO_eq hl]
  rw [e1] at st r
  rw [e2] at st r
  have ha : RepA { E with fam := fun x => if x = s.next + n then some ⟨0, none, 0, sz⟩ else E.fam x } (put σ t (.sl (s.next + n) [])) N act := by
    have ha := h2.evolve st.ev
    refine ⟨fun u => ?_, h2.size, h2.defers⟩
    unfold put
    by_cases e : u = t
    · rw [if_pos e, e]
      have h3 := h2.slot t
      rw [hσ t v hx] at h3
      have hk : v = .zsl ∨ v = .nilsl := by
        unfold nilO at hv
        split at hv
        · exact .inl rfl
        · exact .inr rfl
        · cases hv
      have hf : FamOkZ { E with fam := fun x => if x = s.next + n then some ⟨0, none, 0, sz⟩ else E.fam x } (s.next + n) := .inr ⟨⟨0, none, 0, sz⟩, by simp, fun _ => rfl⟩
      rcases hk with rfl | rfl
      · generalize act.tmps.getD t undef = val at h3
        cases h3
        exact .slz hf
      · generalize act.tmps.getD t undef = val at h3
        cases h3
        exact .slz hf
    · rw [if_neg e]
      exact ha.slot u
  have hw := h.run _ (hσ.cons t _) { E with fam := fun x => if x = s.next + n then some ⟨0, none, 0, sz⟩ else E.fam x } act r ha
  exact wp_mono hw fun _ _ _ hz => After.trans st hz

theorem under_dat : ∀ {v : V} {n : Nat}, v.dat = true → v.under n = true := by
  intro v n
  refine V.rec (motive_1 := fun v => v.dat = true → v.under n = true) (motive_2 := fun vs => V.datL vs = true → V.underL n vs = true) ?_ ?_ ?_ ?_ ?_ ?_ ?_ ?_ ?_ ?_ ?_ ?_ ?_ ?_ ?_ ?_ ?_ v
  all_goals (intros; simp_all [V.dat, V.under, V.datL, V.underL])
theorem underL_dat {vs : List V} {n : Nat} (h : V.datL vs = true) : V.underL n vs = true := by
  rw [V.underL_eq, List.all_eq_true]
  intro v hv
  rw [V.datL_eq, List.all_eq_true] at h
  exact under_dat (h v hv)

end Go.Proofs.Ytejdgmdebfkkeaa
