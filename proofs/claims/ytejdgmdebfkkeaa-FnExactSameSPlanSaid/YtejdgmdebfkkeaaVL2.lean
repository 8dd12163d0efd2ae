/-
  The value level's logic with frames known at some slots: operations, regions, code. Own work; no condition.
-/
import Derived.Test.YtejdgmdebfkkeaaVL1
namespace Go.Proofs.Ytejdgmdebfkkeaa
open Go

theorem ev_eq {P : Program} {tt : BT} (ht : tt.ok P) {L : Kn} {σ : Fr} (ha : At L σ) {op : Op} {v : V} (h : ev tt L op = some v) (dst : Option Nat) (ty : TypeId) (p : String) (a : Array Edge) (g : Option (Nat × Bool)) (s : S) :
    vop P ⟨dst, op, ty, p, a, g⟩ σ s = some (v, s) := by
  unfold ev at h
  split at h
  case h_15 => cases h
  case h_1 => simp only [vop, opd_eq ha h, Option.map_some]
  case h_2 => simp only [vop, opd_eq ha h, Option.map_some]
  case h_3 =>
    split at h
    · rename_i e
      split at h
      case h_2 => cases h
      rename_i e2
      obtain ⟨u, hu⟩ := thereO_eq e2 σ
      simp only [vop, opd_eq ha e, opd_eq ha h, hu, Option.bind_some, if_true]
    · rename_i e
      split at h
      case h_2 => cases h
      rename_i e2
      obtain ⟨u, hu⟩ := thereO_eq e2 σ
      simp only [vop, opd_eq ha e, opd_eq ha h, hu, Option.bind_some]
      rfl
    · cases h
  case h_4 =>
    split at h
    case h_2 => cases h
    rename_i e1
    split at h
    case h_2 => cases h
    rename_i fi e2
    split at h
    case h_1 => cases h
    rename_i e3
    have hz : ¬ fi.size = 0 := fun e => by rw [e] at e3; cases e3
    split at h
    · rename_i e4
      cases h
      simp only [vop, opd_eq ha e4, vfieldAddr, ht.get e1, nthO_eq e2, Option.bind_some, Option.map_some, if_neg hz]
    · rename_i e4
      cases h
      simp only [vop, opd_eq ha e4, vfieldAddr, ht.get e1, nthO_eq e2, Option.bind_some, Option.map_some, if_neg hz]
    · cases h
  case h_5 =>
    split at h
    case h_2 => cases h
    rename_i e1
    split at h
    case h_2 => cases h
    rename_i e2
    simp only [vop, opd_eq ha e1, vload, ht.get e2, takeO_eq h, Option.bind_some, Option.map_some]
  case h_6 =>
    split at h
    case h_2 => cases h
    rename_i e1
    split at h
    case h_2 => cases h
    rename_i fi e2
    split at h
    case h_2 => cases h
    rename_i e3
    simp only [vop, opd_eq ha e3, vfield, ht.get e1, nthO_eq e2, takeO_eq h, Option.bind_some, Option.map_some]
  case h_7 =>
    split at h
    case h_2 => cases h
    rename_i e1
    split at h
    case h_2 => cases h
    rename_i e2
    split at h
    case h_2 => cases h
    rename_i e3
    split at h
    case h_2 => cases h
    rename_i e4
    cases h
    simp only [Bool.and_eq_true] at e2
    have h1 := Nat.eq_of_beq_eq_true e2.1
    simp only [vop, opdP_eq ha e3, vbuild, ht.get e1, fillO_eq e4, Option.bind_some, Option.map_some]
    rw [if_pos ⟨h1, by simpa using e2.2⟩]
    rfl
  case h_8 op T x y _ =>
    cases hx : opd L x with
    | none => rw [hx] at h; simp [binO] at h
    | some u =>
      cases hy : opd L y with
      | none => rw [hy] at h; simp [binO] at h
      | some w =>
        rw [hx, hy] at h
        simp only [vop, opd_eq ha hx, opd_eq ha hy, binO_eq ht h, Option.bind_some, Option.map_some]
  case h_9 =>
    split at h
    case h_2 => cases h
    rename_i e1
    simp only [vop, opd_eq ha e1, h, Option.bind_some, Option.map_some]
  case h_10 =>
    split at h
    case h_2 => cases h
    rename_i e0
    split at h
    · rename_i e1 e2
      cases h
      simp only [vop, opd_eq ha e2, vconvert, vconv, ht.get e0, ht.get e1, Option.bind_some, Option.map_some]
    · rename_i e1 e2
      cases h
      simp only [vop, opd_eq ha e2, vconvert, vconv, ht.get e0, ht.get e1, Option.bind_some, Option.map_some]
    · cases h
  case h_11 =>
    split at h
    case h_2 => cases h
    rename_i e1
    simp only [vop, opd_eq ha e1, vextract, nthO_eq h, Option.bind_some, Option.map_some]
  case h_12 =>
    split at h
    case h_2 => cases h
    rename_i e1
    split at h
    case h_2 => cases h
    rename_i e2
    cases h
    simp only [vop, e1, opdL_eq ha e2, Option.map_some]
  case h_13 =>
    split at h
    · rename_i e; cases h; simp only [vop, opd_eq ha e, Option.bind_some]
    · rename_i e; cases h; simp only [vop, opd_eq ha e, Option.bind_some]
    · rename_i e; cases h; simp only [vop, opd_eq ha e, Option.bind_some]
    · cases h
  case h_14 c =>
    obtain ⟨callee, args, tys⟩ := c
    simp only at h
    split at h
    · rename_i x T e1 e2
      simp only [vop, vbuiltin]
      rw [e1, e2]
      unfold vlenO at h
      split at h
      all_goals first
        | (rename_i f1 f2; cases h; simp only [vevL, opd_eq ha f2, vlen, ht.get f1, Option.bind_some, Option.map_some])
        | cases h
    · rename_i x y e1
      split at h
      case h_2 => cases h
      rename_i f1 f2
      simp only [vop]
      rw [e1]
      simp only [vevL, opd_eq ha f1, opd_eq ha f2, vbuiltin, Option.bind_some, Option.map_some, h]
    · rename_i x y e1
      split at h
      case h_2 => cases h
      rename_i f1 f2
      simp only [vop]
      rw [e1]
      simp only [vevL, opd_eq ha f1, opd_eq ha f2, vbuiltin, Option.bind_some, Option.map_some, h]
    · cases h

/-! ### Code -/
structure WL (P : Program) (N : Nat) (c : Code) (Q : Exit → Kn → S → Prop) (L : Kn) (s : S) : Prop where
  run : ∀ σ, At L σ → VWp P N c (fun e σ' s' => ∃ L', At L' σ' ∧ Q e L' s') σ s

structure LOps (P : Program) (N : Nat) (ops : Array Oper) (l : List Oper) (K : Kn → S → Prop) (L : Kn) (s : S) : Prop where
  run : l.all (dstOk N) = true → ∀ σ, At L σ → VOps P N ops l (fun σ' s' => ∃ L', At L' σ' ∧ K L' s') σ s

def lthenD (K : Kn → S → Prop) (Q : Exit → Kn → S → Prop) : Exit → Kn → S → Prop
  | .normal, L, s => K L s
  | e, L, s => Q e L s
/-- What follows a piece of code: a structure, for unification to stop at. -/
structure lthen (K : Kn → S → Prop) (Q : Exit → Kn → S → Prop) (e : Exit) (L : Kn) (s : S) : Prop where
  h : lthenD K Q e L s

def lblockD (id : Nat) (Q : Exit → Kn → S → Prop) : Exit → Kn → S → Prop
  | .exit id', L, s => match Nat.beq id' id with
    | true => Q .normal L s
    | false => Q (.exit id') L s
  | e, L, s => Q e L s
structure lblock (id : Nat) (Q : Exit → Kn → S → Prop) (e : Exit) (L : Kn) (s : S) : Prop where
  h : lblockD id Q e L s

variable {P : Program} {N : Nat}

theorem WL.seq {x y : Code} {Q : Exit → Kn → S → Prop} {L : Kn} {s : S} (h : WL P N x (lthen (fun L s => WL P N y Q L s) Q) L s) : WL P N (.seq x y) Q L s := by
  refine ⟨fun σ hσ => VWp.seq (VWp.mono (h.run σ hσ) ?_)⟩
  rintro e σ' s' ⟨L', a, ⟨q⟩⟩
  cases e with
  | normal => exact q.run σ' a
  | _ => exact ⟨L', a, q⟩

theorem WL.mono {c : Code} {Q Q' : Exit → Kn → S → Prop} {L : Kn} {s : S} (h : WL P N c Q L s) (hq : ∀ e L s, Q e L s → Q' e L s) : WL P N c Q' L s :=
  ⟨fun σ hσ => (h.run σ hσ).mono fun _ _ _ ⟨L', a, q⟩ => ⟨L', a, hq _ _ _ q⟩⟩

theorem WL.sub {c : Code} {Q : Exit → Kn → S → Prop} {L L' : Kn} {s : S} (hs : SubL L' L) (h : WL P N c Q L' s) : WL P N c Q L s := ⟨fun σ hσ => h.run σ (hs.at hσ)⟩

theorem WL.skip {Q : Exit → Kn → S → Prop} {L : Kn} {s : S} (h : Q .normal L s) : WL P N .skip Q L s := ⟨fun _ hσ => VWp.skip ⟨L, hσ, h⟩⟩
theorem WL.ret {Q : Exit → Kn → S → Prop} {L : Kn} {s : S} (h : Q .ret L s) : WL P N .ret Q L s := ⟨fun _ hσ => VWp.ret ⟨L, hσ, h⟩⟩
theorem WL.exit {id : Nat} {Q : Exit → Kn → S → Prop} {L : Kn} {s : S} (h : Q (.exit id) L s) : WL P N (.exit id) Q L s := ⟨fun _ hσ => VWp.exit ⟨L, hσ, h⟩⟩

theorem WL.block {id : Nat} {c : Code} {Q : Exit → Kn → S → Prop} {L : Kn} {s : S} (h : WL P N c (lblock id Q) L s) : WL P N (.block id c) Q L s := by
  refine ⟨fun σ hσ => VWp.block (VWp.mono (h.run σ hσ) ?_)⟩
  rintro e σ' s' ⟨L', a, ⟨q⟩⟩
  cases e with
  | exit id' =>
    simp only [vinBlock]
    simp only [lblockD] at q
    split at q
    · rename_i e1
      rw [if_pos (Nat.eq_of_beq_eq_true e1)]
      exact ⟨L', a, q⟩
    · rename_i e1
      rw [if_neg (fun e => by rw [e, Nat.beq_refl] at e1; cases e1)]
      exact ⟨L', a, q⟩
  | _ => exact ⟨L', a, q⟩

theorem WL.condT {x : Operand} {c d : Code} {Q : Exit → Kn → S → Prop} {L : Kn} {s : S} (hx : opd L x = some (.bool true)) (h : WL P N c Q L s) : WL P N (.cond x c d) Q L s :=
  ⟨fun σ hσ => VWp.condT (opd_eq hσ hx) (h.run σ hσ)⟩
theorem WL.condF {x : Operand} {c d : Code} {Q : Exit → Kn → S → Prop} {L : Kn} {s : S} (hx : opd L x = some (.bool false)) (h : WL P N d Q L s) : WL P N (.cond x c d) Q L s :=
  ⟨fun σ hσ => VWp.condF (opd_eq hσ hx) (h.run σ hσ)⟩
theorem WL.cond {t : Nat} {b : Bool} {c d : Code} {Q : Exit → Kn → S → Prop} {L : Kn} {s : S} (hx : lk L t = some (.bool b)) (hT : b = true → WL P N c Q ((t, .bool true) :: L) s) (hF : b = false → WL P N d Q ((t, .bool false) :: L) s) :
    WL P N (.cond (.tmp t) c d) Q L s := by
  refine ⟨fun σ hσ => VWp.cond (opd_eq (x := .tmp t) hσ hx) (fun e => (hT e).run σ ?_) (fun e => (hF e).run σ ?_)⟩
  · subst e; exact hσ.shadow hx
  · subst e; exact hσ.shadow hx

/-- The same, where a fact decides the test. -/
theorem WL.condT' {t : Nat} {b : Bool} {c d : Code} {Q : Exit → Kn → S → Prop} {L : Kn} {s : S} (hx : lk L t = some (.bool b)) (hb : b = true) (h : WL P N c Q L s) : WL P N (.cond (.tmp t) c d) Q L s :=
  WL.condT (by subst hb; exact hx) h
theorem WL.condF' {t : Nat} {b : Bool} {c d : Code} {Q : Exit → Kn → S → Prop} {L : Kn} {s : S} (hx : lk L t = some (.bool b)) (hb : b = false) (h : WL P N d Q L s) : WL P N (.cond (.tmp t) c d) Q L s :=
  WL.condF (by subst hb; exact hx) h

theorem WL.region {id : Nat} {ops : Array Oper} {Q : Exit → Kn → S → Prop} {L : Kn} {s : S} (hd : ops.toList.all (dstOk N) = true) (h : LOps P N ops ops.toList (Q .normal) L s) : WL P N (.region id ops false) Q L s :=
  ⟨fun σ hσ => VWp.region (h.run hd σ hσ)⟩

theorem lthen_n {K : Kn → S → Prop} {Q : Exit → Kn → S → Prop} {L : Kn} {s : S} (h : K L s) : lthen K Q .normal L s := ⟨h⟩
theorem lthen_e {K : Kn → S → Prop} {Q : Exit → Kn → S → Prop} {i : Nat} {L : Kn} {s : S} (h : Q (.exit i) L s) : lthen K Q (.exit i) L s := ⟨h⟩
theorem lthen_r {K : Kn → S → Prop} {Q : Exit → Kn → S → Prop} {L : Kn} {s : S} (h : Q .ret L s) : lthen K Q .ret L s := ⟨h⟩
theorem lblock_n {id : Nat} {Q : Exit → Kn → S → Prop} {L : Kn} {s : S} (h : Q .normal L s) : lblock id Q .normal L s := ⟨h⟩
theorem lblock_r {id : Nat} {Q : Exit → Kn → S → Prop} {L : Kn} {s : S} (h : Q .ret L s) : lblock id Q .ret L s := ⟨h⟩
theorem lblock_e {id : Nat} {Q : Exit → Kn → S → Prop} {L : Kn} {s : S} (h : Q .normal L s) : lblock id Q (.exit id) L s := by
  refine ⟨?_⟩
  simp only [lblockD, Nat.beq_refl]; exact h
theorem lblock_o {id i : Nat} {Q : Exit → Kn → S → Prop} {L : Kn} {s : S} (hi : Nat.beq i id = false) (h : Q (.exit i) L s) : lblock id Q (.exit i) L s := by
  refine ⟨?_⟩
  simp only [lblockD, hi]; exact h

/-! ### Operations -/
variable {ops : Array Oper} {l : List Oper} {K : Kn → S → Prop} {L : Kn}

theorem LOps.nil {s : S} (h : K L s) : LOps P N ops [] K L s := ⟨fun _ _ hσ => ⟨L, hσ, h⟩⟩

theorem VStep_of {o : Oper} {K : Fr → S → Prop} {σ : Fr} {s s' : S} {v : V} (hd : dstOk N o = true) (hg : o.guard = none) (hv : vop P o σ s = some (v, s')) (hk : K (putO σ o.dst v) s') : VStep P N ops o K σ s := by
  refine ⟨hd, ?_⟩
  simp only [vwanted, hg]
  exact VOp_of_vop hv hk

/-- An operation that leaves something in its slot. -/
theorem LOps.st {op : Op} {d : Nat} {ty : TypeId} {p : String} {a : Array Edge} {v : V} {s s' : S} (hv : ∀ σ, At L σ → vop P ⟨some d, op, ty, p, a, none⟩ σ s = some (v, s')) (hk : LOps P N ops l K ((d, v) :: L) s') :
    LOps P N ops (⟨some d, op, ty, p, a, none⟩ :: l) K L s := by
  refine ⟨fun hd σ hσ => ?_⟩
  simp only [List.all_cons, Bool.and_eq_true] at hd
  exact VStep_of hd.1 rfl (hv σ hσ) (hk.run hd.2 _ (hσ.cons d v))

theorem LOps.stN {op : Op} {ty : TypeId} {p : String} {a : Array Edge} {v : V} {s s' : S} (hv : ∀ σ, At L σ → vop P ⟨none, op, ty, p, a, none⟩ σ s = some (v, s')) (hk : LOps P N ops l K L s') :
    LOps P N ops (⟨none, op, ty, p, a, none⟩ :: l) K L s := by
  refine ⟨fun hd σ hσ => ?_⟩
  simp only [List.all_cons, Bool.and_eq_true] at hd
  exact VStep_of hd.1 rfl (hv σ hσ) (hk.run hd.2 _ hσ)

theorem LOps.ev {tt : BT} (ht : tt.ok P) {op : Op} {d : Nat} {ty : TypeId} {p : String} {a : Array Edge} {v : V} {s : S} (hv : ev tt L op = some v) (hk : LOps P N ops l K ((d, v) :: L) s) :
    LOps P N ops (⟨some d, op, ty, p, a, none⟩ :: l) K L s := .st (fun _ hσ => ev_eq ht hσ hv _ _ _ _ _ s) hk
theorem LOps.evN {tt : BT} (ht : tt.ok P) {op : Op} {ty : TypeId} {p : String} {a : Array Edge} {v : V} {s : S} (hv : Go.Proofs.Ytejdgmdebfkkeaa.ev tt L op = some v) (hk : LOps P N ops l K L s) :
    LOps P N ops (⟨none, op, ty, p, a, none⟩ :: l) K L s := .stN (fun _ hσ => ev_eq ht hσ hv _ _ _ _ _ s) hk

/-! #### Guards -/
def gslot (ops : List Oper) (j : Nat) : Option Nat := match nthO ops j with
  | some ⟨some d, _, _, _, _, _⟩ => some d
  | _ => none
theorem gslot_eq {ops : Array Oper} {j d : Nat} (h : gslot ops.toList j = some d) : (ops[j]?).bind (·.dst) = some d := by
  unfold gslot at h
  split at h
  · rename_i e
    have := nthO_eq e
    rw [Array.getElem?_toList] at this
    simp only [this, Option.bind_some]; exact h
  · cases h

theorem LOps.gT {op : Op} {dst : Option Nat} {j d : Nat} {w b : Bool} {ty : TypeId} {p : String} {a : Array Edge} {s : S} (hj : gslot ops.toList j = some d) (hb : lk L d = some (.bool b)) (hw : (b == w) = true)
    (hk : LOps P N ops (⟨dst, op, ty, p, a, none⟩ :: l) K L s) : LOps P N ops (⟨dst, op, ty, p, a, some (j, w)⟩ :: l) K L s := by
  refine ⟨fun hd σ hσ => ?_⟩
  obtain ⟨h1, h2⟩ := hk.run hd σ hσ
  refine ⟨h1, ?_⟩
  simp only [vwanted, gslot_eq hj, hσ d _ hb, hw]
  exact h2

theorem LOps.gF {op : Op} {dst j d : Nat} {w b : Bool} {ty : TypeId} {p : String} {a : Array Edge} {s : S} (hj : gslot ops.toList j = some d) (hb : lk L d = some (.bool b)) (hw : (b == w) = false)
    (hk : LOps P N ops l K ((dst, .und) :: L) s) : LOps P N ops (⟨some dst, op, ty, p, a, some (j, w)⟩ :: l) K L s := by
  refine ⟨fun hd σ hσ => ?_⟩
  simp only [List.all_cons, Bool.and_eq_true] at hd
  refine ⟨hd.1, ?_⟩
  simp only [vwanted, gslot_eq hj, hσ d _ hb, hw]
  exact hk.run hd.2 _ (hσ.cons dst .und)

theorem LOps.gU {op : Op} {dst j d : Nat} {w : Bool} {ty : TypeId} {p : String} {a : Array Edge} {s : S} (hj : gslot ops.toList j = some d) (hb : lk L d = some .und)
    (hk : LOps P N ops l K ((dst, .und) :: L) s) : LOps P N ops (⟨some dst, op, ty, p, a, some (j, w)⟩ :: l) K L s := by
  refine ⟨fun hd σ hσ => ?_⟩
  simp only [List.all_cons, Bool.and_eq_true] at hd
  refine ⟨hd.1, ?_⟩
  simp only [vwanted, gslot_eq hj, hσ d _ hb]
  exact hk.run hd.2 _ (hσ.cons dst .und)

theorem LOps.gFN {op : Op} {j d : Nat} {w b : Bool} {ty : TypeId} {p : String} {a : Array Edge} {s : S} (hj : gslot ops.toList j = some d) (hb : lk L d = some (.bool b)) (hw : (b == w) = false)
    (hk : LOps P N ops l K L s) : LOps P N ops (⟨none, op, ty, p, a, some (j, w)⟩ :: l) K L s := by
  refine ⟨fun hd σ hσ => ?_⟩
  simp only [List.all_cons, Bool.and_eq_true] at hd
  refine ⟨hd.1, ?_⟩
  simp only [vwanted, gslot_eq hj, hσ d _ hb, hw]
  exact hk.run hd.2 _ hσ

/-- A guard that is not known: both ways. -/
theorem LOps.gC {o : Oper} {j d : Nat} {w b : Bool} {s : S} (_ : o.guard = some (j, w)) (_ : gslot ops.toList j = some d) (hb : lk L d = some (.bool b))
    (hT : b = true → LOps P N ops (o :: l) K ((d, .bool true) :: L) s) (hF : b = false → LOps P N ops (o :: l) K ((d, .bool false) :: L) s) : LOps P N ops (o :: l) K L s := by
  refine ⟨fun hd σ hσ => ?_⟩
  cases b
  · exact (hF rfl).run hd σ (hσ.shadow hb)
  · exact (hT rfl).run hd σ (hσ.shadow hb)

/-- A slot's truth value, taken for one that it equals. -/
theorem LOps.know {d : Nat} {b c : Bool} {s : S} (hb : lk L d = some (.bool b)) (hc : b = c) (h : LOps P N ops l K ((d, .bool c) :: L) s) : LOps P N ops l K L s := by
  subst hc
  exact ⟨fun hd σ hσ => h.run hd σ (hσ.shadow hb)⟩
theorem WL.know {d : Nat} {v w : V} {c : Code} {Q : Exit → Kn → S → Prop} {s : S} (hb : lk L d = some v) (hc : v = w) (h : WL P N c Q ((d, w) :: L) s) : WL P N c Q L s := by
  subst hc
  exact ⟨fun σ hσ => h.run σ (hσ.shadow hb)⟩

end Go.Proofs.Ytejdgmdebfkkeaa
