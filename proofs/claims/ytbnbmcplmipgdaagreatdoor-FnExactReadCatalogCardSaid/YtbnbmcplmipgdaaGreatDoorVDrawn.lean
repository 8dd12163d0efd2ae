/-
  Regions whose order is drawn, at the value level: every order that the edges allow, and a rule that walks one order and asks of what floats that it stays as it is.
  The rule for drawn regions: one order is walked; what floats past an effect must stay as it is.
  The rule for drawn regions: its proof.
  The rule for drawn regions, with its plan checked by a closed test.
  A call that changes variables of others to plain data: what it made of its own is forgotten behind it.
  Own work; no condition.
-/
import Derived.Test.YtbnbmcplmipgdaaGreatDoorVCode
import Derived.Orders
namespace Go.Proofs.YtbnbmcplmipgdaaGreatDoor
open Go
/-! ### What an operation answers hangs on the slots that it looks at -/
def SameAt (σ σ' : Fr) (l : List Nat) : Prop := ∀ t ∈ l, σ t = σ' t
def tmpsOf (xs : List Operand) : List Nat := xs.filterMap fun | .tmp t => some t | _ => none
theorem vev_congr {σ σ' : Fr} {x : Operand} (h : ∀ t, x = .tmp t → σ t = σ' t) : vev σ x = vev σ' x := by
  cases x with
  | tmp t => simp [vev, h t rfl]
  | _ => rfl
theorem vevL_congr {σ σ' : Fr} : ∀ {xs : List Operand}, (∀ x ∈ xs, vev σ x = vev σ' x) → vevL σ xs = vevL σ' xs
  | [], _ => rfl
  | x :: xs, h => by simp only [vevL, h x (by simp), vevL_congr (xs := xs) fun y hy => h y (by simp [hy])]
theorem vparts_congr {σ σ' : Fr} : ∀ {xs : List (Nat × Operand)}, (∀ x ∈ xs.map (·.2), vev σ x = vev σ' x) → vparts σ xs = vparts σ' xs
  | [], _ => rfl
  | (i, x) :: xs, h => by
    simp only [vparts]
    rw [h x (by simp), vparts_congr (xs := xs) fun y hy => h y (by simp at hy ⊢; exact .inr hy)]
theorem vevO_congr {σ σ' : Fr} {x : Option Operand} (h : ∀ y ∈ x.toArray, vev σ y = vev σ' y) : vevO σ x = vevO σ' x := by
  cases x with
  | none => rfl
  | some x => simp only [vevO, h x (by simp)]
theorem vop_congr {P : Program} {o : Oper} {σ σ' : Fr} {s : S} (h : ∀ x ∈ o.op.operands, vev σ x = vev σ' x) : vop P o σ s = vop P o σ' s := by
  obtain ⟨dst, op, type, pos, after, guard⟩ := o
  simp only at h
  cases op with
  | slice T x lo hi mx =>
    simp only [Op.operands] at h
    simp only [vop]
    rw [h x (by simp), vevO_congr (x := lo) (fun y hy => h y (by simp at hy ⊢; simp [hy])), vevO_congr (x := hi) (fun y hy => h y (by simp at hy ⊢; simp [hy])), vevO_congr (x := mx) (fun y hy => h y (by simp at hy ⊢; simp [hy]))]
  | build T parts =>
    simp only [vop]
    rw [vparts_congr (xs := parts.toList) (fun y hy => h y (by simpa [Op.operands] using hy))]
  | buildSlice T len parts =>
    simp only [vop]
    rw [vparts_congr (xs := parts.toList) (fun y hy => h y (by simpa [Op.operands] using hy))]
  | makeFunc fn first captured =>
    simp only [vop]
    rw [vevL_congr (xs := captured.toList) (fun y hy => h y (by simp [Op.operands]; right; simpa using hy))]
  | call c =>
    simp only [vop]
    rw [vevL_congr (xs := c.args.toList) (fun y hy => h y (by simp [Op.operands, Call.operands]; right; simpa using hy))]
  | _ => first | rfl | (simp only [Op.operands] at h; simp at h; simp [vop, h])
theorem vev_looks {ops : Array Oper} {o : Oper} {σ σ' : Fr} (h : SameAt σ σ' (o.looksAt ops)) : ∀ x ∈ o.op.operands, vev σ x = vev σ' x :=
  fun x hx => vev_congr fun t ht => h t (List.mem_append_left _ (List.mem_filterMap.2 ⟨x, by simpa using hx, by rw [ht]⟩))
theorem vwanted_congr {ops : Array Oper} {o : Oper} {σ σ' : Fr} (h : SameAt σ σ' (o.looksAt ops)) : vwanted ops σ o = vwanted ops σ' o := by
  unfold vwanted
  cases hg : o.guard with
  | none => rfl
  | some gw =>
    obtain ⟨j, want⟩ := gw
    simp only
    cases hd : (ops[j]?).bind (·.dst) with
    | none => rfl
    | some d =>
      have : σ d = σ' d := h d (List.mem_append_right _ (by rw [hg]; simp [hd]))
      simp only [this]
theorem VOp_congr {P : Program} {ops : Array Oper} {o : Oper} {σ σ' : Fr} {s : S} {K K' : Fr → S → Prop} (h : VOp P o K σ s) (hs : SameAt σ σ' (o.looksAt ops)) (hk : ∀ v s', K (putO σ o.dst v) s' → K' (putO σ' o.dst v) s') : VOp P o K' σ' s := by
  have hx := vev_looks hs
  rcases h with h | ⟨vs, R, hvs, hdo, hkk⟩
  case inr => exact .inr ⟨vs, R, by rw [← vevL_congr (xs := o.op.operands.toList) fun y hy => hx y (by simpa using hy)]; exact hvs, hdo, fun v s' hR => hk v s' (hkk v s' hR)⟩
  refine .inl ?_
  unfold VOp0 at h ⊢
  split at h
  · rename_i f args A hop
    have h1 : vev σ f = vev σ' f := hx f (by rw [hop]; simp [Op.operands, Call.operands])
    have h2 : vevL σ args.toList = vevL σ' args.toList := vevL_congr fun y hy => hx y (by rw [hop]; simp [Op.operands, Call.operands]; right; simpa using hy)
    rw [← h1, ← h2]
    unfold VCall at h ⊢
    split at h
    · exact ⟨h.1, h.2.mono fun v s' => hk v s'⟩
    · exact h.elim
  · rename_i T len parts hop
    rcases h with ⟨v, s', hv, h⟩ | ⟨ps, v, hps, hv, h⟩
    · exact .inl ⟨v, s', by rw [← vop_congr hx]; exact hv, hk _ _ h⟩
    · exact .inr ⟨ps, v, by rw [← vparts_congr (xs := parts.toList) (fun y hy => hx y (by rw [hop]; simpa [Op.operands] using hy))]; exact hps, hv, hk _ _ h⟩
  · rename_i T l c hop
    rcases h with ⟨v, s', hv, h⟩ | ⟨x, y, v, h1, h2, hv, h⟩
    · exact .inl ⟨v, s', by rw [← vop_congr hx]; exact hv, hk _ _ h⟩
    · exact .inr ⟨x, y, v, by rw [← hx l (by rw [hop]; simp [Op.operands])]; exact h1, by rw [← hx c (by rw [hop]; simp [Op.operands])]; exact h2, hv, hk _ _ h⟩
  · rw [← vop_congr hx]
    split at h
    · exact hk _ _ h
    · exact h.elim
theorem VStep_congr {P : Program} {N : Nat} {ops : Array Oper} {o : Oper} {σ σ' : Fr} {s : S} {K K' : Fr → S → Prop} (h : VStep P N ops o K σ s) (hs : SameAt σ σ' (o.looksAt ops)) (hk : ∀ v s', K (putO σ o.dst v) s' → K' (putO σ' o.dst v) s') :
    VStep P N ops o K' σ' s := by
  refine ⟨h.1, ?_⟩
  have h2 := h.2
  rw [vwanted_congr hs] at h2
  split at h2
  · exact VOp_congr h2 hs hk
  · exact hk _ _ h2
  · exact h2.elim
theorem VOp_of_vop {P : Program} {o : Oper} {σ : Fr} {s s' : S} {v : V} {K : Fr → S → Prop} (h : vop P o σ s = some (v, s')) (hk : K (putO σ o.dst v) s') : VOp P o K σ s := by
  refine .inl ?_
  unfold VOp0
  split
  · rename_i f args A hop
    rw [vop, hop] at h
    cases h
  · exact .inl ⟨v, s', h, hk⟩
  · exact .inl ⟨v, s', h, hk⟩
  · rw [h]; exact hk
/-! ### Every order -/
def VStepAt (P : Program) (N : Nat) (ops : Array Oper) (i : Nat) (K : Fr → S → Prop) (σ : Fr) (s : S) : Prop :=
  match ops[i]? with
  | none => K σ s
  | some o => VStep P N ops o K σ s
def VAny (P : Program) (N : Nat) (ops : Array Oper) (K : Fr → S → Prop) : Nat → Array Bool → Fr → S → Prop
  | 0, D, σ, s => Region.ready .any ops D = [] ∧ K σ s
  | fuel + 1, D, σ, s => (Region.ready .any ops D = [] → K σ s) ∧ ∀ i ∈ Region.ready .any ops D, VStepAt P N ops i (VAny P N ops K fuel (D.setIfInBounds i true)) σ s
theorem VAny_sound {P : Program} {N : Nat} {ops : Array Oper} {Q : Exit → Fr → S → Prop} {E0 : Env} {s0 : S} : ∀ (fuel : Nat) (D : Array Bool) {σ : Fr} {s : S}, VAny P N ops (Q .normal) fuel D σ s → ∀ E a, Step E0 s0 E s → RelS E s → RepA E σ N a →
    wpAny P .any ops (After E0 s0 N Q) fuel D a E.w
  | 0, D, σ, s, h, E, a, h0, h1, h2 => ⟨h.1, E, σ, s, rfl, h.2, h1, h2, h0⟩
  | fuel + 1, D, σ, s, h, E, a, h0, h1, h2 => by
    refine ⟨fun hr => ⟨E, σ, s, rfl, h.1 hr, h1, h2, h0⟩, fun i hi => ?_⟩
    have hs := h.2 i hi
    unfold VStepAt at hs
    unfold wpOp
    cases ho : ops[i]? with
    | none =>
      rw [ho] at hs
      exact VAny_sound fuel _ hs E a h0 h1 h2
    | some o =>
      rw [ho] at hs
      simp only at hs ⊢
      obtain ⟨hd, hs⟩ := hs
      cases hw : vwanted ops σ o with
      | none => rw [hw] at hs; exact hs.elim
      | some b =>
        have hw' := vwanted_sound h2 hw
        rw [hw] at hs
        cases b with
        | true =>
          rw [if_pos hw']
          left
          refine Oper.wp_mono (fun a' w' hk => ?_) (VOp_sound (N := N) hs hd h1 h2 (After E0 s0 N Q))
          obtain ⟨E', σ', s', rfl, k1, k2, k3, k4⟩ := hk
          exact VAny_sound fuel _ k1 E' a' (h0.trans k4) k2 k3
        | false =>
          rw [if_neg (by simp [hw'])]
          exact VAny_sound fuel _ hs E _ h0 h1 (h2.putO hd .und)
theorem VWp.drawn {P : Program} {N id : Nat} {ops : Array Oper} {Q : Exit → Fr → S → Prop} {σ : Fr} {s : S} (hm : P.follows .mixedOrders = true) (h : VAny P N ops (Q .normal) ops.size (Array.replicate ops.size false) σ s) :
    VWp P N (.region id ops true) Q σ s := by
  intro E a h1 h2
  refine wp_region_any hm ?_
  let E1 : Env := { E with w := { E.w with drawn := E.w.drawn + 1 } }
  have hc : ∀ x, E1.w.cell? x = E.w.cell? x := fun _ => rfl
  have ev : Evolve E E1 := ⟨fun _ _ h => h, fun _ _ _ => rfl, fun _ _ h => h, fun _ F h => ⟨F, h, Nat.le_refl _, fun _ => rfl⟩⟩
  have st : Step E s E1 s := ⟨ev, rfl, rfl, rfl, Nat.le_refl _, fun _ _ _ => rfl, fun _ _ h => h, Nat.le_refl _⟩
  have r1 : RelS E1 s := by
    refine ⟨⟨fun l cs hl => ?_, h1.varinj, h1.fam, h1.faminj, h1.famvar, h1.fresh, h1.pos, h1.imm⟩, h1.tab.step st⟩
    obtain ⟨g, arr, e, fr, k1, k2⟩ := h1.var l cs hl
    exact ⟨g, arr, e, fr, k1, k2.evolve ev rfl k2.imm⟩
  exact VAny_sound _ _ h E1 a st r1 (h2.evolve ev)
end Go.Proofs.YtbnbmcplmipgdaaGreatDoor
namespace Go.Proofs.YtbnbmcplmipgdaaGreatDoor
open Go
/-- A slot holds a value. -/
def atO (σ : Fr) : Option Nat → V → Prop
  | some d, v => σ d = v
  | none, _ => True
/-- Done again, here, the operation answers what its slot holds. -/
def VStable (P : Program) (ops : Array Oper) (p : Nat) (σ : Fr) (s : S) : Prop :=
  match ops[p]? with
  | none => False
  | some o => match vwanted ops σ o with
    | some true => match vop P o σ s with
      | some (v, s') => s' = s ∧ atO σ o.dst v
      | none => False
    | some false => atO σ o.dst .und
    | none => False
def VStables (P : Program) (ops : Array Oper) (σ : Fr) (s : S) : List Nat → Prop
  | [] => True
  | p :: ps => VStable P ops p σ s ∧ VStables P ops σ s ps
theorem VStables.get {P : Program} {ops : Array Oper} {σ : Fr} {s : S} : ∀ {l : List Nat}, VStables P ops σ s l → ∀ p ∈ l, VStable P ops p σ s
  | [], _, p, hp => by cases hp
  | q :: l, h, p, hp => by
    rcases List.mem_cons.1 hp with rfl | hp
    · exact h.1
    · exact VStables.get h.2 p hp
def ancOf (A : List (List Nat)) (i : Nat) : List Nat := A.getD i []
def effOf (F : List Nat) (i : Nat) : Bool := F.contains i
def floats (F : List Nat) (A : List (List Nat)) (pre : List Nat) (i : Nat) : List Nat := pre.filter fun p => !effOf F p && !(ancOf A i).contains p
/-- One order, walked. -/
def VDr (P : Program) (N : Nat) (ops : Array Oper) (F : List Nat) (A : List (List Nat)) (K : Fr → S → Prop) : List Nat → List Nat → Fr → S → Prop
  | _, [], σ, s => K σ s
  | pre, i :: rest, σ, s =>
    match ops[i]? with
    | none => False
    | some o =>
      match effOf F i with
      | true => VStep P N ops o (fun σ' s' => VStables P ops σ' s' (floats F A pre i) ∧ VDr P N ops F A K (i :: pre) rest σ' s') σ s
      | false => match vwanted ops σ o with
        | some true => match vop P o σ s with
          | some (v, s') => s' = s ∧ VDr P N ops F A K (i :: pre) rest (putO σ o.dst v) s
          | none => False
        | some false => VDr P N ops F A K (i :: pre) rest (putO σ o.dst .und) s
        | none => False
/-- What is asked of the order, the effects and what lies ahead of what. -/
structure Plan (N : Nat) (ops : Array Oper) (order F : List Nat) (A : List (List Nat)) : Prop where
  nodup : order.Nodup
  all : ∀ i, i < ops.size ↔ i ∈ order
  dok : ∀ (i : Nat) (o : Oper), ops[i]? = some o → dstOk N o = true
  anc : ∀ (i : Nat) (o : Oper), ops[i]? = some o → ∀ a ∈ ancOf A i, ∃ e ∈ o.after, Region.binds .any e = true ∧ (e.on = a ∨ a ∈ ancOf A e.on)
  lt : ∀ (i : Nat) (o : Oper), ops[i]? = some o → ∀ e ∈ o.after, Region.binds .any e = true → e.on < i
  pair : order.Pairwise fun x y => y ∉ ancOf A x ∧ (effOf F x = true → x ∈ ancOf A y)
  irr : ∀ i, i ∉ ancOf A i
  dst : ∀ (i j : Nat) (o o' : Oper), ops[i]? = some o → ops[j]? = some o' → effOf F i = false → i ≠ j → ∀ d, o.dst = some d → o'.dst ≠ some d
  look : ∀ (i j : Nat) (o o' : Oper), ops[i]? = some o → ops[j]? = some o' → effOf F i = false → ∀ d, o.dst = some d → d ∈ o'.looksAt ops → i ∈ ancOf A j
def dn (D : Array Bool) (i : Nat) : Prop := D.getD i false = true
def Closed (ops : Array Oper) (D : Array Bool) : Prop :=
  ∀ (i : Nat) (o : Oper), ops[i]? = some o → dn D i → ∀ e ∈ o.after, Region.binds .any e = true → dn D e.on
theorem Plan.anc_done {N : Nat} {ops : Array Oper} {order F : List Nat} {A : List (List Nat)} (pl : Plan N ops order F A) {D : Array Bool} (hc : Closed ops D) : ∀ (i : Nat) (o : Oper), ops[i]? = some o →
    (∀ e ∈ o.after, Region.binds .any e = true → dn D e.on) → ∀ a ∈ ancOf A i, dn D a := by
  intro i
  induction i using Nat.strongRecOn with
  | ind i ih =>
    intro o ho he a ha
    obtain ⟨e, h1, h2, h3⟩ := pl.anc i o ho a ha
    have hd := he e h1 h2
    rcases h3 with rfl | h3
    · exact hd
    · have hlt := pl.lt i o ho e h1 h2
      have hs : i < ops.size := (Array.getElem?_eq_some_iff.1 ho).1
      have ho' : ops[e.on]? = some ops[e.on] := Array.getElem?_eq_getElem (by omega)
      exact ih e.on hlt _ ho' (hc _ _ ho' hd) a h3
theorem ready_iff {ops : Array Oper} {D : Array Bool} (hs : D.size = ops.size) {i : Nat} {o : Oper} (ho : ops[i]? = some o) : i ∈ Region.ready .any ops D ↔ ¬ dn D i ∧ ∀ e ∈ o.after, Region.binds .any e = true → dn D e.on := by
  have hi : i < ops.size := (Array.getElem?_eq_some_iff.1 ho).1
  have e1 : D.getD i true = D.getD i false := by
    simp [Array.getD, hs, hi]
  unfold Region.ready dn
  simp only [List.mem_filter, List.mem_range, hi, true_and, ho, Option.map_some, Option.getD_some, Bool.and_eq_true, Bool.not_eq_true', e1, Array.all_eq_true', Bool.or_eq_true, Bool.not_eq_true]
  constructor
  · rintro ⟨h1, h2⟩
    refine ⟨by simp [h1], fun e he hb => ?_⟩
    have := h2 e he
    rcases this with h | h
    · rw [hb] at h; cases h
    · exact h
  · rintro ⟨h1, h2⟩
    refine ⟨by simpa using h1, fun e he => ?_⟩
    cases hb : Region.binds .any e
    · exact .inl rfl
    · exact .inr (h2 e he hb)
theorem ready_lt {ops : Array Oper} {D : Array Bool} {i : Nat} (h : i ∈ Region.ready .any ops D) : i < ops.size := by
  unfold Region.ready at h
  simp only [List.mem_filter, List.mem_range] at h
  exact h.1
theorem all_done {N : Nat} {ops : Array Oper} {order F : List Nat} {A : List (List Nat)} (pl : Plan N ops order F A) {D : Array Bool} (hs : D.size = ops.size) (hr : Region.ready .any ops D = []) : ∀ i, i < ops.size → dn D i := by
  intro i
  induction i using Nat.strongRecOn with
  | ind i ih =>
    intro hi
    have ho : ops[i]? = some ops[i] := Array.getElem?_eq_getElem hi
    by_cases hd : dn D i
    · exact hd
    · have : i ∈ Region.ready .any ops D := (ready_iff hs ho).2 ⟨hd, fun e he hb => by
        have := pl.lt i _ ho e he hb
        exact ih _ this (by omega)⟩
      rw [hr] at this
      cases this
theorem dn_set {D : Array Bool} {i j : Nat} (hi : i < D.size) : dn (D.setIfInBounds i true) j ↔ (j = i ∨ dn D j) := by
  unfold dn
  by_cases h : j = i
  · subst h
    simp [Array.getD_eq_getD_getElem?, hi]
  · have : i ≠ j := fun e => h e.symm
    simp [Array.getD_eq_getD_getElem?, Array.getElem?_setIfInBounds_ne this, h]
/-- How many are still to do. -/
def left (ops : Array Oper) (D : Array Bool) : Nat := ((List.range ops.size).filter fun i => !D.getD i false).length
theorem filter_lt {p q : Nat → Bool} (h : ∀ x, q x = true → p x = true) {a : Nat} : ∀ {l : List Nat}, a ∈ l → p a = true → q a = false → (l.filter q).length < (l.filter p).length := by
  have le : ∀ l : List Nat, (l.filter q).length ≤ (l.filter p).length := by
    intro l
    induction l with
    | nil => simp
    | cons x l ih =>
      cases hq : q x
      · cases hp : p x <;> simp [hq, hp] <;> omega
      · simp [hq, h x hq]; exact ih
  intro l
  induction l with
  | nil => intro h; cases h
  | cons x l ih =>
    intro ha hp hq
    rcases List.mem_cons.1 ha with rfl | ha
    · simp [hp, hq]
      have := le l
      omega
    · have := ih ha hp hq
      cases hq' : q x
      · cases hp' : p x <;> simp [hq', hp'] <;> omega
      · simp [hq', h x hq']; exact this
theorem left_set {ops : Array Oper} {D : Array Bool} {i : Nat} (hs : D.size = ops.size) (hi : i < ops.size) (hd : ¬ dn D i) : left ops (D.setIfInBounds i true) < left ops D := by
  unfold left
  refine filter_lt (a := i) (fun x hx => ?_) (by simpa using hi) (by unfold dn at hd; simpa using hd) ?_
  · cases hx' : D.getD x false
    · rfl
    · have := (dn_set (D := D) (i := i) (j := x) (by omega)).2 (.inr hx')
      unfold dn at this
      rw [this] at hx
      exact hx
  · have := (dn_set (D := D) (i := i) (j := i) (by omega)).2 (.inl rfl)
    unfold dn at this
    rw [this]; rfl
end Go.Proofs.YtbnbmcplmipgdaaGreatDoor
namespace Go.Proofs.YtbnbmcplmipgdaaGreatDoor
open Go
theorem putO_other {σ : Fr} {dst : Option Nat} {v : V} {d : Nat} (h : dst ≠ some d) : putO σ dst v d = σ d := by
  cases dst with
  | none => rfl
  | some e =>
    have : d ≠ e := fun x => h (by rw [x])
    simp [putO, put, this]
theorem putO_same {σ : Fr} {d : Nat} {v : V} : putO σ (some d) v d = v := by simp [putO, put]
theorem stable_congr {P : Program} {ops : Array Oper} {p : Nat} {o : Oper} {σ σ' : Fr} {s : S} (h : VStable P ops p σ s) (ho : ops[p]? = some o) (hs : SameAt σ σ' (o.looksAt ops)) (hd : ∀ d, o.dst = some d → σ' d = σ d) : VStable P ops p σ' s := by
  have ha : ∀ v, atO σ o.dst v → atO σ' o.dst v := by
    intro v hv
    cases e : o.dst with
    | none => trivial
    | some d => rw [e] at hv; exact (hd d e).trans hv
  unfold VStable at h ⊢
  rw [ho] at h ⊢
  simp only at h ⊢
  rw [← vwanted_congr hs, ← vop_congr (vev_looks hs)]
  split at h
  · split at h
    · exact ⟨h.1, ha _ h.2⟩
    · exact h.elim
  · exact ha _ h
  · exact h.elim
structure Inv (P : Program) (N : Nat) (ops : Array Oper) (order F : List Nat) (A : List (List Nat)) (K : Fr → S → Prop) (pre rest : List Nat) (D : Array Bool) (σD σC : Fr) (s : S) : Prop where
  size : D.size = ops.size
  closed : Closed ops D
  split : order = pre.reverse ++ rest
  hrest : ∀ i ∈ rest, ¬ dn D i
  hpre : ∀ p ∈ pre, ¬ dn D p → effOf F p = false ∧ VStable P ops p σC s
  agree : ∀ d, (∀ p ∈ pre, ¬ dn D p → ∀ o, ops[p]? = some o → o.dst ≠ some d) → σD d = σC d
  walk : VDr P N ops F A K pre rest σC s
section
variable {P : Program} {N : Nat} {ops : Array Oper} {order F : List Nat} {A : List (List Nat)} {K : Fr → S → Prop}
theorem Inv.rel {pre rest : List Nat} {D : Array Bool} {σD σC : Fr} {s : S} (pl : Plan N ops order F A) (h : Inv P N ops order F A K pre rest D σD σC s) :
    (∀ p ∈ pre, ∀ r ∈ rest, r ∉ ancOf A p ∧ (effOf F p = true → p ∈ ancOf A r) ∧ p ≠ r) ∧ rest.Pairwise fun x y => y ∉ ancOf A x ∧ (effOf F x = true → x ∈ ancOf A y) := by
  have h1 := pl.pair
  have h2 := pl.nodup
  rw [h.split] at h1 h2
  rw [List.pairwise_append] at h1
  rw [List.nodup_append] at h2
  exact ⟨fun p hp r hr => ⟨(h1.2.2 p (by simpa using hp) r hr).1, (h1.2.2 p (by simpa using hp) r hr).2, h2.2.2 p (by simpa using hp) r hr⟩, h1.2.1⟩
/-- What floats, done in the one order's turn. -/
theorem Inv.float {pre rest : List Nat} {i : Nat} {o : Oper} {v : V} {D : Array Bool} {σD σC : Fr} {s : S} (pl : Plan N ops order F A) (h : Inv P N ops order F A K pre (i :: rest) D σD σC s) (ho : ops[i]? = some o) (he : effOf F i = false)
    (hst : (match vwanted ops σC o with | some true => vop P o σC s = some (v, s) | some false => v = .und | none => False)) (hw : VDr P N ops F A K (i :: pre) rest (putO σC o.dst v) s) : Inv P N ops order F A K (i :: pre) rest D σD (putO σC o.dst v) s := by
  have hrel := (h.rel pl).1
  have hnd : ¬ dn D i := h.hrest i (by simp)
  have hsame : ∀ p o', ops[p]? = some o' → i ∉ ancOf A p → SameAt σC (putO σC o.dst v) (o'.looksAt ops) := by
    intro p o' hp' hn t ht
    refine (putO_other fun e => hn ?_).symm
    exact pl.look i p o o' ho hp' he t e ht
  refine ⟨h.size, h.closed, by rw [h.split]; simp, fun j hj => h.hrest j (by simp [hj]), fun p hp hd => ?_, fun d hd => ?_, hw⟩
  · rcases List.mem_cons.1 hp with rfl | hp
    · refine ⟨he, ?_⟩
      have hs := hsame p o ho (pl.irr p)
      unfold VStable
      rw [ho]
      simp only
      rw [← vwanted_congr hs, ← vop_congr (vev_looks hs)]
      have hat : atO (putO σC o.dst v) o.dst v := by
        cases e : o.dst with
        | none => trivial
        | some d => exact putO_same
      split at hst
      · rename_i e; first | (rw [e, hst]; exact ⟨rfl, hat⟩) | (rw [hst]; exact ⟨rfl, hat⟩)
      · rename_i e; first | (rw [e]; subst hst; exact hat) | (subst hst; exact hat)
      · exact hst.elim
    · obtain ⟨k1, k2⟩ := h.hpre p hp hd
      refine ⟨k1, ?_⟩
      have hpi := hrel p hp i (by simp)
      have hpo : ∃ o', ops[p]? = some o' := by
        have hps : p < ops.size := (pl.all p).2 (by rw [h.split]; simp [hp])
        exact ⟨_, Array.getElem?_eq_getElem hps⟩
      obtain ⟨o', ho'⟩ := hpo
      refine stable_congr k2 ho' (hsame p o' ho' hpi.1) fun d hd' => putO_other fun e => ?_
      exact pl.dst i p o o' ho ho' he (fun x => hpi.2.2 x.symm) d e hd'
  · rw [putO_other (hd i (by simp) hnd o ho)]
    exact h.agree d fun p hp => hd p (by simp [hp])
theorem Inv.advance (pl : Plan N ops order F A) {D : Array Bool} {σD : Fr} {s : S} : ∀ (rest pre : List Nat) (σC : Fr), Inv P N ops order F A K pre rest D σD σC s →
    ∃ pre' rest' σC', Inv P N ops order F A K pre' rest' D σD σC' s ∧ (rest' = [] ∨ ∃ h t, rest' = h :: t ∧ effOf F h = true)
  | [], pre, σC, h => ⟨pre, [], σC, h, .inl rfl⟩
  | i :: rest, pre, σC, h => by
    cases he : effOf F i with
    | true => exact ⟨pre, i :: rest, σC, h, .inr ⟨i, rest, rfl, he⟩⟩
    | false =>
      have hw := h.walk
      unfold VDr at hw
      cases ho : ops[i]? with
      | none => rw [ho] at hw; exact hw.elim
      | some o =>
        rw [ho] at hw
        simp only [he] at hw
        cases hv : vwanted ops σC o with
        | none => rw [hv] at hw; exact hw.elim
        | some b =>
          rw [hv] at hw
          cases b with
          | true =>
            simp only at hw
            split at hw
            case h_2 => exact hw.elim
            rename_i v s' hvop
            obtain ⟨rfl, hw⟩ := hw
            exact Inv.advance pl rest (i :: pre) _ (h.float pl ho he (by rw [hv]; exact hvop) hw)
          | false => exact Inv.advance pl rest (i :: pre) _ (h.float pl ho he (by rw [hv]) hw)
theorem Inv.finish (pl : Plan N ops order F A) {pre rest : List Nat} {D : Array Bool} {σD σC : Fr} {s : S} (h : Inv P N ops order F A K pre rest D σD σC s) (hr : Region.ready .any ops D = []) : K σD s := by
  have hall := all_done pl h.size hr
  have hmem : ∀ i, i ∈ pre.reverse ++ rest → dn D i := fun i hi => hall i ((pl.all i).2 (by rw [h.split]; exact hi))
  cases hrest : rest with
  | cons i r =>
    exact (h.hrest i (by rw [hrest]; simp) (hmem i (by rw [hrest]; simp))).elim
  | nil =>
    have hw := h.walk
    rw [hrest] at hw
    have : σD = σC := funext fun d => h.agree d fun p hp hd => (hd (hmem p (by simp [hp]))).elim
    rw [this]
    exact hw
theorem VDr_any (pl : Plan N ops order F A) : ∀ (fuel : Nat) (D : Array Bool) (pre rest : List Nat) (σD σC : Fr) (s : S), Inv P N ops order F A K pre rest D σD σC s → left ops D ≤ fuel → VAny P N ops K fuel D σD s
  | 0, D, pre, rest, σD, σC, s, h, hf => by
    have hr : Region.ready .any ops D = [] := by
      cases hr : Region.ready .any ops D with
      | nil => rfl
      | cons i r =>
        have hi : i ∈ Region.ready .any ops D := by rw [hr]; simp
        have hlt := ready_lt hi
        have ho : ops[i]? = some ops[i] := Array.getElem?_eq_getElem hlt
        have := left_set h.size hlt ((ready_iff h.size ho).1 hi).1
        omega
    exact ⟨hr, h.finish pl hr⟩
  | fuel + 1, D, pre, rest, σD, σC, s, h, hf => by
    refine ⟨fun hr => h.finish pl hr, fun i hi => ?_⟩
    obtain ⟨pre, rest, σC, h, hadv⟩ := Inv.advance pl rest pre σC h
    have hlt := ready_lt hi
    have ho : ops[i]? = some ops[i] := Array.getElem?_eq_getElem hlt
    generalize ops[i] = o at ho
    obtain ⟨hnd, hedge⟩ := (ready_iff h.size ho).1 hi
    have hanc := pl.anc_done h.closed i o ho hedge
    have hsz : i < D.size := by rw [h.size]; exact hlt
    have hset : ∀ j, dn (D.setIfInBounds i true) j ↔ (j = i ∨ dn D j) := fun j => dn_set hsz
    have hleft : left ops (D.setIfInBounds i true) ≤ fuel := by have := left_set h.size hlt hnd; omega
    have hclosed : Closed ops (D.setIfInBounds i true) := by
      intro j o' ho' hj e he hb
      rcases (hset j).1 hj with rfl | hj
      · rw [ho] at ho'; cases ho'
        exact (hset _).2 (.inr (hedge e he hb))
      · exact (hset _).2 (.inr (h.closed j o' ho' hj e he hb))
    have hsame : SameAt σC σD (o.looksAt ops) := by
      intro t ht
      refine (h.agree t fun p hp hd o' ho' e => hd ?_).symm
      exact hanc p (pl.look p i o' o ho' ho (h.hpre p hp hd).1 t e ht)
    have hrel := h.rel pl
    unfold VStepAt
    rw [ho]
    simp only
    have hmem : i ∈ pre ∨ i ∈ rest := by
      have := (pl.all i).1 hlt
      rw [h.split] at this
      simpa using this
    -- in what is still to come only the head can be done now
    have hhead : i ∈ rest → ∃ t, rest = i :: t ∧ effOf F i = true := by
      intro hir
      rcases hadv with rfl | ⟨x, t, rfl, hx⟩
      · cases hir
      · rcases List.mem_cons.1 hir with rfl | hit
        · exact ⟨t, rfl, hx⟩
        · have := (List.pairwise_cons.1 hrel.2).1 i hit
          exact (h.hrest x (by simp) (hanc x (this.2 hx))).elim
    by_cases hip : i ∈ pre
    · obtain ⟨he, hst⟩ := h.hpre i hip hnd
      have hnr : i ∉ rest := fun hr => ((hrel.1 i hip i hr).2.2 rfl).elim
      have next : ∀ v, atO σC o.dst v → VAny P N ops K fuel (D.setIfInBounds i true) (putO σD o.dst v) s := by
        intro v hv
        refine VDr_any pl fuel _ pre rest _ σC s ⟨by simp [h.size], hclosed, h.split, fun j hj hd => ?_, fun p hp hd => h.hpre p hp fun hd' => hd ((hset p).2 (.inr hd')), fun d hd => ?_, h.walk⟩ hleft
        · rcases (hset j).1 hd with rfl | hd
          · exact hnr hj
          · exact h.hrest j hj hd
        · by_cases e : o.dst = some d
          · rw [e] at hv ⊢
            rw [putO_same]
            exact hv.symm
          · rw [putO_other e]
            refine h.agree d fun p hp hd' o' ho' => ?_
            by_cases epi : p = i
            · subst epi; rw [ho] at ho'; cases ho'; exact e
            · exact hd p hp (fun x => ((hset p).1 x).elim epi hd') o' ho'
      unfold VStable at hst
      rw [ho] at hst
      simp only at hst
      refine ⟨pl.dok i o ho, ?_⟩
      rw [← vwanted_congr hsame]
      split at hst
      · rename_i e; rw [e]
        split at hst
        case h_2 => exact hst.elim
        rename_i v s' hv
        obtain ⟨rfl, hat⟩ := hst
        exact VOp_of_vop (by rw [← vop_congr (vev_looks hsame)]; exact hv) (next v hat)
      · rename_i e; rw [e]; exact next _ hst
      · exact hst.elim
    · have hir : i ∈ rest := hmem.resolve_left hip
      obtain ⟨t, rfl, he⟩ := hhead hir
      have hw := h.walk
      unfold VDr at hw
      rw [ho] at hw
      simp only [he] at hw
      refine VStep_congr hw hsame fun v s' hk => ?_
      obtain ⟨hk1, hk2⟩ := hk
      have hnt : i ∉ t := by
        have h2 := pl.nodup
        rw [h.split, List.nodup_append] at h2
        exact (List.nodup_cons.1 h2.2.1).1
      refine VDr_any pl fuel _ (i :: pre) t _ (putO σC o.dst v) s' ⟨by simp [h.size], hclosed, by rw [h.split]; simp, fun j hj hd => ?_, fun p hp hd => ?_, fun d hd => ?_, hk2⟩ hleft
      · rcases (hset j).1 hd with rfl | hd
        · exact hnt hj
        · exact h.hrest j (by simp [hj]) hd
      · rcases List.mem_cons.1 hp with rfl | hp
        · exact (hd ((hset p).2 (.inl rfl))).elim
        · have hd' : ¬ dn D p := fun x => hd ((hset p).2 (.inr x))
          have hpe := (h.hpre p hp hd').1
          refine ⟨hpe, hk1.get p ?_⟩
          unfold floats
          simp only [List.mem_filter, Bool.and_eq_true, Bool.not_eq_true', hpe, List.contains_eq_mem, decide_eq_false_iff_not, true_and]
          exact ⟨hp, fun x => hd' (hanc p x)⟩
      · by_cases e : o.dst = some d
        · rw [e, putO_same, putO_same]
        · rw [putO_other e, putO_other e]
          refine h.agree d fun p hp hd' o' ho' => hd p (by simp [hp]) (fun x => ((hset p).1 x).elim (fun y => hip (y ▸ hp)) hd') o' ho'
end
end Go.Proofs.YtbnbmcplmipgdaaGreatDoor
namespace Go.Proofs.YtbnbmcplmipgdaaGreatDoor
open Go
def pairB (R : Nat → Nat → Bool) : List Nat → Bool
  | [] => true
  | x :: l => l.all (R x) && pairB R l
theorem pairB_spec {R : Nat → Nat → Bool} : ∀ {l : List Nat}, pairB R l = true → l.Pairwise fun x y => R x y = true
  | [], _ => .nil
  | x :: l, h => by
    simp only [pairB, Bool.and_eq_true, List.all_eq_true] at h
    exact .cons h.1 (pairB_spec h.2)
def eachOp (ops : Array Oper) (f : Nat → Oper → Bool) : Bool := (List.range ops.size).all fun i => match ops[i]? with | some o => f i o | none => true
theorem eachOp_spec {ops : Array Oper} {f : Nat → Oper → Bool} (h : eachOp ops f = true) {i : Nat} {o : Oper} (ho : ops[i]? = some o) : f i o = true := by
  have hi : i < ops.size := (Array.getElem?_eq_some_iff.1 ho).1
  have := List.all_eq_true.1 h i (List.mem_range.2 hi)
  rw [ho] at this
  exact this
def planB (N : Nat) (ops : Array Oper) (order F : List Nat) (A : List (List Nat)) : Bool :=
  pairB (fun x y => x != y && (!(ancOf A x).contains y && (!effOf F x || (ancOf A y).contains x))) order &&
  ((List.range ops.size).all (order.contains ·) && order.all (fun i => decide (i < ops.size))) &&
  eachOp ops (fun i o => dstOk N o && ((ancOf A i).all (fun a => o.after.toList.any fun e => Region.binds .any e && (e.on == a || (ancOf A e.on).contains a)) &&
    (o.after.toList.all (fun e => !Region.binds .any e || decide (e.on < i)) &&
    (effOf F i || eachOp ops (fun j o' => match o.dst with | none => true | some d => (i == j || o'.dst != some d) && (!(o'.looksAt ops).contains d || (ancOf A j).contains i)))))) &&
  (List.range A.length).all fun i => !(ancOf A i).contains i
theorem planB_spec {N : Nat} {ops : Array Oper} {order F : List Nat} {A : List (List Nat)} (h : planB N ops order F A = true) : Plan N ops order F A := by
  simp only [planB, Bool.and_eq_true] at h
  obtain ⟨⟨⟨h1, h2, h3⟩, h4⟩, h5⟩ := h
  have hp := pairB_spec h1
  have each : ∀ {i : Nat} {o : Oper}, ops[i]? = some o → _ := fun {i o} ho => eachOp_spec h4 ho
  simp only [Bool.and_eq_true] at each
  refine ⟨hp.imp fun h => ?_, fun i => ⟨fun hi => ?_, fun hi => ?_⟩, fun i o ho => (each ho).1, fun i o ho a ha => ?_, fun i o ho e he hb => ?_, hp.imp fun h => ?_, fun i hi => ?_, fun i j o o' ho ho' he hij d hd => ?_, fun i j o o' ho ho' he d hd hl => ?_⟩
  · simp only [Bool.and_eq_true, bne_iff_ne] at h; exact h.1
  · simpa using List.all_eq_true.1 h2 i (List.mem_range.2 hi)
  · simpa using List.all_eq_true.1 h3 i hi
  · have := List.all_eq_true.1 (each ho).2.1 a ha
    simp only [List.any_eq_true, Bool.and_eq_true, Bool.or_eq_true, beq_iff_eq, List.contains_eq_mem, decide_eq_true_eq] at this
    obtain ⟨e, h1, h2, h3⟩ := this
    exact ⟨e, by simpa using h1, h2, h3⟩
  · have := List.all_eq_true.1 (each ho).2.2.1 e (by simpa using he)
    simpa [hb] using this
  · simp only [Bool.and_eq_true, Bool.not_eq_true', Bool.or_eq_true, List.contains_eq_mem, decide_eq_false_iff_not, decide_eq_true_eq] at h
    refine ⟨h.2.1, fun hx => ?_⟩
    rcases h.2.2 with h | h
    · rw [hx] at h; cases h
    · exact h
  · by_cases hlt : i < A.length
    · have := List.all_eq_true.1 h5 i (List.mem_range.2 hlt)
      simp at this
      exact this hi
    · unfold ancOf at hi
      rw [List.getD_eq_getElem?_getD, List.getElem?_eq_none (by omega)] at hi
      cases hi
  · have h6 := (each ho).2.2.2
    rw [he, Bool.false_or] at h6
    have := eachOp_spec h6 ho'
    rw [hd] at this
    simp only [Bool.and_eq_true, Bool.or_eq_true, beq_iff_eq, bne_iff_ne] at this
    exact this.1.resolve_left hij
  · have h6 := (each ho).2.2.2
    rw [he, Bool.false_or] at h6
    have := eachOp_spec h6 ho'
    rw [hd] at this
    simp only [Bool.and_eq_true, Bool.or_eq_true, Bool.not_eq_true', List.contains_eq_mem, decide_eq_false_iff_not, decide_eq_true_eq] at this
    exact this.2.resolve_left (fun x => x hl)
/-! ### Another's variable, written -/
@[simp] theorem vars_setVar (s : S) (l : Nat) (cs : List V) : (s.setVar l cs).vars l = some cs := by simp [S.setVar]
@[simp] theorem next_setVar (s : S) (l : Nat) (cs : List V) : (s.setVar l cs).next = s.next := by simp [S.setVar]
@[simp] theorem setVar_setVar (s : S) (l : Nat) (a b : List V) : (s.setVar l a).setVar l b = s.setVar l b := by
  unfold S.setVar
  congr 1
  funext x
  by_cases h : x = l <;> simp [h]
theorem vars_setVar_ne {s : S} {l k : Nat} (h : k ≠ l) (cs : List V) : (s.setVar l cs).vars k = s.vars k := by simp [S.setVar, h]
end Go.Proofs.YtbnbmcplmipgdaaGreatDoor
namespace Go.Proofs.YtbnbmcplmipgdaaGreatDoor
open Go
@[simp] theorem ext_ext (s : S) (xs ys : List Own) : (s.ext xs).ext ys = s.ext (xs ++ ys) := by
  have key : ∀ x, ¬ x < s.next → (x < s.next + xs.length ↔ x - s.next < xs.length) := fun x _ => by omega
  refine S.ext_eq (fun x => ?_) (fun x => ?_) (by simp [S.ext]; omega)
  all_goals
    simp only [S.ext]
    by_cases h : x < s.next
    · simp [h, show x < s.next + xs.length by omega]
    · by_cases h2 : x - s.next < xs.length
      · simp [h, (key x h).2 h2, List.getElem?_append_left h2]
      · have h3 : ¬ x < s.next + xs.length := fun e => h2 ((key x h).1 e)
        simp only [h, h3, if_false, List.getElem?_append_right (Nat.le_of_not_lt h2)]
        rw [show x - (s.next + xs.length) = x - s.next - xs.length by omega]
end Go.Proofs.YtbnbmcplmipgdaaGreatDoor
