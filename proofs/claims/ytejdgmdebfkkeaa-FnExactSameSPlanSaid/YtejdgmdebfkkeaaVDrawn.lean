/-
  Regions whose order is drawn, at the value level: every order that the edges allow, and a rule that walks one order and asks of what floats that it stays as it is. Own work; no condition.
-/
import Derived.Test.YtejdgmdebfkkeaaVWp
import Derived.Orders
namespace Go.Proofs.Ytejdgmdebfkkeaa
open Go

/-! ### What an operation answers hangs on the slots that it looks at -/
def SameAt (σ σ' : Fr) (l : List Nat) : Prop := ∀ t ∈ l, σ t = σ' t

def tmpsOf (xs : List Operand) : List Nat := xs.filterMap fun | .tmp t => some t | _ => none

theorem vev_congr {σ σ' : Fr} {x : Operand} (h : ∀ t, x = .tmp t → σ t = σ' t) : vev σ x = vev σ' x := by
  cases x with
  | tmp t => simp [vev, h t rfl]
  | _ => rfl

theorem vevL_congr {σ σ' : Fr} : ∀ {xs : List Operand}, (∀ x ∈ xs, vev σ x = vev σ' x) → vevL σ xs = vevL σ' xs
  | [], _ => rfl
  | x :: xs, h => by simp only [vevL, h x (by simp), vevL_congr (xs := xs) fun y hy => h y (by simp [hy])]

theorem vparts_congr {σ σ' : Fr} : ∀ {xs : List (Nat × Operand)}, (∀ x ∈ xs.map (·.2), vev σ x = vev σ' x) → vparts σ xs = vparts σ' xs
  | [], _ => rfl
  | (i, x) :: xs, h => by
    simp only [vparts]
    rw [h x (by simp), vparts_congr (xs := xs) fun y hy => h y (by simp at hy ⊢; exact .inr hy)]

theorem vevO_congr {σ σ' : Fr} {x : Option Operand} (h : ∀ y ∈ x.toArray, vev σ y = vev σ' y) : vevO σ x = vevO σ' x := by
  cases x with
  | none => rfl
  | some x => simp only [vevO, h x (by simp)]

theorem vop_congr {P : Program} {o : Oper} {σ σ' : Fr} {s : S} (h : ∀ x ∈ o.op.operands, vev σ x = vev σ' x) : vop P o σ s = vop P o σ' s := by
  obtain ⟨dst, op, type, pos, after, guard⟩ := o
  simp only at h
  cases op with
  | slice T x lo hi mx =>
    simp only [Op.operands] at h
    simp only [vop]
    rw [h x (by simp), vevO_congr (x := lo) (fun y hy => h y (by simp at hy ⊢; simp [hy])), vevO_congr (x := hi) (fun y hy => h y (by simp at hy ⊢; simp [hy])), vevO_congr (x := mx) (fun y hy => h y (by simp at hy ⊢; simp [hy]))]
  | build T parts =>
    simp only [vop]
    rw [vparts_congr (xs := parts.toList) (fun y hy => h y (by simpa [Op.operands] using hy))]
  | buildSlice T len parts =>
    simp only [vop]
    rw [vparts_congr (xs := parts.toList) (fun y hy => h y (by simpa [Op.operands] using hy))]
  | makeFunc fn first captured =>
    simp only [vop]
    rw [vevL_congr (xs := captured.toList) (fun y hy => h y (by simp [Op.operands]; right; simpa using hy))]
  | call c =>
    simp only [vop]
    rw [vevL_congr (xs := c.args.toList) (fun y hy => h y (by simp [Op.operands, Call.operands]; right; simpa using hy))]
  | _ => first | rfl | (simp only [Op.operands] at h; simp at h; simp [vop, h])

theorem vev_looks {ops : Array Oper} {o : Oper} {σ σ' : Fr} (h : SameAt σ σ' (o.looksAt ops)) : ∀ x ∈ o.op.operands, vev σ x = vev σ' x :=
  fun x hx => vev_congr fun t ht => h t (List.mem_append_left _ (List.mem_filterMap.2 ⟨x, by simpa using hx, by rw [ht]⟩))

theorem vwanted_congr {ops : Array Oper} {o : Oper} {σ σ' : Fr} (h : SameAt σ σ' (o.looksAt ops)) : vwanted ops σ o = vwanted ops σ' o := by
  unfold vwanted
  cases hg : o.guard with
  | none => rfl
  | some gw =>
    obtain ⟨j, want⟩ := gw
    simp only
    cases hd : (ops[j]?).bind (·.dst) with
    | none => rfl
    | some d =>
      have : σ d = σ' d := h d (List.mem_append_right _ (by rw [hg]; simp [hd]))
      simp only [this]

theorem VOp_congr {P : Program} {ops : Array Oper} {o : Oper} {σ σ' : Fr} {s : S} {K K' : Fr → S → Prop} (h : VOp P o K σ s) (hs : SameAt σ σ' (o.looksAt ops)) (hk : ∀ v s', K (putO σ o.dst v) s' → K' (putO σ' o.dst v) s') : VOp P o K' σ' s := by
  have hx := vev_looks hs
  unfold VOp at h ⊢
  split at h
  · rename_i f args A hop
    have h1 : vev σ f = vev σ' f := hx f (by rw [hop]; simp [Op.operands, Call.operands])
    have h2 : vevL σ args.toList = vevL σ' args.toList := vevL_congr fun y hy => hx y (by rw [hop]; simp [Op.operands, Call.operands]; right; simpa using hy)
    rw [← h1, ← h2]
    unfold VCall at h ⊢
    split at h
    · exact ⟨h.1, h.2.mono fun v s' => hk v s'⟩
    · exact h.elim
  · rw [← vop_congr hx]
    split at h
    · exact hk _ _ h
    · exact h.elim

theorem VStep_congr {P : Program} {N : Nat} {ops : Array Oper} {o : Oper} {σ σ' : Fr} {s : S} {K K' : Fr → S → Prop} (h : VStep P N ops o K σ s) (hs : SameAt σ σ' (o.looksAt ops)) (hk : ∀ v s', K (putO σ o.dst v) s' → K' (putO σ' o.dst v) s') :
    VStep P N ops o K' σ' s := by
  refine ⟨h.1, ?_⟩
  have h2 := h.2
  rw [vwanted_congr hs] at h2
  split at h2
  · exact VOp_congr h2 hs hk
  · exact hk _ _ h2
  · exact h2.elim

theorem VOp_of_vop {P : Program} {o : Oper} {σ : Fr} {s s' : S} {v : V} {K : Fr → S → Prop} (h : vop P o σ s = some (v, s')) (hk : K (putO σ o.dst v) s') : VOp P o K σ s := by
  unfold VOp
  split
  · rename_i f args A hop
    rw [vop, hop] at h
    cases h
  · rw [h]; exact hk

/-! ### Every order -/
def VStepAt (P : Program) (N : Nat) (ops : Array Oper) (i : Nat) (K : Fr → S → Prop) (σ : Fr) (s : S) : Prop :=
  match ops[i]? with
  | none => K σ s
  | some o => VStep P N ops o K σ s

def VAny (P : Program) (N : Nat) (ops : Array Oper) (K : Fr → S → Prop) : Nat → Array Bool → Fr → S → Prop
  | 0, D, σ, s => Region.ready .any ops D = [] ∧ K σ s
  | fuel + 1, D, σ, s => (Region.ready .any ops D = [] → K σ s) ∧ ∀ i ∈ Region.ready .any ops D, VStepAt P N ops i (VAny P N ops K fuel (D.setIfInBounds i true)) σ s

theorem VAny_sound {P : Program} {N : Nat} {ops : Array Oper} {Q : Exit → Fr → S → Prop} {E0 : Env} {s0 : S} : ∀ (fuel : Nat) (D : Array Bool) {σ : Fr} {s : S}, VAny P N ops (Q .normal) fuel D σ s → ∀ E a, Step E0 s0 E s → RelS E s → RepA E σ N a →
    wpAny P .any ops (After E0 s0 N Q) fuel D a E.w
  | 0, D, σ, s, h, E, a, h0, h1, h2 => ⟨h.1, E, σ, s, rfl, h.2, h1, h2, h0⟩
  | fuel + 1, D, σ, s, h, E, a, h0, h1, h2 => by
    refine ⟨fun hr => ⟨E, σ, s, rfl, h.1 hr, h1, h2, h0⟩, fun i hi => ?_⟩
    have hs := h.2 i hi
    unfold VStepAt at hs
    unfold wpOp
    cases ho : ops[i]? with
    | none =>
      rw [ho] at hs
      exact VAny_sound fuel _ hs E a h0 h1 h2
    | some o =>
      rw [ho] at hs
      simp only at hs ⊢
      obtain ⟨hd, hs⟩ := hs
      cases hw : vwanted ops σ o with
      | none => rw [hw] at hs; exact hs.elim
      | some b =>
        have hw' := vwanted_sound h2 hw
        rw [hw] at hs
        cases b with
        | true =>
          rw [if_pos hw']
          left
          refine Oper.wp_mono (fun a' w' hk => ?_) (VOp_sound (N := N) hs hd h1 h2 (After E0 s0 N Q))
          obtain ⟨E', σ', s', rfl, k1, k2, k3, k4⟩ := hk
          exact VAny_sound fuel _ k1 E' a' (h0.trans k4) k2 k3
        | false =>
          rw [if_neg (by simp [hw'])]
          exact VAny_sound fuel _ hs E _ h0 h1 (h2.putO hd .und)

theorem VWp.drawn {P : Program} {N id : Nat} {ops : Array Oper} {Q : Exit → Fr → S → Prop} {σ : Fr} {s : S} (hm : P.follows .mixedOrders = true) (h : VAny P N ops (Q .normal) ops.size (Array.replicate ops.size false) σ s) :
    VWp P N (.region id ops true) Q σ s := by
  intro E a h1 h2
  refine wp_region_any hm ?_
  let E1 : Env := { E with w := { E.w with drawn := E.w.drawn + 1 } }
  have hc : ∀ x, E1.w.cell? x = E.w.cell? x := fun _ => rfl
  have ev : Evolve E E1 := ⟨fun _ _ h => h, fun _ _ _ => rfl, fun _ _ h => h, fun _ F h => ⟨F, h, Nat.le_refl _, fun _ => rfl⟩⟩
  have st : Step E s E1 s := ⟨ev, rfl, rfl, rfl, Nat.le_refl _, fun _ _ _ => rfl, fun _ _ h => h, Nat.le_refl _⟩
  have r1 : RelS E1 s := by
    refine ⟨fun l cs hl => ?_, h1.varinj, h1.fam, h1.faminj, h1.famvar, h1.fresh, h1.pos, h1.imm⟩
    obtain ⟨g, arr, e, fr, k1, k2⟩ := h1.var l cs hl
    exact ⟨g, arr, e, fr, k1, k2.evolve ev rfl k2.imm⟩
  exact VAny_sound _ _ h E1 a st r1 (h2.evolve ev)

end Go.Proofs.Ytejdgmdebfkkeaa
