/-
  The rule for drawn regions, with its plan checked by a closed test. Own work; no condition.
-/
import Derived.Test.YtejdgmdebfkkeaaVDrawn3
import Derived.Test.YtejdgmdebfkkeaaVExt
namespace Go.Proofs.Ytejdgmdebfkkeaa
open Go

def pairB (R : Nat → Nat → Bool) : List Nat → Bool
  | [] => true
  | x :: l => l.all (R x) && pairB R l

theorem pairB_spec {R : Nat → Nat → Bool} : ∀ {l : List Nat}, pairB R l = true → l.Pairwise fun x y => R x y = true
  | [], _ => .nil
  | x :: l, h => by
    simp only [pairB, Bool.and_eq_true, List.all_eq_true] at h
    exact .cons h.1 (pairB_spec h.2)

def eachOp (ops : Array Oper) (f : Nat → Oper → Bool) : Bool := (List.range ops.size).all fun i => match ops[i]? with | some o => f i o | none => true

theorem eachOp_spec {ops : Array Oper} {f : Nat → Oper → Bool} (h : eachOp ops f = true) {i : Nat} {o : Oper} (ho : ops[i]? = some o) : f i o = true := by
  have hi : i < ops.size := (Array.getElem?_eq_some_iff.1 ho).1
  have := List.all_eq_true.1 h i (List.mem_range.2 hi)
  rw [ho] at this
  exact this

def planB (N : Nat) (ops : Array Oper) (order F : List Nat) (A : List (List Nat)) : Bool :=
  pairB (fun x y => x != y && (!(ancOf A x).contains y && (!effOf F x || (ancOf A y).contains x))) order &&
  ((List.range ops.size).all (order.contains ·) && order.all (fun i => decide (i < ops.size))) &&
  eachOp ops (fun i o => dstOk N o && ((ancOf A i).all (fun a => o.after.toList.any fun e => Region.binds .any e && (e.on == a || (ancOf A e.on).contains a)) &&
    (o.after.toList.all (fun e => !Region.binds .any e || decide (e.on < i)) &&
    (effOf F i || eachOp ops (fun j o' => match o.dst with | none => true | some d => (i == j || o'.dst != some d) && (!(o'.looksAt ops).contains d || (ancOf A j).contains i)))))) &&
  (List.range A.length).all fun i => !(ancOf A i).contains i

theorem planB_spec {N : Nat} {ops : Array Oper} {order F : List Nat} {A : List (List Nat)} (h : planB N ops order F A = true) : Plan N ops order F A := by
  simp only [planB, Bool.and_eq_true] at h
  obtain ⟨⟨⟨h1, h2, h3⟩, h4⟩, h5⟩ := h
  have hp := pairB_spec h1
  have each : ∀ {i : Nat} {o : Oper}, ops[i]? = some o → _ := fun {i o} ho => eachOp_spec h4 ho
  simp only [Bool.and_eq_true] at each
  refine ⟨hp.imp fun h => ?_, fun i => ⟨fun hi => ?_, fun hi => ?_⟩, fun i o ho => (each ho).1, fun i o ho a ha => ?_, fun i o ho e he hb => ?_, hp.imp fun h => ?_, fun i hi => ?_, fun i j o o' ho ho' he hij d hd => ?_, fun i j o o' ho ho' he d hd hl => ?_⟩
  · simp only [Bool.and_eq_true, bne_iff_ne] at h; exact h.1
  · simpa using List.all_eq_true.1 h2 i (List.mem_range.2 hi)
  · simpa using List.all_eq_true.1 h3 i hi
  · have := List.all_eq_true.1 (each ho).2.1 a ha
    simp only [List.any_eq_true, Bool.and_eq_true, Bool.or_eq_true, beq_iff_eq, List.contains_eq_mem, decide_eq_true_eq] at this
    obtain ⟨e, h1, h2, h3⟩ := this
    exact ⟨e, by simpa using h1, h2, h3⟩
  · have := List.all_eq_true.1 (each ho).2.2.1 e (by simpa using he)
    simpa [hb] using this
  · simp only [Bool.and_eq_true, Bool.not_eq_true', Bool.or_eq_true, List.contains_eq_mem, decide_eq_false_iff_not, decide_eq_true_eq] at h
    refine ⟨h.2.1, fun hx => ?_⟩
    rcases h.2.2 with h | h
    · rw [hx] at h; cases h
    · exact h
  · by_cases hlt : i < A.length
    · have := List.all_eq_true.1 h5 i (List.mem_range.2 hlt)
      simp at this
      exact this hi
    · unfold ancOf at hi
      rw [List.getD_eq_getElem?_getD, List.getElem?_eq_none (by omega)] at hi
      cases hi
  · have h6 := (each ho).2.2.2
    rw [he, Bool.false_or] at h6
    have := eachOp_spec h6 ho'
    rw [hd] at this
    simp only [Bool.and_eq_true, Bool.or_eq_true, beq_iff_eq, bne_iff_ne] at this
    exact this.1.resolve_left hij
  · have h6 := (each ho).2.2.2
    rw [he, Bool.false_or] at h6
    have := eachOp_spec h6 ho'
    rw [hd] at this
    simp only [Bool.and_eq_true, Bool.or_eq_true, Bool.not_eq_true', List.contains_eq_mem, decide_eq_false_iff_not, decide_eq_true_eq] at this
    exact this.2.resolve_left (fun x => x hl)

theorem VWp.drawnBy {P : Program} {N id : Nat} {ops : Array Oper} {Q : Exit → Fr → S → Prop} {σ : Fr} {s : S} (order F : List Nat) (A : List (List Nat)) (hm : P.follows .mixedOrders = true) (hp : planB N ops order F A = true)
    (h : VDr P N ops F A (Q .normal) [] order σ s) : VWp P N (.region id ops true) Q σ s := by
  refine VWp.drawn hm (VDr_any (planB_spec hp) _ _ [] order σ σ s ⟨by simp, fun i o ho hd => ?_, by simp, fun i hi hd => ?_, by simp, fun d _ => rfl, h⟩ ?_)
  · unfold dn at hd
    by_cases hi : i < ops.size <;> simp [Array.getD_eq_getD_getElem?, hi] at hd
  · unfold dn at hd
    by_cases hi : i < ops.size <;> simp [Array.getD_eq_getD_getElem?, hi] at hd
  · unfold left
    exact Nat.le_trans (List.length_filter_le _ _) (by simp)

/-! ### Another's variable, written -/
@[simp] theorem vars_setVar (s : S) (l : Nat) (cs : List V) : (s.setVar l cs).vars l = some cs := by simp [S.setVar]
@[simp] theorem next_setVar (s : S) (l : Nat) (cs : List V) : (s.setVar l cs).next = s.next := by simp [S.setVar]
@[simp] theorem setVar_setVar (s : S) (l : Nat) (a b : List V) : (s.setVar l a).setVar l b = s.setVar l b := by
  unfold S.setVar
  congr 1
  funext x
  by_cases h : x = l <;> simp [h]
theorem vars_setVar_ne {s : S} {l k : Nat} (h : k ≠ l) (cs : List V) : (s.setVar l cs).vars k = s.vars k := by simp [S.setVar, h]

end Go.Proofs.Ytejdgmdebfkkeaa
