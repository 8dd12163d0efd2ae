/-
  The value level's logic: code, calls, regions in the text's order. Own work; no condition.
-/
import Derived.Test.YtejdgmdebfkkeaaVCode
namespace Go.Proofs.Ytejdgmdebfkkeaa
open Go

abbrev Fr := Nat → V

/-- What stands behind an exit of a piece of code, seen from where it began. -/
def After (E : Env) (s : S) (N : Nat) (Q : Exit → Fr → S → Prop) (e : Exit) (a' : Act) (w' : World) : Prop :=
  ∃ E' σ' s', E'.w = w' ∧ Q e σ' s' ∧ RelS E' s' ∧ RepA E' σ' N a' ∧ Step E s E' s'

def VWp (P : Program) (N : Nat) (c : Code) (Q : Exit → Fr → S → Prop) (σ : Fr) (s : S) : Prop :=
  ∀ E a, RelS E s → RepA E σ N a → c.wp P (After E s N Q) a E.w

def VCalls (P : Program) (f : FuncId) (args : List V) (s : S) (R : V → S → Prop) : Prop :=
  ∀ E vals, RelS E s → RepL E args vals → Calls P f vals.toArray E.w (fun e w' => ∃ E' v val s', e = .returned val ∧ E'.w = w' ∧ R v s' ∧ RelS E' s' ∧ RepV E' v val ∧ Step E s E' s')

theorem VCalls.mono {P : Program} {f : FuncId} {args : List V} {s : S} {R R' : V → S → Prop} (h : VCalls P f args s R) (hr : ∀ v s', R v s' → R' v s') : VCalls P f args s R' :=
  fun E vals h1 h2 => (h E vals h1 h2).mono fun _ _ ⟨E', v, val, s', a, b, c, d⟩ => ⟨E', v, val, s', a, b, hr _ _ c, d⟩

/-- The arguments' slices may be taken for ones that are not to be appended to. -/
theorem VCalls.forget {P : Program} {f : FuncId} {args : List V} {s : S} {R : V → S → Prop} (h : VCalls P f (args.map V.forget) s R) : VCalls P f args s R :=
  fun E vals h1 h2 => h E vals h1 h2.forget

theorem VWp.mono {P : Program} {N : Nat} {c : Code} {Q Q' : Exit → Fr → S → Prop} {σ : Fr} {s : S} (h : VWp P N c Q σ s) (hq : ∀ e σ s, Q e σ s → Q' e σ s) : VWp P N c Q' σ s :=
  fun E a h1 h2 => wp_mono (h E a h1 h2) fun _ _ _ ⟨E', σ', s', x, y, z⟩ => ⟨E', σ', s', x, hq _ _ _ y, z⟩

def vthen (K : Fr → S → Prop) (Q : Exit → Fr → S → Prop) : Exit → Fr → S → Prop
  | .normal, σ, s => K σ s
  | e, σ, s => Q e σ s

theorem After.trans {E E1 : Env} {s s1 : S} {N : Nat} {Q : Exit → Fr → S → Prop} {e : Exit} {a : Act} {w : World} (st : Step E s E1 s1) (h : After E1 s1 N Q e a w) : After E s N Q e a w := by
  obtain ⟨E', σ', s', x, y, z, t, u⟩ := h
  exact ⟨E', σ', s', x, y, z, t, st.trans u⟩

theorem VWp.seq {P : Program} {N : Nat} {x y : Code} {Q : Exit → Fr → S → Prop} {σ : Fr} {s : S} (h : VWp P N x (vthen (fun σ' s' => VWp P N y Q σ' s') Q) σ s) : VWp P N (.seq x y) Q σ s := by
  intro E a h1 h2
  refine wp_seq (wp_mono (h E a h1 h2) fun e a' w' ha => ?_)
  obtain ⟨E', σ', s', rfl, hq, h3, h4, h5⟩ := ha
  cases e with
  | normal => exact wp_mono (hq E' a' h3 h4) fun _ _ _ hz => hz.trans h5
  | _ => exact ⟨E', σ', s', rfl, hq, h3, h4, h5⟩

theorem VWp.skip {P : Program} {N : Nat} {Q : Exit → Fr → S → Prop} {σ : Fr} {s : S} (h : Q .normal σ s) : VWp P N .skip Q σ s :=
  fun E _ h1 h2 => wp_skip ⟨E, σ, s, rfl, h, h1, h2, .refl _ _⟩

theorem VWp.ret {P : Program} {N : Nat} {Q : Exit → Fr → S → Prop} {σ : Fr} {s : S} (h : Q .ret σ s) : VWp P N .ret Q σ s :=
  fun E _ h1 h2 => wp_ret ⟨E, σ, s, rfl, h, h1, h2, .refl _ _⟩

theorem VWp.exit {P : Program} {N id : Nat} {Q : Exit → Fr → S → Prop} {σ : Fr} {s : S} (h : Q (.exit id) σ s) : VWp P N (.exit id) Q σ s :=
  fun E _ h1 h2 => wp_exit ⟨E, σ, s, rfl, h, h1, h2, .refl _ _⟩

/-- A test: its value at the value level. -/
theorem VWp.cond {P : Program} {N : Nat} {c : Operand} {x y : Code} {Q : Exit → Fr → S → Prop} {σ : Fr} {s : S} {b : Bool} (hc : vev σ c = some (.bool b)) (ht : b = true → VWp P N x Q σ s) (hf : b = false → VWp P N y Q σ s) :
    VWp P N (.cond c x y) Q σ s := by
  intro E a h1 h2
  have hv := vev_sound h2 hc
  generalize he : a.eval c = cv at hv
  cases hv
  cases b
  · exact wp_cond_false he (hf rfl E a h1 h2)
  · exact wp_cond_true he (ht rfl E a h1 h2)

def vinBlock (id : Nat) (Q : Exit → Fr → S → Prop) : Exit → Fr → S → Prop
  | .exit id', σ, s => if id' = id then Q .normal σ s else Q (.exit id') σ s
  | e, σ, s => Q e σ s

theorem VWp.block {P : Program} {N id : Nat} {c : Code} {Q : Exit → Fr → S → Prop} {σ : Fr} {s : S} (h : VWp P N c (vinBlock id Q) σ s) : VWp P N (.block id c) Q σ s := by
  intro E a h1 h2
  refine wp_block (wp_mono (h E a h1 h2) fun e a' w' ha => ?_)
  obtain ⟨E', σ', s', rfl, hq, h3, h4, h5⟩ := ha
  cases e with
  | exit id' =>
    simp only [vinBlock] at hq
    simp only [Exit.inBlock]
    split
    · rename_i e1; rw [if_pos e1] at hq; exact ⟨E', σ', s', rfl, hq, h3, h4, h5⟩
    · rename_i e1; rw [if_neg e1] at hq; exact ⟨E', σ', s', rfl, hq, h3, h4, h5⟩
  | _ => exact ⟨E', σ', s', rfl, hq, h3, h4, h5⟩

/-- A loop: J holds at every round's head, its number goes down. -/
theorem VWp.loop {P : Program} {N : Nat} {c : Code} {Q : Exit → Fr → S → Prop} {σ : Fr} {s : S} (J : Nat → Fr → S → Prop) (n : Nat) (h0 : J n σ s)
    (round : ∀ n σ s, J n σ s → VWp P N c (vthen (fun σ' s' => ∃ m, m < n ∧ J m σ' s') Q) σ s) : VWp P N (.loop c) Q σ s := by
  intro E a h1 h2
  refine wp_loop_ghost (fun n a w => ∃ E1 σ1 s1, E1.w = w ∧ J n σ1 s1 ∧ RelS E1 s1 ∧ RepA E1 σ1 N a ∧ Step E s E1 s1) n ⟨E, σ, s, rfl, h0, h1, h2, .refl _ _⟩ ?_
  rintro n a1 w1 ⟨E1, σ1, s1, rfl, hJ, h3, h4, h5⟩
  refine wp_mono (round n σ1 s1 hJ E1 a1 h3 h4) fun e a' w' ha => ?_
  obtain ⟨E', σ', s', rfl, hq, k3, k4, k5⟩ := ha
  cases e with
  | normal =>
    obtain ⟨m, hm, hJm⟩ := hq
    exact ⟨m, hm, E', σ', s', rfl, hJm, k3, k4, h5.trans k5⟩
  | _ => exact ⟨E', σ', s', rfl, hq, k3, k4, h5.trans k5⟩

/-! ### One operation -/
def putO (σ : Fr) : Option Nat → V → Fr
  | some d, v => put σ d v
  | none, _ => σ

def dstOk (N : Nat) (o : Oper) : Bool := match o.dst with | some d => decide (d < N) | none => true

def vyield (ops : Array Oper) (σ : Fr) (j : Nat) : Option Bool :=
  match (ops[j]?).bind (·.dst) with
  | some d => match σ d with
    | .bool b => some b
    | _ => none
  | none => none

/-- Is the operation carried out? ('none': that can't be told.) -/
def vwanted (ops : Array Oper) (σ : Fr) (o : Oper) : Option Bool :=
  match o.guard with
  | none => some true
  | some (j, want) => match (ops[j]?).bind (·.dst) with
    | some d => match σ d with
      | .bool b => some (b == want)
      | .und => some false
      | _ => none
    | none => none

theorem vwanted_sound {E : Env} {σ : Fr} {N : Nat} {a : Act} {ops : Array Oper} {o : Oper} {b : Bool} (ha : RepA E σ N a) (h : vwanted ops σ o = some b) : Region.wanted o (yielded ops a.tmps) = b := by
  unfold vwanted at h
  unfold Region.wanted
  split at h
  · rename_i hg; cases h; rw [hg]
  · rename_i j want hg
    rw [hg]
    split at h
    · rename_i d hd
      have hs := ha.slot d
      split at h
      · rename_i x hx
        cases h
        rw [hx] at hs
        have hv : a.tmps.getD d undef = .bool x := by generalize a.tmps.getD d undef = y at hs; cases hs; rfl
        have hget : a.tmps[d]? = some (.bool x) := by
          rw [Array.getD_eq_getD_getElem?] at hv
          cases hq : a.tmps[d]? with
          | none => rw [hq] at hv; simp [undef] at hv
          | some y => rw [hq] at hv; simp at hv; rw [hv]
        simp only [yielded, hd, Option.bind_some, hget]
        cases x <;> cases want <;> rfl
      · rename_i hx
        cases h
        rw [hx] at hs
        have hv : a.tmps.getD d undef = undef := by generalize a.tmps.getD d undef = y at hs; cases hs; rfl
        simp only [yielded, hd, Option.bind_some]
        cases hq : a.tmps[d]? with
        | none => rfl
        | some y =>
          rw [Array.getD_eq_getD_getElem?, hq] at hv
          simp at hv
          subst hv
          rfl
      · cases h
    · cases h

/-- The function may be called: it has a body. -/
def callOk (P : Program) (f : FuncId) : Bool := match P.funcs[f]? with | some fn => fn.body.isSome && fn.name != "runtime.NumGoroutine" | none => false

/-- What a call of the value 'f' asks. -/
def VCall (P : Program) (x : Option V) (args : Option (List V)) (K : V → S → Prop) (s : S) : Prop :=
  match x, args with
  | some (.fn f caps), some args => callOk P f = true ∧ VCalls P f (args ++ caps) s K
  | _, _ => False

def VOp (P : Program) (o : Oper) (K : Fr → S → Prop) (σ : Fr) (s : S) : Prop :=
  match o.op with
  | .call ⟨.value f, args, _⟩ => VCall P (vev σ f) (vevL σ args.toList) (fun v s' => K (putO σ o.dst v) s') s
  | _ => match vop P o σ s with
    | some (v, s') => K (putO σ o.dst v) s'
    | none => False

def VStep (P : Program) (N : Nat) (ops : Array Oper) (o : Oper) (K : Fr → S → Prop) (σ : Fr) (s : S) : Prop :=
  dstOk N o = true ∧ match vwanted ops σ o with
    | some true => VOp P o K σ s
    | some false => K (putO σ o.dst .und) s
    | none => False

theorem RepA.putO {E : Env} {σ : Fr} {N : Nat} {a : Act} (h : RepA E σ N a) {o : Oper} (hd : dstOk N o = true) {v : V} {val : Value} (hv : RepV E v val) : RepA E (putO σ o.dst v) N (a.put o.dst val) := by
  unfold dstOk at hd
  cases ho : o.dst with
  | none => simpa [Go.Proofs.Ytejdgmdebfkkeaa.putO, Act.put] using h
  | some d => rw [ho] at hd; exact h.put (of_decide_eq_true hd) hv

def Next' (N : Nat) (E : Env) (s : S) (K : Fr → S → Prop) (a' : Act) (w' : World) : Prop :=
  ∃ E' σ' s', E'.w = w' ∧ K σ' s' ∧ RelS E' s' ∧ RepA E' σ' N a' ∧ Step E s E' s'

theorem VOp_sound {P : Program} {N : Nat} {o : Oper} {K : Fr → S → Prop} {σ : Fr} {s : S} (h : VOp P o K σ s) (hd : dstOk N o = true) {E : Env} {a : Act} (hr : RelS E s) (ha : RepA E σ N a) (Q : Exit → Act → World → Prop) :
    o.wp P a E.w (Next' N E s K) Q := by
  unfold VOp at h
  split at h
  · rename_i f args A hop
    unfold VCall at h
    split at h
    case h_2 => exact h.elim
    rename_i g caps vs hf hargs
    obtain ⟨hok, hc⟩ := h
    have hfv := vev_sound ha hf
    have hav := vevL_sound ha hargs
    generalize he : a.eval f = fv at hfv
    cases hfv with
    | @fn _ _ cvals hcaps =>
      have hcall := hc E _ hr (hav.append hcaps)
      have hrun : (execOp a.eval o).run P E.w = .ok (.enter g ((args.toList.map a.eval) ++ cvals).toArray) E.w := by
        unfold callOk at hok
        cases hfn : P.funcs[g]? with
        | none => rw [hfn] at hok; cases hok
        | some fn =>
          rw [hfn] at hok
          simp only [Bool.and_eq_true, bne_iff_ne, ne_eq] at hok
          have hb : fn.body.isNone = false := by cases hbb : fn.body <;> simp_all
          have hn : (fn.name == "runtime.NumGoroutine") = false := by simpa using hok.2
          have hargs' : Array.map a.eval args = (args.toList.map a.eval).toArray := by apply Array.ext'; simp
          simp only [execOp, hop, resolve, Deferred.ofValue, he, Sem.run_bind, Sem.run_pure, Result.andThen_ok, invoke, callFunc, run_program, hfn, hn, hb, Bool.false_eq_true, if_false, hargs']
          simp
      unfold Oper.wp
      rw [hrun, Oper.upon_enter]
      refine hcall.mono fun e w' ⟨E', v, val, s', h1, h2, h3, h4, h5, h6⟩ => ?_
      subst h1
      exact ⟨E', _, s', h2, h3, h4, (ha.evolve h6.ev).putO hd h5, h6⟩
  · split at h
    case h_2 => exact h.elim
    rename_i v s' hv
    obtain ⟨val, E', hrun, h1, h2, h3⟩ := vop_sound hr ha hv
    unfold Oper.wp
    have key : Next' N E s K (a.put o.dst val) E'.w := ⟨E', _, s', rfl, h, h2, (ha.evolve h1.ev).putO hd h3, h1⟩
    rcases hrun with hrun | ⟨hrun, rfl⟩
    · rw [hrun, Oper.upon_value]; exact key
    · rw [hrun, Oper.upon_skip]; exact key

/-! ### A region in the text's order -/
def VOps (P : Program) (N : Nat) (ops : Array Oper) : List Oper → (Fr → S → Prop) → Fr → S → Prop
  | [], K => K
  | o :: rest, K => VStep P N ops o (VOps P N ops rest K)

theorem VOps_sound {P : Program} {N : Nat} {ops : Array Oper} {Q : Exit → Fr → S → Prop} {E0 : Env} {s0 : S} : ∀ (l : List Oper) {σ : Fr} {s : S}, VOps P N ops l (Q .normal) σ s → ∀ E a, Step E0 s0 E s → RelS E s → RepA E σ N a →
    wpList P ops (After E0 s0 N Q) l a E.w
  | [], σ, s, h, E, a, h0, h1, h2 => ⟨E, σ, s, rfl, h, h1, h2, h0⟩
  | o :: rest, σ, s, h, E, a, h0, h1, h2 => by
    obtain ⟨hd, h⟩ := h
    unfold wpList
    cases hw : vwanted ops σ o with
    | none => rw [hw] at h; exact h.elim
    | some b =>
      have hw' := vwanted_sound h2 hw
      rw [hw] at h
      cases b with
      | true =>
        rw [if_pos hw']
        left
        have := VOp_sound (N := N) h hd h1 h2 (After E0 s0 N Q)
        refine Oper.wp_mono (fun a' w' hk => ?_) this
        obtain ⟨E', σ', s', rfl, k1, k2, k3, k4⟩ := hk
        exact VOps_sound rest k1 E' a' (h0.trans k4) k2 k3
      | false =>
        rw [if_neg (by simp [hw'])]
        exact VOps_sound rest h E _ h0 h1 (h2.putO hd .und)

theorem VWp.region {P : Program} {N id : Nat} {ops : Array Oper} {Q : Exit → Fr → S → Prop} {σ : Fr} {s : S} (h : VOps P N ops ops.toList (Q .normal) σ s) : VWp P N (.region id ops false) Q σ s :=
  fun E a h1 h2 => wp_region_list (VOps_sound _ h E a (.refl _ _) h1 h2)

end Go.Proofs.Ytejdgmdebfkkeaa
