/-
  The value level's rule for a function, and what a result may be taken for. Own work; no condition.
-/
import Derived.Test.YtejdgmdebfkkeaaVWp
namespace Go.Proofs.Ytejdgmdebfkkeaa
open Go

def vres1 (P : Program) (σ : Fr) (s : S) : ResultVar → Option V
  | .tmp t => some (σ t)
  | .cell a T => vload P T (σ a) s

def vresL (P : Program) (σ : Fr) (s : S) : List ResultVar → Option (List V)
  | [] => some []
  | r :: rs => (vres1 P σ s r).bind fun v => (vresL P σ s rs).map (v :: ·)

def oneOf : List V → V
  | [v] => v
  | vs => .tup vs

def VPost (P : Program) (rs : List ResultVar) (R : V → S → Prop) : Exit → Fr → S → Prop
  | .normal, σ, s | .ret, σ, s => match vresL P σ s rs with
    | some vs => R (oneOf vs) s
    | none => False
  | _, _, _ => False

def resOne (tmps : Array Value) : ResultVar → Sem Value
  | .tmp t => pure (tmps.getD t undef)
  | .cell x t => do loadVar t (← asAddr (tmps.getD x undef))

theorem results_eq (fn : Func) (tmps : Array Value) : results fn tmps = (do let vs ← fn.results.mapM (resOne tmps); pure (if h : vs.size = 1 then vs[0] else .tuple vs)) := by
  unfold results
  congr 1

theorem run_results1 {P : Program} {E : Env} {σ : Fr} {s : S} {N : Nat} {a : Act} (hr : RelS E s) (ha : RepA E σ N a) : ∀ {rs : List ResultVar} {vs : List V}, vresL P σ s rs = some vs →
    ∃ vals, (rs.mapM (resOne a.tmps)).run P E.w = .ok vals E.w ∧ RepL E vs vals
  | [], vs, h => by cases h; exact ⟨[], by simp, .nil⟩
  | r :: rs, vs, h => by
    simp only [vresL, Option.bind_eq_some_iff, Option.map_eq_some_iff] at h
    obtain ⟨v, hv, l, hl, rfl⟩ := h
    obtain ⟨vals, h1, h2⟩ := run_results1 hr ha hl
    have h3 : ∃ val, ((resOne a.tmps) r).run P E.w = .ok val E.w ∧ RepV E v val := by
      cases r with
      | tmp t => cases hv; exact ⟨_, by simp only [resOne, Sem.run_pure], ha.slot t⟩
      | cell x t =>
        obtain ⟨ad, y, k1, k2, k3⟩ := vload_core (P := P) hr (ha.slot x) hv
        exact ⟨y, by simp only [resOne, k1, asAddr, Sem.run_bind, Sem.run_pure, Result.andThen_ok, k2], k3⟩
    obtain ⟨val, h4, h5⟩ := h3
    refine ⟨val :: vals, ?_, .cons h5 h2⟩
    simp only [List.mapM_cons, Sem.run_bind, h4, Result.andThen_ok, h1, Sem.run_pure]

theorem run_results {P : Program} {E : Env} {σ : Fr} {s : S} {N : Nat} {a : Act} {fn : Func} {vs : List V} (hr : RelS E s) (ha : RepA E σ N a) (h : vresL P σ s fn.results.toList = some vs) :
    ∃ val, (results fn a.tmps).run P E.w = .ok val E.w ∧ RepV E (oneOf vs) val := by
  obtain ⟨vals, h1, h2⟩ := run_results1 (P := P) hr ha h
  have hm : (fn.results.mapM (resOne a.tmps)).run P E.w = .ok vals.toArray E.w := by
    rw [← Array.toArray_toList (xs := fn.results), List.mapM_toArray]
    simp only [Sem.run_map, h1, Result.andThen_ok]
  rw [results_eq]
  simp only [Sem.run_bind, hm, Result.andThen_ok, Sem.run_pure]
  cases h2 with
  | nil => exact ⟨_, rfl, .tup .nil⟩
  | cons k1 k2 =>
    cases k2 with
    | nil => exact ⟨_, rfl, k1⟩
    | cons k2 k3 => exact ⟨_, rfl, .tup (.cons k1 (.cons k2 k3))⟩

def argsFr (args : List V) : Fr := fun t => args.getD t .und

theorem RepL.getD {E : Env} {args : List V} {vals : List Value} (h : RepL E args vals) (t : Nat) : RepV E (args.getD t .und) (vals.getD t undef) := by
  have hl := h.length
  by_cases ht : t < args.length
  · obtain ⟨val, h1, h2⟩ := h.get (List.getElem?_eq_getElem ht)
    rw [List.getD_eq_getElem?_getD, List.getD_eq_getElem?_getD, h1, List.getElem?_eq_getElem ht]
    exact h2
  · rw [List.getD_eq_getElem?_getD, List.getD_eq_getElem?_getD, List.getElem?_eq_none (by omega), List.getElem?_eq_none (by omega)]
    exact .und

/-- A function by its body. -/
theorem VCalls.body {P : Program} {f : FuncId} {fn : Func} {c : Code} {args : List V} {s : S} {R : V → S → Prop} (hf : P.funcs[f]? = some fn) (hb : fn.body = some c) (hn : args.length ≤ fn.ntmps)
    (h : VWp P fn.ntmps c (VPost P fn.results.toList R) (argsFr args) s) : VCalls P f args s R := by
  intro E vals hr hargs
  have hl := hargs.length
  have ha : RepA E (argsFr args) fn.ntmps { tmps := vals.toArray ++ Array.replicate (fn.ntmps - vals.toArray.size) undef, defers := [] } := by
    refine ⟨fun t => ?_, by simp only [Array.size_append, List.size_toArray, Array.size_replicate]; omega, rfl⟩
    have := hargs.getD t
    have e : (vals.toArray ++ Array.replicate (fn.ntmps - vals.toArray.size) undef).getD t undef = vals.getD t undef := by
      rw [Array.getD_eq_getD_getElem?, List.getD_eq_getElem?_getD, Array.getElem?_append]
      split
      · simp
      · rename_i hge
        simp only [List.size_toArray] at hge
        rw [List.getElem?_eq_none (by omega)]
        simp only [Array.getElem?_replicate, Option.getD_none]
        split <;> rfl
    rw [e]
    exact this
  refine calls_of_wp hf hb (wp_mono (h E _ hr ha) fun e a' w' hq => ?_)
  obtain ⟨E', σ', s', rfl, hq, h3, h4, h5⟩ := hq
  have key : (match vresL P σ' s' fn.results.toList with | some vs => R (oneOf vs) s' | none => False) →
      a'.defers = [] ∧ ∃ v, (results fn a'.tmps).run P E'.w = .ok v E'.w ∧ ∃ E2 v1 val s2, Ending.returned v = .returned val ∧ E2.w = E'.w ∧ R v1 s2 ∧ RelS E2 s2 ∧ RepV E2 v1 val ∧ Step E s E2 s2 := by
    intro hk
    cases hvs : vresL P σ' s' fn.results.toList with
    | none => rw [hvs] at hk; exact hk.elim
    | some vs =>
      rw [hvs] at hk
      obtain ⟨val, k1, k2⟩ := run_results (P := P) h3 h4 hvs
      exact ⟨h4.defers, val, k1, E', _, val, s', rfl, rfl, hk, h3, k2, h5⟩
  cases e with
  | normal => exact key hq
  | ret => exact key hq
  | _ => exact hq.elim

/-! ### What a value may be taken for -/
/-- The same value of the model, in the same world, may be taken for v' in state s'. -/
def VTurn (v : V) (s : S) (v' : V) (s' : S) : Prop :=
  ∀ E val, RelS E s → RepV E v val → ∃ E', E'.w = E.w ∧ Step E s E' s' ∧ RelS E' s' ∧ RepV E' v' val

theorem VTurn.refl (v : V) (s : S) : VTurn v s v s := fun E _ h1 h2 => ⟨E, rfl, .refl _ _, h1, h2⟩

theorem VTurn.trans {v v1 v2 : V} {s s1 s2 : S} (h : VTurn v s v1 s1) (k : VTurn v1 s1 v2 s2) : VTurn v s v2 s2 := by
  intro E val h1 h2
  obtain ⟨E1, a, b, c, d⟩ := h E val h1 h2
  obtain ⟨E2, a2, b2, c2, d2⟩ := k E1 val c d
  exact ⟨E2, a2.trans a, b.trans b2, c2, d2⟩

theorem VTurn.forget (v : V) (s : S) : VTurn v s v.forget s := fun E _ h1 h2 => ⟨E, rfl, .refl _ _, h1, h2.forget⟩

theorem VTurn.weaken {v : V} {s s' : S} (hv : ∀ l cs, s'.vars l = some cs → s.vars l = some cs) (hf : ∀ l cs, s'.fams l = some cs → s.fams l = some cs) (hn : s.next ≤ s'.next) : VTurn v s v s' :=
  fun E _ h1 h2 => ⟨E, rfl, (Step.refl E s).weaken hv hf hn, h1.weaken hv hf hn, h2⟩

theorem VCalls.turn {P : Program} {f : FuncId} {args : List V} {s : S} {R R' : V → S → Prop} (h : VCalls P f args s R) (hr : ∀ v s', s.next ≤ s'.next → R v s' → ∃ v2 s2, VTurn v s' v2 s2 ∧ R' v2 s2) : VCalls P f args s R' := by
  intro E vals h1 h2
  refine (h E vals h1 h2).mono fun e w' ⟨E', v, val, s', a, b, c, d, e1, f1⟩ => ?_
  obtain ⟨v2, s2, k1, k2⟩ := hr v s' f1.next c
  obtain ⟨E2, m1, m2, m3, m4⟩ := k1 E' val d e1
  exact ⟨E2, v2, val, s2, a, m1.trans b, k2, m3, m4, f1.trans m2⟩

/-- In the midst of a piece of code, too: the state may be made less. -/
theorem VWp.weaken {P : Program} {N : Nat} {c : Code} {Q : Exit → Fr → S → Prop} {σ : Fr} {s s' : S} (hv : ∀ l cs, s'.vars l = some cs → s.vars l = some cs) (hf : ∀ l cs, s'.fams l = some cs → s.fams l = some cs) (hn : s.next ≤ s'.next)
    (h : VWp P N c Q σ s') : VWp P N c Q σ s :=
  fun E a h1 h2 => wp_mono (h E a (h1.weaken hv hf hn) h2) fun _ _ _ hz => hz.trans ((Step.refl E s).weaken hv hf hn)

def S.freeze (s : S) (l n sz : Nat) : S := { vars := fun x => if x = l then none else s.vars x, fams := fun x => if x = s.next then some (n, sz) else s.fams x, next := s.next + 1 }

/-- A slice of a variable's own is a slice that nobody writes from now on. -/
theorem VTurn.freeze {l n sz : Nat} {agg : Bool} {s : S} {cs : List V} (hl : s.vars l = some cs) (hlen : cs.length = n * sz) (hok : chunkOk sz agg cs = true) (h0 : 0 < sz) :
    VTurn (.slm true l 0 n) s (.sl s.next (chunkV sz agg n cs)) (s.freeze l n sz) := by
  intro E val hr hv
  cases hv with
  | @slm _ _ _ _ cap g hg hle hmx hex =>
    obtain rfl := hex rfl
    obtain ⟨g', arr, e, fr, h1, h2⟩ := hr.var _ _ hl
    rw [hg] at h1
    cases h1
    have hls : (s.vars l).isSome = true := by rw [hl]; rfl
    -- the variable goes
    have hW : RelS E { s with vars := fun x => if x = l then none else s.vars x } := hr.weaken (fun x cs hx => by
      by_cases e1 : x = l
      · simp [e1] at hx
      · simpa [e1] using hx) (fun _ _ h => h) (Nat.le_refl _)
    have hS : Step E s E { s with vars := fun x => if x = l then none else s.vars x } := (Step.refl E s).weaken (fun x cs hx => by
      by_cases e1 : x = l
      · simp [e1] at hx
      · simpa [e1] using hx) (fun _ _ h => h) (Nat.le_refl _)
    have hf := hr.fresh s.next (Nat.le_refl _)
    have hfs : s.fams s.next = none := by
      cases hc : s.fams s.next with
      | none => rfl
      | some p => obtain ⟨_, F, k1, _⟩ := hr.fam _ p.1 p.2 hc; rw [hf.2] at k1; cases k1
    have hgf : ∀ x F, (s.fams x).isSome = true → E.fam x = some F → F.blk ≠ some g := fun x F a b => hr.famvar l g x F hls hg a b
    have hgv : ∀ x, x ≠ l → (s.vars x).isSome = true → E.loc x ≠ some g := fun x a b c => a (hr.varinj x l g b hls c hg)
    have hcl : cs.length ≤ arr.size := h2.le
    let F : Fam := ⟨cap, some g, cap, sz⟩
    let E' : Env := { w := E.w, imm := fun b o => E.imm b o ∨ (b = g ∧ o < cap * sz), loc := E.loc, fam := fun x => if x = s.next then some F else E.fam x }
    have ev : Evolve E E' := by
      refine ⟨fun _ _ i => .inl i, fun _ _ _ => rfl, fun _ _ h => h, fun id F0 hF => ⟨F0, ?_, Nat.le_refl _, fun _ => rfl⟩⟩
      have : id ≠ s.next := fun e => by rw [e, hf.2] at hF; cases hF
      show (if id = s.next then some F else E.fam id) = some F0
      rw [if_neg this, hF]
    have hsv : ∀ x, x ≠ l → (s.freeze l cap sz).vars x = s.vars x := fun x hx => by simp [S.freeze, hx]
    have hsl : (s.freeze l cap sz).vars l = none := by simp [S.freeze]
    have hsf : ∀ x, x ≠ s.next → (s.freeze l cap sz).fams x = s.fams x := fun x hx => by simp [S.freeze, hx]
    have hsfn : (s.freeze l cap sz).fams s.next = some (cap, sz) := by simp [S.freeze]
    have hEf : ∀ x, x ≠ s.next → E'.fam x = E.fam x := fun x hx => by show (if x = s.next then some F else E.fam x) = _; rw [if_neg hx]
    have hEfn : E'.fam s.next = some F := by show (if s.next = s.next then some F else E.fam s.next) = _; rw [if_pos rfl]
    refine ⟨E', rfl, ⟨ev, rfl, rfl, rfl, Nat.le_refl _, fun _ _ _ => rfl, fun k hk ht => ?_, by simp [S.freeze]⟩, ⟨fun x cs' hx => ?_, fun x x' g' hx hx' => ?_, fun id m sz' hid => ?_, fun id id' F0 F1 g' hid hid' hF0 hF1 hb hb' => ?_,
      fun x g' id F0 hx hgx hid hF0 hb => ?_, fun x hx => ?_, by simp [S.freeze], fun b o i => ?_⟩, ?_⟩
    · rcases ht with ⟨x, hx, hgx⟩ | ⟨id, F0, hx, hF0, hgx⟩
      · by_cases e1 : x = l
        · rw [e1, hsl] at hx; cases hx
        · rw [hsv x e1] at hx; exact .inl ⟨x, hx, hgx⟩
      · by_cases e1 : id = s.next
        · rw [e1, hEfn] at hF0
          cases hF0
          cases hgx
          exact .inl ⟨l, hls, hg⟩
        · rw [hsf id e1] at hx
          rw [hEf id e1] at hF0
          exact .inr ⟨id, F0, hx, hF0, hgx⟩
    · by_cases e1 : x = l
      · rw [e1, hsl] at hx; cases hx
      · rw [hsv x e1] at hx
        obtain ⟨g', arr', e', fr', k1, k2⟩ := hr.var x cs' hx
        have hne : g' ≠ g := fun e2 => hgv x e1 (by rw [hx]; rfl) (e2 ▸ k1)
        refine ⟨g', arr', e', fr', k1, k2.evolve ev rfl fun o i => ?_⟩
        rcases i with i | ⟨i, _⟩
        · exact k2.imm o i
        · exact hne i
    · have h3 : ∀ y, ((s.freeze l cap sz).vars y).isSome = true → (s.vars y).isSome = true := fun y hy => by
        by_cases e1 : y = l
        · rw [e1]; exact hls
        · rwa [hsv y e1] at hy
      exact hr.varinj x x' g' (h3 x hx) (h3 x' hx')
    · by_cases e1 : id = s.next
      · rw [e1, hsfn] at hid
        cases hid
        refine ⟨e1 ▸ Nat.ne_of_gt hr.pos, F, e1 ▸ hEfn, ⟨rfl, rfl⟩, Nat.le_refl _, hmx, fun e => (by cases e), fun g' hg' => ?_⟩
        cases hg'
        refine ⟨arr, e, fr, h2.heap, by show cap * sz ≤ _; omega, fun o ho => h2.free o (by show o < _; have : o < cap * sz := ho; omega), fun o ho i => ?_⟩
        rcases i with i | ⟨_, i⟩
        · exact h2.imm o i
        · omega
      · rw [hsf id e1] at hid
        obtain ⟨h00, F0, k1, k2, k3, k4, k5, k6⟩ := hr.fam id m sz' hid
        refine ⟨h00, F0, (hEf id e1).trans k1, k2, k3, k4, k5, fun g' hg' => ?_⟩
        obtain ⟨arr', e', fr', m1, m2, m3, m4⟩ := k6 g' hg'
        have hne : g' ≠ g := fun e2 => hgf id F0 (by rw [hid]; rfl) k1 (e2 ▸ hg')
        refine ⟨arr', e', fr', m1, m2, m3, fun o ho i => ?_⟩
        rcases i with i | ⟨i, _⟩
        · exact m4 o ho i
        · exact hne i
    · by_cases e1 : id = s.next
      · by_cases e2 : id' = s.next
        · rw [e1, e2]
        · rw [e1, hEfn] at hF0
          cases hF0
          cases hb
          rw [hsf id' e2] at hid'
          rw [hEf id' e2] at hF1
          exact absurd hb' (hgf id' F1 hid' hF1)
      · rw [hsf id e1] at hid
        rw [hEf id e1] at hF0
        by_cases e2 : id' = s.next
        · rw [e2, hEfn] at hF1
          cases hF1
          cases hb'
          exact absurd hb (hgf id F0 hid hF0)
        · rw [hsf id' e2] at hid'
          rw [hEf id' e2] at hF1
          exact hr.faminj id id' F0 F1 g' hid hid' hF0 hF1 hb hb'
    · by_cases e2 : x = l
      · rw [e2, hsl] at hx; cases hx
      · rw [hsv x e2] at hx
        by_cases e1 : id = s.next
        · rw [e1, hEfn] at hF0
          cases hF0
          cases hb
          exact hgv x e2 hx hgx
        · rw [hsf id e1] at hid
          rw [hEf id e1] at hF0
          exact hr.famvar x g' id F0 hx hgx hid hF0 hb
    · have hx' : s.next + 1 ≤ x := hx
      have := hr.fresh x (by omega)
      exact ⟨this.1, (hEf x (by omega)).trans this.2⟩
    · rcases i with i | ⟨rfl, hlt⟩
      · exact hr.imm b o i
      · exact ⟨arr[o]'(by omega), by show E.w.cell? _ = _; rw [cell_of_row E.w _ _ arr e fr h2.heap]; simp⟩
    · obtain ⟨c1, c2, c3⟩ := chunkV_spec hlen hok h0
      refine RepV.slOf c1 (sz := sz) (vals := arr.toList.take cs.length) c3 (Nat.le_refl _) hmx (by rw [c2]; exact h2.rep.evolve ev) (fun j x hj => ?_) (.inr ⟨F, hEfn, Nat.le_refl _, fun _ => ⟨rfl, rfl, rfl, rfl⟩⟩)
      rw [List.getElem?_take] at hj
      split at hj
      · rename_i hjl
        refine ⟨.inr ⟨rfl, by omega⟩, ?_⟩
        show E.w.cell? _ = _
        rw [cell_of_row E.w _ _ arr e fr h2.heap, Nat.zero_add]
        simpa using hj
      · cases hj

end Go.Proofs.Ytejdgmdebfkkeaa
