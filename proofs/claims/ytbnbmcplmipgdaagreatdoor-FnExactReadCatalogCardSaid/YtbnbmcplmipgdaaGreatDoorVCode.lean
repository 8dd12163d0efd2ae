/-
  The value level's judgements: what an operation, a region, a piece of code and a call do.
  The value level's logic: code, calls, regions in the text's order.
  The value level's rule for a function, and what a result may be taken for.
  Data at the value level: values that lead to no variable and to no slice that may be appended to; calls that only compute.
  States written out: what a function has made of its own behind the state in which it began.
  From the value level to a law's row: the world in which a law is called.
  Own work; no condition.
-/
import Derived.Test.YtbnbmcplmipgdaaGreatDoorVOp
import Derived.Deep.LoopGhost
namespace Go.Proofs.YtbnbmcplmipgdaaGreatDoor
open Go
def vparts (σ : Nat → V) : List (Nat × Operand) → Option (List (Nat × V))
  | [] => some []
  | (i, x) :: r => (vev σ x).bind fun v => (vparts σ r).map ((i, v) :: ·)
def vevO (σ : Nat → V) : Option Operand → Option (Option V)
  | none => some none
  | some x => (vev σ x).map some
def vconvert (P : Program) (U T : TypeId) (x : V) (s : S) : Option (V × S) :=
  match x with
  | .int _ _ => (vconv P U T x).map fun v => (v, s)
  | .str _ => (tyOf P T).bind fun t => match t.kd with
    | .string => (vconv P U T x).map fun v => (v, s)
    | _ => vtoBytes P U T x s
  | _ => (vtoStr P U T x s).map fun v => (v, s)
def vbuiltin (P : Program) (b : Builtin) (A : List TypeId) (args : List V) (s : S) : Option (V × S) :=
  match b, A, args with
  | .len, [T], [x] => (vlen P T x).map fun v => (v, s)
  | .append, [T, U], [x, y] => if U = T then vappend P T x y s else none
  | .max, _, [x, y] => (vmax x y).map fun v => (v, s)
  | .min, _, [x, y] => (vmin x y).map fun v => (v, s)
  | _, _, _ => none
/-- All operations but the calls of functions: what they leave in their slot, and the state. -/
def vop (P : Program) (o : Oper) (σ : Nat → V) (s : S) : Option (V × S) :=
  match o.op with
  | .move x => (vev σ x).map fun v => (v, s)
  | .assign x => (vev σ x).map fun v => (v, s)
  | .pick c a b => (vev σ c).bind fun c => (vev σ a).bind fun a => (vev σ b).bind fun b => match c with | .bool c => some (if c then a else b, s) | _ => none
  | .alloc T => valloc P T s
  | .box _ x => (vev σ x).map fun v => (.ptr s.next 0, s.newVar v.cells)
  | .build T parts => (vparts σ parts.toList).bind fun ps => (vbuild P T ps).map fun v => (v, s)
  | .buildSlice T len parts => (vparts σ parts.toList).bind fun ps => vbuildSlice P T len ps s
  | .load T x => (vev σ x).bind fun v => (vload P T v s).map fun v => (v, s)
  | .store T a x => (vev σ a).bind fun a => (vev σ x).bind fun x => (vstore P T a x s).map fun s' => (.und, s')
  | .nilCheck x => (vev σ x).bind fun v => match v with
    | .ptr l k => some (.ptr l k, s)
    | .eptr cs k => some (.eptr cs k, s)
    | .fn f cs => some (.fn f cs, s)
    | _ => none
  | .binOp op T x y _ => (vev σ x).bind fun x => (vev σ y).bind fun y => (vbin P op T x y).map fun v => (v, s)
  | .unOp op _ x => (vev σ x).bind fun x => (vun op x).map fun v => (v, s)
  | .convert U T x => (vev σ x).bind fun x => vconvert P U T x s
  | .makeFunc fn first captured => match fn, first.toList with
    | .func f, [] => (vevL σ captured.toList).map fun cs => (.fn f cs, s)
    | _, _ => none
  | .makeSlice T l c => (vev σ l).bind fun l => (vev σ c).bind fun c => vmake P T l c s
  | .slice T x lo hi mx => (vev σ x).bind fun x => (vevO σ lo).bind fun lo => (vevO σ hi).bind fun hi => (vevO σ mx).bind fun mx => (vslice P T x lo hi mx).map fun v => (v, s)
  | .fieldAddr T x f => (vev σ x).bind fun x => (vfieldAddr P T x f).map fun v => (v, s)
  | .field T x f => (vev σ x).bind fun x => (vfield P T x f).map fun v => (v, s)
  | .indexAddr T x i => (vev σ x).bind fun x => (vev σ i).bind fun i => (vindexAddr P T x i).map fun v => (v, s)
  | .index T x i => (vev σ x).bind fun x => (vev σ i).bind fun i => (vindex P T x i).map fun v => (v, s)
  | .extract x i => (vev σ x).bind fun x => (vextract x i).map fun v => (v, s)
  | .call c => match c.callee with
    | .builtin b => (vevL σ c.args.toList).bind fun args => vbuiltin P b c.argTypes.toList args s
    | _ => none
  | _ => none
theorem vparts_sound {E : Env} {σ : Nat → V} {N : Nat} {a : Act} (h : RepA E σ N a) : ∀ {ps : List (Nat × Operand)} {vs : List (Nat × V)}, vparts σ ps = some vs → RepP E vs (ps.map fun p => (p.1, a.eval p.2))
  | [], vs, e => by cases e; exact .nil
  | (i, x) :: r, vs, e => by
    simp only [vparts, Option.bind_eq_some_iff, Option.map_eq_some_iff] at e
    obtain ⟨v, hv, l, hl, rfl⟩ := e
    exact .cons (vev_sound h hv) (vparts_sound h hl)
theorem vevO_sound {E : Env} {σ : Nat → V} {N : Nat} {a : Act} (h : RepA E σ N a) {x : Option Operand} {v : Option V} (e : vevO σ x = some v) : RepO E v (x.map a.eval) := by
  cases x with
  | none => cases e; trivial
  | some x =>
    obtain ⟨w, hw, rfl⟩ := Option.map_eq_some_iff.1 e
    exact vev_sound h hw
def DoesO (P : Program) (o : Oper) (a : Act) (E : Env) (s : S) (v : V) (s' : S) : Prop :=
  ∃ val E', ((execOp a.eval o).run P E.w = .ok (.value val) E'.w ∨ ((execOp a.eval o).run P E.w = .ok .skip E'.w ∧ val = undef)) ∧ Step E s E' s' ∧ RelS E' s' ∧ RepV E' v val
theorem DoesO.of {P : Program} {o : Oper} {a : Act} {E : Env} {s s' : S} {v : V} {m : Sem Value} (h : Does P m E s v s') (e : execOp a.eval o = (do pure (.value (← m)))) : DoesO P o a E s v s' := by
  obtain ⟨val, E', h1, h2, h3, h4⟩ := h
  exact ⟨val, E', .inl (by rw [e]; simp [h1]), h2, h3, h4⟩
theorem DoesO.same {P : Program} {o : Oper} {a : Act} {E : Env} {s : S} {v : V} {m : Sem Value} (hr : RelS E s) (h : ∃ val, m.run P E.w = .ok val E.w ∧ RepV E v val) (e : execOp a.eval o = (do pure (.value (← m)))) : DoesO P o a E s v s := by
  obtain ⟨val, h1, h2⟩ := h
  exact .of (.pure hr h1 h2) e
theorem vop_sound {P : Program} {o : Oper} {σ : Nat → V} {N : Nat} {a : Act} {E : Env} {s s' : S} {v : V} (hr : RelS E s) (ha : RepA E σ N a) (h : vop P o σ s = some (v, s')) : DoesO P o a E s v s' := by
  unfold vop at h
  split at h
  case h_23 => cases h
  all_goals rename_i ho
  case h_1 =>
    obtain ⟨x, hx, e⟩ := Option.map_eq_some_iff.1 h
    cases e
    exact ⟨_, E, .inl (by simp only [execOp, ho, Sem.run_pure]), .refl _ _, hr, vev_sound ha hx⟩
  case h_2 =>
    obtain ⟨x, hx, e⟩ := Option.map_eq_some_iff.1 h
    cases e
    exact ⟨_, E, .inl (by simp only [execOp, ho, Sem.run_pure]), .refl _ _, hr, vev_sound ha hx⟩
  case h_3 cO aO bO =>
    simp only [Option.bind_eq_some_iff] at h
    obtain ⟨c, hc, x, hx, y, hy, h⟩ := h
    split at h
    case h_2 => cases h
    rename_i c
    cases h
    have h1 := vev_sound ha hc
    generalize hcv : a.eval _ = cv at h1
    cases h1
    refine ⟨if c = true then a.eval aO else a.eval bO, E, .inl (by simp only [execOp, ho, Sem.run_bind, hcv, asBool, Sem.run_pure, Result.andThen_ok]), .refl _ _, hr, ?_⟩
    cases c
    · exact vev_sound ha hy
    · exact vev_sound ha hx
  case h_4 => exact .of (valloc_sound hr h) (by simp only [execOp, ho]; try rfl)
  case h_5 =>
    obtain ⟨x, hx, e⟩ := Option.map_eq_some_iff.1 h
    cases e
    exact .of (box_sound hr (vev_sound ha hx)) (by simp only [execOp, ho]; try rfl)
  case h_6 T parts =>
    simp only [Option.bind_eq_some_iff, Option.map_eq_some_iff] at h
    obtain ⟨ps, hps, v, hv, e⟩ := h
    cases e
    refine .same hr (vbuild_sound (vparts_sound ha hps) hv) ?_
    have : (parts.toList.map fun p => (p.1, a.eval p.2)).toArray = parts.map fun p => (p.1, a.eval p.2) := by apply Array.ext'; simp
    simp only [execOp, ho, this]
    try rfl
  case h_7 T len parts =>
    simp only [Option.bind_eq_some_iff] at h
    obtain ⟨ps, hps, hv⟩ := h
    refine .of (vbuildSlice_sound hr (vparts_sound ha hps) hv) ?_
    have : (parts.toList.map fun p => (p.1, a.eval p.2)).toArray = parts.map fun p => (p.1, a.eval p.2) := by apply Array.ext'; simp
    simp only [execOp, ho, this]
    try rfl
  case h_8 =>
    simp only [Option.bind_eq_some_iff, Option.map_eq_some_iff] at h
    obtain ⟨x, hx, v, hv, e⟩ := h
    cases e
    exact .of (vload_sound hr (vev_sound ha hx) hv) (by simp only [execOp, ho]; try rfl)
  case h_9 =>
    simp only [Option.bind_eq_some_iff, Option.map_eq_some_iff] at h
    obtain ⟨x, hx, y, hy, s1, hs, e⟩ := h
    cases e
    obtain ⟨E', h1, h2, h3⟩ := vstore_sound (P := P) hr (vev_sound ha hx) (vev_sound ha hy) hs
    exact ⟨undef, E', .inr ⟨by simp only [execOp, ho, Sem.run_bind, h1, Result.andThen_ok, Sem.run_pure], rfl⟩, h2, h3, .und⟩
  case h_10 =>
    simp only [Option.bind_eq_some_iff] at h
    obtain ⟨x, hx, h⟩ := h
    have h1 := vev_sound ha hx
    split at h
    case h_4 => cases h
    all_goals
      cases h
      generalize hcv : a.eval _ = cv at h1
      cases h1
      exact ⟨_, E, .inl (by simp only [execOp, ho, hcv, Sem.run_pure]; rfl), .refl _ _, hr, by constructor <;> assumption⟩
  case h_11 =>
    simp only [Option.bind_eq_some_iff, Option.map_eq_some_iff] at h
    obtain ⟨x, hx, y, hy, v, hv, e⟩ := h
    cases e
    exact .same hr (vbin_sound (vev_sound ha hx) (vev_sound ha hy) hv) (by simp only [execOp, ho]; try rfl)
  case h_12 =>
    simp only [Option.bind_eq_some_iff, Option.map_eq_some_iff] at h
    obtain ⟨x, hx, v, hv, e⟩ := h
    cases e
    exact .same hr (vun_sound (vev_sound ha hx) hv) (by simp only [execOp, ho]; try rfl)
  case h_13 =>
    simp only [Option.bind_eq_some_iff] at h
    obtain ⟨x, hx, h⟩ := h
    have h1 := vev_sound ha hx
    unfold vconvert at h
    split at h
    · obtain ⟨v, hv, e⟩ := Option.map_eq_some_iff.1 h
      cases e
      exact .same hr (vconv_sound h1 hv) (by simp only [execOp, ho]; try rfl)
    · obtain ⟨t, ht, h⟩ := Option.bind_eq_some_iff.1 h
      split at h
      · obtain ⟨v, hv, e⟩ := Option.map_eq_some_iff.1 h
        cases e
        exact .same hr (vconv_sound h1 hv) (by simp only [execOp, ho]; try rfl)
      · exact .of (vtoBytes_sound hr h1 h) (by simp only [execOp, ho]; try rfl)
    · obtain ⟨v, hv, e⟩ := Option.map_eq_some_iff.1 h
      cases e
      exact .same hr (vtoStr_sound hr h1 hv) (by simp only [execOp, ho]; try rfl)
  case h_14 fn first captured =>
    split at h
    case h_2 => cases h
    rename_i f hfirst
    obtain ⟨cs, hcs, e⟩ := Option.map_eq_some_iff.1 h
    cases e
    have hf : first = #[] := by simpa using hfirst
    subst hf
    have hm : (captured.toList.map a.eval).toArray = captured.map a.eval := by apply Array.ext'; simp
    exact ⟨_, E, .inl (by simp only [execOp, ho, Instr.makeFunc, Sem.run_bind, Sem.run_pure, Result.andThen_ok, List.map_toArray, List.map_nil, ← hm]), .refl _ _, hr, .fn (vevL_sound ha hcs)⟩
  case h_15 =>
    simp only [Option.bind_eq_some_iff] at h
    obtain ⟨x, hx, y, hy, hv⟩ := h
    exact .of (vmake_sound hr (vev_sound ha hx) (vev_sound ha hy) hv) (by simp only [execOp, ho]; try rfl)
  case h_16 =>
    simp only [Option.bind_eq_some_iff, Option.map_eq_some_iff] at h
    obtain ⟨x, hx, lo, hlo, hi, hhi, mx, hmx, v, hv, e⟩ := h
    cases e
    exact .same hr (vslice_sound (vev_sound ha hx) (vevO_sound ha hlo) (vevO_sound ha hhi) (vevO_sound ha hmx) hv) (by simp only [execOp, ho]; try rfl)
  case h_17 =>
    simp only [Option.bind_eq_some_iff, Option.map_eq_some_iff] at h
    obtain ⟨x, hx, v, hv, e⟩ := h
    cases e
    exact .same hr (vfieldAddr_sound (vev_sound ha hx) hv) (by simp only [execOp, ho]; try rfl)
  case h_18 =>
    simp only [Option.bind_eq_some_iff, Option.map_eq_some_iff] at h
    obtain ⟨x, hx, v, hv, e⟩ := h
    cases e
    exact .same hr (vfield_sound (vev_sound ha hx) hv) (by simp only [execOp, ho]; try rfl)
  case h_19 =>
    simp only [Option.bind_eq_some_iff, Option.map_eq_some_iff] at h
    obtain ⟨x, hx, y, hy, v, hv, e⟩ := h
    cases e
    exact .same hr (vindexAddr_sound (vev_sound ha hx) (vev_sound ha hy) hv) (by simp only [execOp, ho]; try rfl)
  case h_20 =>
    simp only [Option.bind_eq_some_iff, Option.map_eq_some_iff] at h
    obtain ⟨x, hx, y, hy, v, hv, e⟩ := h
    cases e
    exact .same hr (vindex_sound (vev_sound ha hx) (vev_sound ha hy) hv) (by simp only [execOp, ho]; try rfl)
  case h_21 =>
    simp only [Option.bind_eq_some_iff, Option.map_eq_some_iff] at h
    obtain ⟨x, hx, v, hv, e⟩ := h
    cases e
    exact .same hr (vextract_sound (vev_sound ha hx) hv) (by simp only [execOp, ho]; try rfl)
  case h_22 c =>
    split at h
    case h_2 => cases h
    rename_i b hcal
    simp only [Option.bind_eq_some_iff] at h
    obtain ⟨args, hargs, h⟩ := h
    have hreps := vevL_sound ha hargs
    have hexec : execOp a.eval o = builtin b c.argTypes o.type (c.args.map fun | .const _ => true | _ => false) (c.args.map a.eval) := by
      simp only [execOp, ho, resolve, hcal]
      rfl
    have hA : c.args.map a.eval = (c.args.toList.map a.eval).toArray := by apply Array.ext'; simp
    have hT : c.argTypes = c.argTypes.toList.toArray := by simp
    rw [hA, hT] at hexec
    generalize c.args.toList.map a.eval = vals at hreps hexec
    generalize c.argTypes.toList = A at h hexec
    unfold vbuiltin at h
    split at h
    · obtain ⟨v, hv, e⟩ := Option.map_eq_some_iff.1 h
      cases e
      cases hreps with
      | cons h1 h2 => cases h2; exact .same hr (vlen_sound h1 hv) (by rw [hexec]; rfl)
    · split at h
      case isFalse => cases h
      rename_i hU
      subst hU
      cases hreps with
      | cons h1 h2 => cases h2 with
        | cons h2 h3 => cases h3; exact .of (vappend_sound hr h1 h2 h) (by rw [hexec]; rfl)
    · obtain ⟨v, hv, e⟩ := Option.map_eq_some_iff.1 h
      cases e
      cases hreps with
      | cons h1 h2 => cases h2 with
        | cons h2 h3 => cases h3; exact .same hr (vmax_sound h1 h2 hv) (by rw [hexec]; rfl)
    · obtain ⟨v, hv, e⟩ := Option.map_eq_some_iff.1 h
      cases e
      cases hreps with
      | cons h1 h2 => cases h2 with
        | cons h2 h3 => cases h3; exact .same hr (vmin_sound h1 h2 hv) (by rw [hexec]; rfl)
    · cases h
end Go.Proofs.YtbnbmcplmipgdaaGreatDoor
namespace Go.Proofs.YtbnbmcplmipgdaaGreatDoor
open Go
abbrev Fr := Nat → V
/-- What stands behind an exit of a piece of code, seen from where it began. -/
def After (E : Env) (s : S) (N : Nat) (Q : Exit → Fr → S → Prop) (e : Exit) (a' : Act) (w' : World) : Prop :=
  ∃ E' σ' s', E'.w = w' ∧ Q e σ' s' ∧ RelS E' s' ∧ RepA E' σ' N a' ∧ Step E s E' s'
def VWp (P : Program) (N : Nat) (c : Code) (Q : Exit → Fr → S → Prop) (σ : Fr) (s : S) : Prop :=
  ∀ E a, RelS E s → RepA E σ N a → c.wp P (After E s N Q) a E.w
def VCalls (P : Program) (f : FuncId) (args : List V) (s : S) (R : V → S → Prop) : Prop :=
  ∀ E vals, RelS E s → RepL E args vals → Calls P f vals.toArray E.w (fun e w' => ∃ E' v val s', e = .returned val ∧ E'.w = w' ∧ R v s' ∧ RelS E' s' ∧ RepV E' v val ∧ Step E s E' s')
theorem VCalls.mono {P : Program} {f : FuncId} {args : List V} {s : S} {R R' : V → S → Prop} (h : VCalls P f args s R) (hr : ∀ v s', R v s' → R' v s') : VCalls P f args s R' :=
  fun E vals h1 h2 => (h E vals h1 h2).mono fun _ _ ⟨E', v, val, s', a, b, c, d⟩ => ⟨E', v, val, s', a, b, hr _ _ c, d⟩
/-- The arguments' slices may be taken for ones that are not to be appended to. -/
theorem VCalls.forget {P : Program} {f : FuncId} {args : List V} {s : S} {R : V → S → Prop} (h : VCalls P f (args.map V.forget) s R) : VCalls P f args s R :=
  fun E vals h1 h2 => h E vals h1 h2.forget
theorem VWp.mono {P : Program} {N : Nat} {c : Code} {Q Q' : Exit → Fr → S → Prop} {σ : Fr} {s : S} (h : VWp P N c Q σ s) (hq : ∀ e σ s, Q e σ s → Q' e σ s) : VWp P N c Q' σ s :=
  fun E a h1 h2 => wp_mono (h E a h1 h2) fun _ _ _ ⟨E', σ', s', x, y, z⟩ => ⟨E', σ', s', x, hq _ _ _ y, z⟩
def vthen (K : Fr → S → Prop) (Q : Exit → Fr → S → Prop) : Exit → Fr → S → Prop
  | .normal, σ, s => K σ s
  | e, σ, s => Q e σ s
theorem After.trans {E E1 : Env} {s s1 : S} {N : Nat} {Q : Exit → Fr → S → Prop} {e : Exit} {a : Act} {w : World} (st : Step E s E1 s1) (h : After E1 s1 N Q e a w) : After E s N Q e a w := by
  obtain ⟨E', σ', s', x, y, z, t, u⟩ := h
  exact ⟨E', σ', s', x, y, z, t, st.trans u⟩
theorem VWp.seq {P : Program} {N : Nat} {x y : Code} {Q : Exit → Fr → S → Prop} {σ : Fr} {s : S} (h : VWp P N x (vthen (fun σ' s' => VWp P N y Q σ' s') Q) σ s) : VWp P N (.seq x y) Q σ s := by
  intro E a h1 h2
  refine wp_seq (wp_mono (h E a h1 h2) fun e a' w' ha => ?_)
  obtain ⟨E', σ', s', rfl, hq, h3, h4, h5⟩ := ha
  cases e with
  | normal => exact wp_mono (hq E' a' h3 h4) fun _ _ _ hz => hz.trans h5
  | _ => exact ⟨E', σ', s', rfl, hq, h3, h4, h5⟩
theorem VWp.skip {P : Program} {N : Nat} {Q : Exit → Fr → S → Prop} {σ : Fr} {s : S} (h : Q .normal σ s) : VWp P N .skip Q σ s :=
  fun E _ h1 h2 => wp_skip ⟨E, σ, s, rfl, h, h1, h2, .refl _ _⟩
theorem VWp.ret {P : Program} {N : Nat} {Q : Exit → Fr → S → Prop} {σ : Fr} {s : S} (h : Q .ret σ s) : VWp P N .ret Q σ s :=
  fun E _ h1 h2 => wp_ret ⟨E, σ, s, rfl, h, h1, h2, .refl _ _⟩
theorem VWp.exit {P : Program} {N id : Nat} {Q : Exit → Fr → S → Prop} {σ : Fr} {s : S} (h : Q (.exit id) σ s) : VWp P N (.exit id) Q σ s :=
  fun E _ h1 h2 => wp_exit ⟨E, σ, s, rfl, h, h1, h2, .refl _ _⟩
/-- A test: its value at the value level. -/
theorem VWp.cond {P : Program} {N : Nat} {c : Operand} {x y : Code} {Q : Exit → Fr → S → Prop} {σ : Fr} {s : S} {b : Bool} (hc : vev σ c = some (.bool b)) (ht : b = true → VWp P N x Q σ s) (hf : b = false → VWp P N y Q σ s) :
    VWp P N (.cond c x y) Q σ s := by
  intro E a h1 h2
  have hv := vev_sound h2 hc
  generalize he : a.eval c = cv at hv
  cases hv
  cases b
  · exact wp_cond_false he (hf rfl E a h1 h2)
  · exact wp_cond_true he (ht rfl E a h1 h2)
def vinBlock (id : Nat) (Q : Exit → Fr → S → Prop) : Exit → Fr → S → Prop
  | .exit id', σ, s => if id' = id then Q .normal σ s else Q (.exit id') σ s
  | e, σ, s => Q e σ s
theorem VWp.block {P : Program} {N id : Nat} {c : Code} {Q : Exit → Fr → S → Prop} {σ : Fr} {s : S} (h : VWp P N c (vinBlock id Q) σ s) : VWp P N (.block id c) Q σ s := by
  intro E a h1 h2
  refine wp_block (wp_mono (h E a h1 h2) fun e a' w' ha => ?_)
  obtain ⟨E', σ', s', rfl, hq, h3, h4, h5⟩ := ha
  cases e with
  | exit id' =>
    simp only [vinBlock] at hq
    simp only [Exit.inBlock]
    split
    · rename_i e1; rw [if_pos e1] at hq; exact ⟨E', σ', s', rfl, hq, h3, h4, h5⟩
    · rename_i e1; rw [if_neg e1] at hq; exact ⟨E', σ', s', rfl, hq, h3, h4, h5⟩
  | _ => exact ⟨E', σ', s', rfl, hq, h3, h4, h5⟩
/-- A loop: J holds at every round's head, its number goes down. -/
theorem VWp.loop {P : Program} {N : Nat} {c : Code} {Q : Exit → Fr → S → Prop} {σ : Fr} {s : S} (J : Nat → Fr → S → Prop) (n : Nat) (h0 : J n σ s)
    (round : ∀ n σ s, J n σ s → VWp P N c (vthen (fun σ' s' => ∃ m, m < n ∧ J m σ' s') Q) σ s) : VWp P N (.loop c) Q σ s := by
  intro E a h1 h2
  refine wp_loop_ghost (fun n a w => ∃ E1 σ1 s1, E1.w = w ∧ J n σ1 s1 ∧ RelS E1 s1 ∧ RepA E1 σ1 N a ∧ Step E s E1 s1) n ⟨E, σ, s, rfl, h0, h1, h2, .refl _ _⟩ ?_
  rintro n a1 w1 ⟨E1, σ1, s1, rfl, hJ, h3, h4, h5⟩
  refine wp_mono (round n σ1 s1 hJ E1 a1 h3 h4) fun e a' w' ha => ?_
  obtain ⟨E', σ', s', rfl, hq, k3, k4, k5⟩ := ha
  cases e with
  | normal =>
    obtain ⟨m, hm, hJm⟩ := hq
    exact ⟨m, hm, E', σ', s', rfl, hJm, k3, k4, h5.trans k5⟩
  | _ => exact ⟨E', σ', s', rfl, hq, k3, k4, h5.trans k5⟩
/-! ### One operation -/
def putO (σ : Fr) : Option Nat → V → Fr
  | some d, v => put σ d v
  | none, _ => σ
def dstOk (N : Nat) (o : Oper) : Bool := match o.dst with | some d => decide (d < N) | none => true
def vyield (ops : Array Oper) (σ : Fr) (j : Nat) : Option Bool :=
  match (ops[j]?).bind (·.dst) with
  | some d => match σ d with
    | .bool b => some b
    | _ => none
  | none => none
/-- Is the operation carried out? ('none': that can't be told.) -/
def vwanted (ops : Array Oper) (σ : Fr) (o : Oper) : Option Bool :=
  match o.guard with
  | none => some true
  | some (j, want) => match (ops[j]?).bind (·.dst) with
    | some d => match σ d with
      | .bool b => some (b == want)
      | .und => some false
      | _ => none
    | none => none
theorem vwanted_sound {E : Env} {σ : Fr} {N : Nat} {a : Act} {ops : Array Oper} {o : Oper} {b : Bool} (ha : RepA E σ N a) (h : vwanted ops σ o = some b) : Region.wanted o (yielded ops a.tmps) = b := by
  unfold vwanted at h
  unfold Region.wanted
  split at h
  · rename_i hg; cases h; rw [hg]
  · rename_i j want hg
    rw [hg]
    split at h
    · rename_i d hd
      have hs := ha.slot d
      split at h
      · rename_i x hx
        cases h
        rw [hx] at hs
        have hv : a.tmps.getD d undef = .bool x := by generalize a.tmps.getD d undef = y at hs; cases hs; rfl
        have hget : a.tmps[d]? = some (.bool x) := by
          rw [Array.getD_eq_getD_getElem?] at hv
          cases hq : a.tmps[d]? with
          | none => rw [hq] at hv; simp [undef] at hv
          | some y => rw [hq] at hv; simp at hv; rw [hv]
        simp only [yielded, hd, Option.bind_some, hget]
        cases x <;> cases want <;> rfl
      · rename_i hx
        cases h
        rw [hx] at hs
        have hv : a.tmps.getD d undef = undef := by generalize a.tmps.getD d undef = y at hs; cases hs; rfl
        simp only [yielded, hd, Option.bind_some]
        cases hq : a.tmps[d]? with
        | none => rfl
        | some y =>
          rw [Array.getD_eq_getD_getElem?, hq] at hv
          simp at hv
          subst hv
          rfl
      · cases h
    · cases h
/-- The function may be called: it has a body. -/
def callOk (P : Program) (f : FuncId) : Bool := match P.funcs[f]? with | some fn => fn.body.isSome && fn.name != "runtime.NumGoroutine" | none => false
/-- A slice made that nobody writes. -/
def vmkF (P : Program) (T : TypeId) (x y : V) : Option V :=
  (tyOf P T).bind fun t => match t.kd, x, y with
    | .slice e, .int _ n, .int _ m => (tyOf P e).bind fun te =>
      if te.zero.length = te.size ∧ 0 < te.size ∧ 0 ≤ n ∧ n = m ∧ m ≤ 140737488355328 ∧ te.bytes * m ≤ 140737488355328 then some (.sl 0 (List.replicate n.toNat (.agg te.zero))) else none
    | _, _, _ => none
theorem flat_replicate_agg (n : Nat) (cs : List V) : V.flat (List.replicate n (V.agg cs)) = (List.replicate n cs).flatten := by
  induction n with
  | zero => rfl
  | succ n ih => simp only [List.replicate_succ, V.flat, List.flatMap_cons, List.flatten_cons, V.cells] at *; rw [ih]
theorem vmkF_sound {P : Program} {T : TypeId} {x y v : V} {s : S} {E : Env} {xv yv : Value} (hr : RelS E s) (hx : RepV E x xv) (hy : RepV E y yv) (h : vmkF P T x y = some v) : Does P (Instr.makeSlice T xv yv) E s v s := by
  simp only [vmkF, Option.bind_eq_some_iff] at h
  obtain ⟨t, ht, h⟩ := h
  obtain ⟨_, d, _, hd, hk, _⟩ := tyOf_parts ht
  split at h
  case h_2 => cases h
  rename_i e k n k' m hkd
  rw [hkd] at hk
  have : d = .slice e := by cases d <;> simp [kdOf] at hk; rw [hk]
  subst this
  simp only [Option.bind_eq_some_iff] at h
  obtain ⟨te, hte, h⟩ := h
  split at h
  case isFalse => cases h
  rename_i h0
  obtain ⟨h01, h02, h03, rfl, h05, h06⟩ := h0
  cases h
  obtain ⟨i, z, hi, hz, hs, hzs, hrep⟩ := zero_rep hte ⟨h01, h02⟩
  obtain ⟨i', _, hi', _, _, _, hb, _⟩ := tyOf_parts hte
  rw [hi] at hi'
  cases hi'
  cases hx
  cases hy
  have hrun := run_makeSlice' (w := E.w) hd hi hz hzs (by omega) h03 (Int.le_refl n) h05 (by rw [← hb]; exact h06) k k'
  have hzl := (hrep E).length
  have hrepl := (hrep E).replicate n.toNat
  have hAs : (List.replicate n.toNat z.cells.toList).flatten.toArray.size = n.toNat * te.size := by rw [List.size_toArray, length_replicate_flatten, hzl, h01]
  obtain ⟨k1, k2⟩ := step_lit hr (List.replicate n.toNat z.cells.toList).flatten.toArray e (n.toNat * te.size) (Nat.le_of_eq hAs.symm)
  refine ⟨_, _, hrun, k1, k2, ?_⟩
  have := RepV.sl (E := { E with w := E.w.alloc (.cells (List.replicate n.toNat z.cells.toList).flatten.toArray e), imm := fun g o => E.imm g o ∨ (g = E.w.heap.size ∧ o < n.toNat * te.size) }) (id := 0) (xs := List.replicate n.toNat (.agg te.zero)) (vals := (List.replicate n.toNat z.cells.toList).flatten) (g := E.w.heap.size) (off := 0) (cap := n.toNat) (sz := te.size)
    (fun x hx => by rw [List.eq_of_mem_replicate hx]; exact h01) (by simp) (by unfold maxLen; omega) (by rw [flat_replicate_agg]; exact hrepl.evolve k1.ev) (fun j x hj => ⟨.inr ⟨rfl, ?_⟩, ?_⟩) (.inl rfl)
  · rwa [List.length_replicate] at this
  · have := (List.getElem?_eq_some_iff.1 hj).1
    rw [List.size_toArray] at hAs
    omega
  · show (E.w.alloc (.cells _ e)).cell? _ = _
    rw [World.cell?_alloc_new, Nat.zero_add]
    simpa using hj
/-- What a call of the value 'f' asks. -/
def VCall (P : Program) (x : Option V) (args : Option (List V)) (K : V → S → Prop) (s : S) : Prop :=
  match x, args with
  | some (.fn f caps), some args => callOk P f = true ∧ VCalls P f (args ++ caps) s K
  | _, _ => False
def VOp0 (P : Program) (o : Oper) (K : Fr → S → Prop) (σ : Fr) (s : S) : Prop :=
  match o.op with
  | .call ⟨.value f, args, _⟩ => VCall P (vev σ f) (vevL σ args.toList) (fun v s' => K (putO σ o.dst v) s') s
  | .buildSlice T len parts => (∃ v s', vop P o σ s = some (v, s') ∧ K (putO σ o.dst v) s') ∨ (∃ ps v, vparts σ parts.toList = some ps ∧ vbsF P T len ps s = some v ∧ K (putO σ o.dst v) s)
  | .makeSlice T l c => (∃ v s', vop P o σ s = some (v, s') ∧ K (putO σ o.dst v) s') ∨ (∃ x y v, vev σ l = some x ∧ vev σ c = some y ∧ vmkF P T x y = some v ∧ K (putO σ o.dst v) s)
  | _ => match vop P o σ s with
    | some (v, s') => K (putO σ o.dst v) s'
    | none => False
/-- An operation of which it is shown elsewhere what it does. -/
def VGen (P : Program) (o : Oper) (K : Fr → S → Prop) (σ : Fr) (s : S) : Prop :=
  ∃ (vs : List V) (R : V → S → Prop), vevL σ o.op.operands.toList = some vs ∧ (∀ E a, RelS E s → RepL E vs (o.op.operands.toList.map a.eval) → ∃ v s', R v s' ∧ DoesO P o a E s v s') ∧ ∀ v s', R v s' → K (putO σ o.dst v) s'
def VOp (P : Program) (o : Oper) (K : Fr → S → Prop) (σ : Fr) (s : S) : Prop := VOp0 P o K σ s ∨ VGen P o K σ s
def VStep (P : Program) (N : Nat) (ops : Array Oper) (o : Oper) (K : Fr → S → Prop) (σ : Fr) (s : S) : Prop :=
  dstOk N o = true ∧ match vwanted ops σ o with
    | some true => VOp P o K σ s
    | some false => K (putO σ o.dst .und) s
    | none => False
theorem RepA.putO {E : Env} {σ : Fr} {N : Nat} {a : Act} (h : RepA E σ N a) {o : Oper} (hd : dstOk N o = true) {v : V} {val : Value} (hv : RepV E v val) : RepA E (putO σ o.dst v) N (a.put o.dst val) := by
  unfold dstOk at hd
  cases ho : o.dst with
  | none => simpa [Go.Proofs.YtbnbmcplmipgdaaGreatDoor.putO, Act.put] using h
  | some d => rw [ho] at hd; exact h.put (of_decide_eq_true hd) hv
def Next' (N : Nat) (E : Env) (s : S) (K : Fr → S → Prop) (a' : Act) (w' : World) : Prop :=
  ∃ E' σ' s', E'.w = w' ∧ K σ' s' ∧ RelS E' s' ∧ RepA E' σ' N a' ∧ Step E s E' s'
theorem VOp_sound {P : Program} {N : Nat} {o : Oper} {K : Fr → S → Prop} {σ : Fr} {s : S} (h : VOp P o K σ s) (hd : dstOk N o = true) {E : Env} {a : Act} (hr : RelS E s) (ha : RepA E σ N a) (Q : Exit → Act → World → Prop) :
    o.wp P a E.w (Next' N E s K) Q := by
  rcases h with h | ⟨vs, R, hvs, hdo, hk⟩
  case inr =>
    obtain ⟨v, s', hR, hdo⟩ := hdo E a hr (vevL_sound ha hvs)
    obtain ⟨val, E', hrun, h1, h2, h3⟩ := hdo
    unfold Oper.wp
    have key : Next' N E s K (a.put o.dst val) E'.w := ⟨E', _, s', rfl, hk v s' hR, h2, (ha.evolve h1.ev).putO hd h3, h1⟩
    rcases hrun with hrun | ⟨hrun, rfl⟩
    · rw [hrun, Oper.upon_value]; exact key
    · rw [hrun, Oper.upon_skip]; exact key
  unfold VOp0 at h
  split at h
  · rename_i f args A hop
    unfold VCall at h
    split at h
    case h_2 => exact h.elim
    rename_i g caps vs hf hargs
    obtain ⟨hok, hc⟩ := h
    have hfv := vev_sound ha hf
    have hav := vevL_sound ha hargs
    generalize he : a.eval f = fv at hfv
    cases hfv with
    | @fn _ _ cvals hcaps =>
      have hcall := hc E _ hr (hav.append hcaps)
      have hrun : (execOp a.eval o).run P E.w = .ok (.enter g ((args.toList.map a.eval) ++ cvals).toArray) E.w := by
        unfold callOk at hok
        cases hfn : P.funcs[g]? with
        | none => rw [hfn] at hok; cases hok
        | some fn =>
          rw [hfn] at hok
          simp only [Bool.and_eq_true, bne_iff_ne, ne_eq] at hok
          have hb : fn.body.isNone = false := by cases hbb : fn.body <;> simp_all
          have hn : (fn.name == "runtime.NumGoroutine") = false := by simpa using hok.2
          have hargs' : Array.map a.eval args = (args.toList.map a.eval).toArray := by apply Array.ext'; simp
          simp only [execOp, hop, resolve, Deferred.ofValue, he, Sem.run_bind, Sem.run_pure, Result.andThen_ok, invoke, callFunc, run_program, hfn, hn, hb, Bool.false_eq_true, if_false, hargs']
          simp
      unfold Oper.wp
      rw [hrun, Oper.upon_enter]
      refine hcall.mono fun e w' ⟨E', v, val, s', h1, h2, h3, h4, h5, h6⟩ => ?_
      subst h1
      exact ⟨E', _, s', h2, h3, h4, (ha.evolve h6.ev).putO hd h5, h6⟩
  · rename_i T len parts hop
    rcases h with ⟨v, s', hv, h⟩ | ⟨ps, v, hps, hv, h⟩
    · obtain ⟨val, E', hrun, h1, h2, h3⟩ := vop_sound hr ha hv
      unfold Oper.wp
      have key : Next' N E s K (a.put o.dst val) E'.w := ⟨E', _, s', rfl, h, h2, (ha.evolve h1.ev).putO hd h3, h1⟩
      rcases hrun with hrun | ⟨hrun, rfl⟩
      · rw [hrun, Oper.upon_value]; exact key
      · rw [hrun, Oper.upon_skip]; exact key
    · have hdo := DoesO.of (o := o) (a := a) (vbsF_sound hr (vparts_sound ha hps) hv) (by
        have : (parts.toList.map fun p => (p.1, a.eval p.2)).toArray = parts.map fun p => (p.1, a.eval p.2) := by apply Array.ext'; simp
        simp only [execOp, hop, this]
        try rfl)
      obtain ⟨val, E', hrun, h1, h2, h3⟩ := hdo
      unfold Oper.wp
      have key : Next' N E s K (a.put o.dst val) E'.w := ⟨E', _, s, rfl, h, h2, (ha.evolve h1.ev).putO hd h3, h1⟩
      rcases hrun with hrun | ⟨hrun, rfl⟩
      · rw [hrun, Oper.upon_value]; exact key
      · rw [hrun, Oper.upon_skip]; exact key
  · rename_i T l c hop
    rcases h with ⟨v, s', hv, h⟩ | ⟨x, y, v, hx, hy, hv, h⟩
    · obtain ⟨val, E', hrun, h1, h2, h3⟩ := vop_sound hr ha hv
      unfold Oper.wp
      have key : Next' N E s K (a.put o.dst val) E'.w := ⟨E', _, s', rfl, h, h2, (ha.evolve h1.ev).putO hd h3, h1⟩
      rcases hrun with hrun | ⟨hrun, rfl⟩
      · rw [hrun, Oper.upon_value]; exact key
      · rw [hrun, Oper.upon_skip]; exact key
    · have hdo := DoesO.of (o := o) (a := a) (vmkF_sound hr (vev_sound ha hx) (vev_sound ha hy) hv) (by simp only [execOp, hop]; try rfl)
      obtain ⟨val, E', hrun, h1, h2, h3⟩ := hdo
      unfold Oper.wp
      have key : Next' N E s K (a.put o.dst val) E'.w := ⟨E', _, s, rfl, h, h2, (ha.evolve h1.ev).putO hd h3, h1⟩
      rcases hrun with hrun | ⟨hrun, rfl⟩
      · rw [hrun, Oper.upon_value]; exact key
      · rw [hrun, Oper.upon_skip]; exact key
  · split at h
    case h_2 => exact h.elim
    rename_i v s' hv
    obtain ⟨val, E', hrun, h1, h2, h3⟩ := vop_sound hr ha hv
    unfold Oper.wp
    have key : Next' N E s K (a.put o.dst val) E'.w := ⟨E', _, s', rfl, h, h2, (ha.evolve h1.ev).putO hd h3, h1⟩
    rcases hrun with hrun | ⟨hrun, rfl⟩
    · rw [hrun, Oper.upon_value]; exact key
    · rw [hrun, Oper.upon_skip]; exact key
/-! ### A region in the text's order -/
def VOps (P : Program) (N : Nat) (ops : Array Oper) : List Oper → (Fr → S → Prop) → Fr → S → Prop
  | [], K => K
  | o :: rest, K => VStep P N ops o (VOps P N ops rest K)
theorem VOps_sound {P : Program} {N : Nat} {ops : Array Oper} {Q : Exit → Fr → S → Prop} {E0 : Env} {s0 : S} : ∀ (l : List Oper) {σ : Fr} {s : S}, VOps P N ops l (Q .normal) σ s → ∀ E a, Step E0 s0 E s → RelS E s → RepA E σ N a →
    wpList P ops (After E0 s0 N Q) l a E.w
  | [], σ, s, h, E, a, h0, h1, h2 => ⟨E, σ, s, rfl, h, h1, h2, h0⟩
  | o :: rest, σ, s, h, E, a, h0, h1, h2 => by
    obtain ⟨hd, h⟩ := h
    unfold wpList
    cases hw : vwanted ops σ o with
    | none => rw [hw] at h; exact h.elim
    | some b =>
      have hw' := vwanted_sound h2 hw
      rw [hw] at h
      cases b with
      | true =>
        rw [if_pos hw']
        left
        have := VOp_sound (N := N) h hd h1 h2 (After E0 s0 N Q)
        refine Oper.wp_mono (fun a' w' hk => ?_) this
        obtain ⟨E', σ', s', rfl, k1, k2, k3, k4⟩ := hk
        exact VOps_sound rest k1 E' a' (h0.trans k4) k2 k3
      | false =>
        rw [if_neg (by simp [hw'])]
        exact VOps_sound rest h E _ h0 h1 (h2.putO hd .und)
theorem VWp.region {P : Program} {N id : Nat} {ops : Array Oper} {Q : Exit → Fr → S → Prop} {σ : Fr} {s : S} (h : VOps P N ops ops.toList (Q .normal) σ s) : VWp P N (.region id ops false) Q σ s :=
  fun E a h1 h2 => wp_region_list (VOps_sound _ h E a (.refl _ _) h1 h2)
end Go.Proofs.YtbnbmcplmipgdaaGreatDoor
namespace Go.Proofs.YtbnbmcplmipgdaaGreatDoor
open Go
def vres1 (P : Program) (σ : Fr) (s : S) : ResultVar → Option V
  | .tmp t => some (σ t)
  | .cell a T => vload P T (σ a) s
def vresL (P : Program) (σ : Fr) (s : S) : List ResultVar → Option (List V)
  | [] => some []
  | r :: rs => (vres1 P σ s r).bind fun v => (vresL P σ s rs).map (v :: ·)
def oneOf : List V → V
  | [v] => v
  | vs => .tup vs
def VPost (P : Program) (rs : List ResultVar) (R : V → S → Prop) : Exit → Fr → S → Prop
  | .normal, σ, s | .ret, σ, s => match vresL P σ s rs with
    | some vs => R (oneOf vs) s
    | none => False
  | _, _, _ => False
def resOne (tmps : Array Value) : ResultVar → Sem Value
  | .tmp t => pure (tmps.getD t undef)
  | .cell x t => do loadVar t (← asAddr (tmps.getD x undef))
theorem results_eq (fn : Func) (tmps : Array Value) : results fn tmps = (do let vs ← fn.results.mapM (resOne tmps); pure (if h : vs.size = 1 then vs[0] else .tuple vs)) := by
  unfold results
  congr 1
theorem run_results1 {P : Program} {E : Env} {σ : Fr} {s : S} {N : Nat} {a : Act} (hr : RelS E s) (ha : RepA E σ N a) : ∀ {rs : List ResultVar} {vs : List V}, vresL P σ s rs = some vs →
    ∃ vals, (rs.mapM (resOne a.tmps)).run P E.w = .ok vals E.w ∧ RepL E vs vals
  | [], vs, h => by cases h; exact ⟨[], by simp, .nil⟩
  | r :: rs, vs, h => by
    simp only [vresL, Option.bind_eq_some_iff, Option.map_eq_some_iff] at h
    obtain ⟨v, hv, l, hl, rfl⟩ := h
    obtain ⟨vals, h1, h2⟩ := run_results1 hr ha hl
    have h3 : ∃ val, ((resOne a.tmps) r).run P E.w = .ok val E.w ∧ RepV E v val := by
      cases r with
      | tmp t => cases hv; exact ⟨_, by simp only [resOne, Sem.run_pure], ha.slot t⟩
      | cell x t =>
        obtain ⟨ad, y, k1, k2, k3⟩ := vload_core (P := P) hr (ha.slot x) hv
        exact ⟨y, by simp only [resOne, k1, asAddr, Sem.run_bind, Sem.run_pure, Result.andThen_ok, k2], k3⟩
    obtain ⟨val, h4, h5⟩ := h3
    refine ⟨val :: vals, ?_, .cons h5 h2⟩
    simp only [List.mapM_cons, Sem.run_bind, h4, Result.andThen_ok, h1, Sem.run_pure]
theorem run_results {P : Program} {E : Env} {σ : Fr} {s : S} {N : Nat} {a : Act} {fn : Func} {vs : List V} (hr : RelS E s) (ha : RepA E σ N a) (h : vresL P σ s fn.results.toList = some vs) :
    ∃ val, (results fn a.tmps).run P E.w = .ok val E.w ∧ RepV E (oneOf vs) val := by
  obtain ⟨vals, h1, h2⟩ := run_results1 (P := P) hr ha h
  have hm : (fn.results.mapM (resOne a.tmps)).run P E.w = .ok vals.toArray E.w := by
    rw [← Array.toArray_toList (xs := fn.results), List.mapM_toArray]
    simp only [Sem.run_map, h1, Result.andThen_ok]
  rw [results_eq]
  simp only [Sem.run_bind, hm, Result.andThen_ok, Sem.run_pure]
  cases h2 with
  | nil => exact ⟨_, rfl, .tup .nil⟩
  | cons k1 k2 =>
    cases k2 with
    | nil => exact ⟨_, rfl, k1⟩
    | cons k2 k3 => exact ⟨_, rfl, .tup (.cons k1 (.cons k2 k3))⟩
def argsFr (args : List V) : Fr := fun t => args.getD t .und
theorem RepL.getD {E : Env} {args : List V} {vals : List Value} (h : RepL E args vals) (t : Nat) : RepV E (args.getD t .und) (vals.getD t undef) := by
  have hl := h.length
  by_cases ht : t < args.length
  · obtain ⟨val, h1, h2⟩ := h.get (List.getElem?_eq_getElem ht)
    rw [List.getD_eq_getElem?_getD, List.getD_eq_getElem?_getD, h1, List.getElem?_eq_getElem ht]
    exact h2
  · rw [List.getD_eq_getElem?_getD, List.getD_eq_getElem?_getD, List.getElem?_eq_none (by omega), List.getElem?_eq_none (by omega)]
    exact .und
/-- A function by its body. -/
theorem VCalls.body {P : Program} {f : FuncId} {fn : Func} {c : Code} {args : List V} {s : S} {R : V → S → Prop} (hf : P.funcs[f]? = some fn) (hb : fn.body = some c) (hn : args.length ≤ fn.ntmps)
    (h : VWp P fn.ntmps c (VPost P fn.results.toList R) (argsFr args) s) : VCalls P f args s R := by
  intro E vals hr hargs
  have hl := hargs.length
  have ha : RepA E (argsFr args) fn.ntmps { tmps := vals.toArray ++ Array.replicate (fn.ntmps - vals.toArray.size) undef, defers := [] } := by
    refine ⟨fun t => ?_, by simp only [Array.size_append, List.size_toArray, Array.size_replicate]; omega, rfl⟩
    have := hargs.getD t
    have e : (vals.toArray ++ Array.replicate (fn.ntmps - vals.toArray.size) undef).getD t undef = vals.getD t undef := by
      rw [Array.getD_eq_getD_getElem?, List.getD_eq_getElem?_getD, Array.getElem?_append]
      split
      · simp
      · rename_i hge
        simp only [List.size_toArray] at hge
        rw [List.getElem?_eq_none (by omega)]
        simp only [Array.getElem?_replicate, Option.getD_none]
        split <;> rfl
    rw [e]
    exact this
  refine calls_of_wp hf hb (wp_mono (h E _ hr ha) fun e a' w' hq => ?_)
  obtain ⟨E', σ', s', rfl, hq, h3, h4, h5⟩ := hq
  have key : (match vresL P σ' s' fn.results.toList with | some vs => R (oneOf vs) s' | none => False) →
      a'.defers = [] ∧ ∃ v, (results fn a'.tmps).run P E'.w = .ok v E'.w ∧ ∃ E2 v1 val s2, Ending.returned v = .returned val ∧ E2.w = E'.w ∧ R v1 s2 ∧ RelS E2 s2 ∧ RepV E2 v1 val ∧ Step E s E2 s2 := by
    intro hk
    cases hvs : vresL P σ' s' fn.results.toList with
    | none => rw [hvs] at hk; exact hk.elim
    | some vs =>
      rw [hvs] at hk
      obtain ⟨val, k1, k2⟩ := run_results (P := P) h3 h4 hvs
      exact ⟨h4.defers, val, k1, E', _, val, s', rfl, rfl, hk, h3, k2, h5⟩
  cases e with
  | normal => exact key hq
  | ret => exact key hq
  | _ => exact hq.elim
/-! ### What a value may be taken for -/
/-- The same value of the model, in the same world, may be taken for v' in state s'. -/
def VTurn (v : V) (s : S) (v' : V) (s' : S) : Prop :=
  ∀ E val, RelS E s → RepV E v val → ∃ E', E'.w = E.w ∧ Step E s E' s' ∧ RelS E' s' ∧ RepV E' v' val
theorem VTurn.refl (v : V) (s : S) : VTurn v s v s := fun E _ h1 h2 => ⟨E, rfl, .refl _ _, h1, h2⟩
theorem VTurn.forget (v : V) (s : S) : VTurn v s v.forget s := fun E _ h1 h2 => ⟨E, rfl, .refl _ _, h1, h2.forget⟩
theorem VCalls.turn {P : Program} {f : FuncId} {args : List V} {s : S} {R R' : V → S → Prop} (h : VCalls P f args s R) (hr : ∀ v s', s.next ≤ s'.next → R v s' → ∃ v2 s2, VTurn v s' v2 s2 ∧ R' v2 s2) : VCalls P f args s R' := by
  intro E vals h1 h2
  refine (h E vals h1 h2).mono fun e w' ⟨E', v, val, s', a, b, c, d, e1, f1⟩ => ?_
  obtain ⟨v2, s2, k1, k2⟩ := hr v s' f1.next c
  obtain ⟨E2, m1, m2, m3, m4⟩ := k1 E' val d e1
  exact ⟨E2, v2, val, s2, a, m1.trans b, k2, m3, m4, f1.trans m2⟩
/-- In the midst of a piece of code, too: the state may be made less. -/
theorem VWp.weaken {P : Program} {N : Nat} {c : Code} {Q : Exit → Fr → S → Prop} {σ : Fr} {s s' : S} (hv : ∀ l cs, s'.vars l = some cs → s.vars l = some cs) (hf : ∀ l cs, s'.fams l = some cs → s.fams l = some cs) (hn : s.next ≤ s'.next)
    (h : VWp P N c Q σ s') : VWp P N c Q σ s :=
  fun E a h1 h2 => wp_mono (h E a (h1.weaken hv hf hn) h2) fun _ _ _ hz => hz.trans ((Step.refl E s).weaken hv hf hn)
def S.freeze (s : S) (l n sz : Nat) : S := { vars := fun x => if x = l then none else s.vars x, fams := fun x => if x = s.next then some (n, sz) else s.fams x, next := s.next + 1 }
end Go.Proofs.YtbnbmcplmipgdaaGreatDoor
namespace Go.Proofs.YtbnbmcplmipgdaaGreatDoor
open Go
mutual
/-- No variable, no slice that may be appended to. -/
def V.dat : V → Bool
  | .agg cs => V.datL cs
  | .sl id xs => id == 0 && V.datL xs
  | .tup vs => V.datL vs
  | .fn _ cs => V.datL cs
  | .eptr cs _ => V.datL cs
  | .ptr _ _ => false
  | .slm _ _ _ _ => false
  | .int _ _ => true
  | .bool _ => true
  | .str _ => true
  | .nilp => true
  | .zsl => true
  | .nilsl => true
  | .und => true
  | .raw _ => true
def V.datL : List V → Bool
  | [] => true
  | v :: vs => V.dat v && V.datL vs
end
theorem V.datL_eq : ∀ vs : List V, V.datL vs = vs.all V.dat
  | [] => rfl
  | v :: vs => by simp [V.datL, V.datL_eq vs]
theorem V.dat_cells {v : V} (h : v.dat = true) : v.cells.all V.dat = true := by
  cases v <;> simp_all [V.dat, V.cells, V.datL_eq]
theorem V.dat_flat {xs : List V} (h : xs.all V.dat = true) : (V.flat xs).all V.dat = true := by
  rw [List.all_eq_true] at *
  intro c hc
  obtain ⟨x, hx, hcx⟩ := List.mem_flatMap.1 hc
  exact List.all_eq_true.1 (V.dat_cells (h x hx)) c hcx
/-- What a datum represents hangs on the world and on what is held for good alone. -/
theorem RepV.dat {E E' : Env} (hw : E'.w = E.w) (hi : E'.imm = E.imm) {v : V} {val : Value} (h : RepV E v val) (hd : v.dat = true) : RepV E' v val := by
  have hseg : ∀ {g off vals}, Seg E g off vals → Seg E' g off vals := fun h j v hj => by rw [hw, hi]; exact h j v hj
  refine RepV.rec (motive_1 := fun v val _ => v.dat = true → RepV E' v val) (motive_2 := fun vs vals _ => vs.all V.dat = true → RepL E' vs vals) ?_ ?_ ?_ ?_ ?_ ?_ ?_ ?_ ?_ ?_ ?_ ?_ ?_ ?_ ?_ ?_ ?_ ?_ ?_ h hd
  · intro k n a b _; exact .int a b
  · intro b _; exact .bool
  · intro s a _; exact .str a
  · intro cs vals _ a h; exact .agg (a (by simpa [V.dat, V.datL_eq] using h))
  · intro l off g a h; simp [V.dat] at h
  · intro cs vals g off k _ s a h; exact .eptr (a (by simpa [V.dat, V.datL_eq] using h)) (hseg s)
  · intro _; exact .nilp
  · intro id xs vals g off cap sz a b c _ s f r h
    simp only [V.dat, V.datL_eq, Bool.and_eq_true, beq_iff_eq] at h
    obtain ⟨rfl, h⟩ := h
    exact .sl a b c (r (V.dat_flat h)) (hseg s) (.inl rfl)
  · intro id a f h
    simp only [V.dat, V.datL_eq, Bool.and_eq_true, beq_iff_eq] at h
    obtain ⟨rfl, _⟩ := h
    exact .slz (.inl rfl)
  · intro a _; exact .zsl
  · intro _; exact .nilsl
  · intro ex l off len cap g a b c d h; simp [V.dat] at h
  · intro a h; simp [V.dat] at h
  · intro f caps vals _ a h; exact .fn (a (by simpa [V.dat, V.datL_eq] using h))
  · intro vs vals _ a h; exact .tup (a (by simpa [V.dat, V.datL_eq] using h))
  · intro _; exact .und
  · intro _ _; exact .raw
  · intro _; exact .nil
  · intro v vs val vals _ _ a b h
    simp only [List.all_cons, Bool.and_eq_true] at h
    exact .cons (a h.1) (b h.2)
mutual
/-- All variables and slices that it names come before n. -/
def V.under (n : Nat) : V → Bool
  | .agg cs => V.underL n cs
  | .sl id xs => (id == 0 || decide (id < n)) && V.underL n xs
  | .tup vs => V.underL n vs
  | .fn _ cs => V.underL n cs
  | .eptr cs _ => V.underL n cs
  | .ptr l _ => decide (l < n)
  | .slm _ l _ _ => decide (l < n)
  | .int _ _ => true
  | .bool _ => true
  | .str _ => true
  | .nilp => true
  | .zsl => true
  | .nilsl => true
  | .und => true
  | .raw _ => true
def V.underL (n : Nat) : List V → Bool
  | [] => true
  | v :: vs => V.under n v && V.underL n vs
end
theorem V.underL_eq (n : Nat) : ∀ vs : List V, V.underL n vs = vs.all (V.under n)
  | [] => rfl
  | v :: vs => by simp [V.underL, V.underL_eq n vs]
theorem V.under_cells {n : Nat} (v : V) : v.cells.all (V.under n) = v.under n := by
  cases v <;> simp [V.under, V.cells, V.underL_eq]
theorem V.under_flat {n : Nat} (xs : List V) : (V.flat xs).all (V.under n) = xs.all (V.under n) := by
  induction xs with
  | nil => rfl
  | cons x xs ih =>
    have e : V.flat (x :: xs) = x.cells ++ V.flat xs := by simp [V.flat]
    rw [e, List.all_append, ih, V.under_cells]
    rfl
theorem RepV.isBelow {E : Env} {n : Nat} (hn0 : 0 < n) (hl : ∀ l, n ≤ l → E.loc l = none) (hf : ∀ l, n ≤ l → E.fam l = none) {v : V} {val : Value} (h : RepV E v val) : v.under n = true := by
  have hl' : ∀ l g, E.loc l = some g → l < n := fun l g h => by
    rcases Nat.lt_or_ge l n with h' | h'
    · exact h'
    · rw [hl l h'] at h; cases h
  have hf' : ∀ l g, E.fam l = some g → l < n := fun l g h => by
    rcases Nat.lt_or_ge l n with h' | h'
    · exact h'
    · rw [hf l h'] at h; cases h
  refine RepV.rec (motive_1 := fun v _ _ => v.under n = true) (motive_2 := fun vs _ _ => vs.all (V.under n) = true) ?_ ?_ ?_ ?_ ?_ ?_ ?_ ?_ ?_ ?_ ?_ ?_ ?_ ?_ ?_ ?_ ?_ ?_ ?_ h
  · intro k n a b; rfl
  · intro b; rfl
  · intro s a; rfl
  · intro cs vals _ a; simpa [V.under, V.underL_eq] using a
  · intro l off g a; simpa [V.under] using hl' l g a
  · intro cs vals g off k _ s a; simpa [V.under, V.underL_eq] using a
  · rfl
  · intro id xs vals g off cap sz a b c _ s f r
    rw [V.under_flat] at r
    simp only [V.under, V.underL_eq, r, Bool.and_true, Bool.or_eq_true, beq_iff_eq, decide_eq_true_eq]
    rcases f with f | ⟨F, hF, _⟩
    · exact .inl f
    · exact .inr (hf' id F hF)
  · intro id a f
    simp only [V.under, V.underL_eq, List.all_nil, Bool.and_true, Bool.or_eq_true, beq_iff_eq, decide_eq_true_eq]
    rcases f with f | ⟨F, hF, _⟩
    · exact .inl f
    · exact .inr (hf' id F hF)
  · intro a; rfl
  · rfl
  · intro ex l off len cap g a b c d; simpa [V.under] using hl' l g a
  · intro a; simpa [V.under] using hn0
  · intro f caps vals _ a; simpa [V.under, V.underL_eq] using a
  · intro vs vals _ a; simpa [V.under, V.underL_eq] using a
  · rfl
  · intro _; rfl
  · rfl
  · intro v vs val vals _ _ a b; simp [a, b]
theorem RepL.isBelow {E : Env} {n : Nat} (hn0 : 0 < n) (hl : ∀ l, n ≤ l → E.loc l = none) (hf : ∀ l, n ≤ l → E.fam l = none) : ∀ {vs : List V} {vals : List Value}, RepL E vs vals → vs.all (V.under n) = true
  | _, _, .nil => rfl
  | _, _, .cons h t => by simp [h.isBelow hn0 hl hf, RepL.isBelow hn0 hl hf t]
theorem RepV.restrict {E E' : Env} {n : Nat} (hw : E'.w = E.w) (hi : E'.imm = E.imm) (hl : ∀ l, l < n → E'.loc l = E.loc l) (hf : ∀ l, l < n → E'.fam l = E.fam l) {v : V} {val : Value} (h : RepV E v val) (hd : v.under n = true) : RepV E' v val := by
  have hseg : ∀ {g off vals}, Seg E g off vals → Seg E' g off vals := fun h j v hj => by rw [hw, hi]; exact h j v hj
  refine RepV.rec (motive_1 := fun v val _ => v.under n = true → RepV E' v val) (motive_2 := fun vs vals _ => vs.all (V.under n) = true → RepL E' vs vals) ?_ ?_ ?_ ?_ ?_ ?_ ?_ ?_ ?_ ?_ ?_ ?_ ?_ ?_ ?_ ?_ ?_ ?_ ?_ h hd
  · intro k n a b _; exact .int a b
  · intro b _; exact .bool
  · intro s a _; exact .str a
  · intro cs vals _ a h; exact .agg (a (by simpa [V.under, V.underL_eq] using h))
  · intro l off g a h; exact .ptr ((hl l (by simpa [V.under] using h)).trans a)
  · intro cs vals g off k _ s a h; exact .eptr (a (by simpa [V.under, V.underL_eq] using h)) (hseg s)
  · intro _; exact .nilp
  · intro id xs vals g off cap sz a b c _ s f r h
    simp only [V.under, V.underL_eq, Bool.and_eq_true, Bool.or_eq_true, beq_iff_eq, decide_eq_true_eq] at h
    refine .sl a b c (r (by rw [V.under_flat]; exact h.2)) (hseg s) ?_
    rcases f with f | ⟨F, hF, hh⟩
    · exact .inl f
    · rcases h.1 with h1 | h1
      · exact .inl h1
      · exact .inr ⟨F, (hf id h1).trans hF, hh⟩
  · intro id a f h
    simp only [V.under, V.underL_eq, Bool.and_eq_true, Bool.or_eq_true, beq_iff_eq, decide_eq_true_eq] at h
    refine .slz ?_
    rcases f with f | ⟨F, hF, hh⟩
    · exact .inl f
    · rcases h.1 with h1 | h1
      · exact .inl h1
      · exact .inr ⟨F, (hf id h1).trans hF, hh⟩
  · intro a _; exact .zsl
  · intro _; exact .nilsl
  · intro ex l off len cap g a b c d h; exact .slm ((hl l (by simpa [V.under] using h)).trans a) b c d
  · intro a h; exact .slm0
  · intro f caps vals _ a h; exact .fn (a (by simpa [V.under, V.underL_eq] using h))
  · intro vs vals _ a h; exact .tup (a (by simpa [V.under, V.underL_eq] using h))
  · intro _; exact .und
  · intro _ _; exact .raw
  · intro _; exact .nil
  · intro v vs val vals _ _ a b h
    simp only [List.all_cons, Bool.and_eq_true] at h
    exact .cons (a h.1) (b h.2)
theorem RepL.restrict {E E' : Env} {n : Nat} (hw : E'.w = E.w) (hi : E'.imm = E.imm) (hl : ∀ l, l < n → E'.loc l = E.loc l) (hf : ∀ l, l < n → E'.fam l = E.fam l) : ∀ {vs : List V} {vals : List Value}, RepL E vs vals → vs.all (V.under n) = true → RepL E' vs vals
  | _, _, .nil, _ => .nil
  | _, _, .cons h t, hd => by
    simp only [List.all_cons, Bool.and_eq_true] at hd
    exact .cons (h.restrict hw hi hl hf hd.1) (RepL.restrict hw hi hl hf t hd.2)
theorem RelS.none_of_le {E : Env} {s : S} (h : RelS E s) {l : Nat} (hl : s.next ≤ l) : s.vars l = none ∧ s.fams l = none := by
  have hf := h.fresh l hl
  constructor
  · cases hc : s.vars l with
    | none => rfl
    | some cs => obtain ⟨g, arr, e, fr, h1, _⟩ := h.var _ _ hc; rw [hf.1] at h1; cases h1
  · cases hc : s.fams l with
    | none => rfl
    | some p => obtain ⟨_, F, h1, _⟩ := h.fam _ p.1 p.2 hc; rw [hf.2] at h1; cases h1
/-- A call that only computes: what it made of its own is forgotten behind it. -/
theorem VCalls.pure {P : Program} {f : FuncId} {args : List V} {s : S} {d : V} (hd : d.dat = true)
    (h : VCalls P f args s (fun v s' => v.forget = d ∧ (∀ l, l < s.next → s'.vars l = s.vars l) ∧ (∀ l, l < s.next → s'.fams l = s.fams l))) : VCalls P f args s (fun v s' => v = d ∧ s' = s) := by
  intro E vals h1 h2
  refine (h E vals h1 h2).mono fun e w' ⟨E1, v, val, s', a, b, ⟨c1, c2, c3⟩, k, r, st⟩ => ?_
  let E' : Env := { w := E1.w, imm := E1.imm, loc := fun l => if l < s.next then E1.loc l else none, fam := fun l => if l < s.next then E1.fam l else none }
  have hrep : RepV E' d val := by
    have := r.forget
    rw [c1] at this
    exact this.dat (E := E1) (E' := E') rfl rfl hd
  have hlt : ∀ l, (s.vars l).isSome = true → l < s.next := fun l hl => by
    rcases Nat.lt_or_ge l s.next with h | h
    · exact h
    · rw [(h1.none_of_le h).1] at hl; cases hl
  have hltf : ∀ l, (s.fams l).isSome = true → l < s.next := fun l hl => by
    rcases Nat.lt_or_ge l s.next with h | h
    · exact h
    · rw [(h1.none_of_le h).2] at hl; cases hl
  have hloc : ∀ l, l < s.next → E'.loc l = E1.loc l := fun l hl => by show (if l < s.next then E1.loc l else none) = _; rw [if_pos hl]
  have hfam : ∀ l, l < s.next → E'.fam l = E1.fam l := fun l hl => by show (if l < s.next then E1.fam l else none) = _; rw [if_pos hl]
  have hlt2 : ∀ l g, E.loc l = some g → l < s.next := fun l g hl => by
    rcases Nat.lt_or_ge l s.next with h | h
    · exact h
    · rw [(h1.fresh l h).1] at hl; cases hl
  have hltf2 : ∀ l F, E.fam l = some F → l < s.next := fun l g hl => by
    rcases Nat.lt_or_ge l s.next with h | h
    · exact h
    · rw [(h1.fresh l h).2] at hl; cases hl
  have ev : Evolve E E' := ⟨st.ev.imm, st.ev.cell, fun l g hl => (hloc l (hlt2 l g hl)).trans (st.ev.loc l g hl), fun id F hF => by rw [hfam id (hltf2 id F hF)]; exact st.ev.fam id F hF⟩
  have hvs : ∀ l, (s.vars l).isSome = true → (s'.vars l).isSome = true := fun l hl => by rw [c2 l (hlt l hl)]; exact hl
  have hfs : ∀ l, (s.fams l).isSome = true → (s'.fams l).isSome = true := fun l hl => by rw [c3 l (hltf l hl)]; exact hl
  refine ⟨E', d, val, s, a, b, ⟨rfl, rfl⟩, h1.fin4 ⟨fun l cs hl => ?_, fun l l' g hl hl' hg hg' => ?_, fun id n sz hid => ?_, fun id id' F F' g hid hid' hF hF' => ?_, fun l g id F hl hg hid hF => ?_, fun l hl => ?_, h1.pos, k.imm⟩ hrep
    ⟨ev, st.os, st.tape, st.output, st.size, st.block, fun q hq ht => st.track q hq ?_, Nat.le_refl _⟩⟩
  · have hl0 := hlt l (by rw [hl]; rfl)
    obtain ⟨g0, arr0, e0, fr0, m1, m2⟩ := h1.var l cs hl
    have hbel := m2.rep.isBelow (n := s.next) h1.pos (fun l hl => (h1.fresh l hl).1) (fun l hl => (h1.fresh l hl).2)
    obtain ⟨g, arr, e, fr, m3, m4⟩ := k.var l cs ((c2 l hl0).trans hl)
    exact ⟨g, arr, e, fr, (hloc l hl0).trans m3, ⟨m4.heap, RepL.restrict (E := E1) (E' := E') rfl rfl hloc hfam m4.rep hbel, m4.le, m4.free, m4.imm⟩⟩
  · rw [hloc l (hlt l hl)] at hg
    rw [hloc l' (hlt l' hl')] at hg'
    exact k.varinj l l' g (hvs l hl) (hvs l' hl') hg hg'
  · have hid0 := hltf id (by rw [hid]; rfl)
    obtain ⟨h00, F, m1, m2⟩ := k.fam id n sz ((c3 id hid0).trans hid)
    exact ⟨h00, F, (hfam id hid0).trans m1, m2⟩
  · rw [hfam id (hltf id hid)] at hF
    rw [hfam id' (hltf id' hid')] at hF'
    exact k.faminj id id' F F' g (hfs id hid) (hfs id' hid') hF hF'
  · rw [hloc l (hlt l hl)] at hg
    rw [hfam id (hltf id hid)] at hF
    exact k.famvar l g id F (hvs l hl) hg (hfs id hid) hF
  · constructor
    · show (if l < s.next then E1.loc l else none) = none
      rw [if_neg (by omega)]
    · show (if l < s.next then E1.fam l else none) = none
      rw [if_neg (by omega)]
  · rcases ht with ⟨l, hl, hg⟩ | ⟨id, F, hl, hF, hg⟩
    · rw [hloc l (hlt l hl)] at hg
      exact .inl ⟨l, hvs l hl, hg⟩
    · rw [hfam id (hltf id hl)] at hF
      exact .inr ⟨id, F, hfs id hl, hF, hg⟩
end Go.Proofs.YtbnbmcplmipgdaaGreatDoor
namespace Go.Proofs.YtbnbmcplmipgdaaGreatDoor
open Go
inductive Own where
  | var (cs : List V)
  | fam (n sz : Nat)
  | gone
def Own.cells? : Option Own → Option (List V)
  | some (.var cs) => some cs
  | _ => none
def Own.fam? : Option Own → Option (Nat × Nat)
  | some (.fam n sz) => some (n, sz)
  | _ => none
def Own.isVar : Option Own → Bool
  | some (.var _) => true
  | _ => false
def Own.isFam : Option Own → Bool
  | some (.fam _ _) => true
  | _ => false
/-- State s, and behind it what has been made since. -/
def S.ext (s : S) (xs : List Own) : S :=
  { vars := fun x => if x < s.next then s.vars x else Own.cells? xs[x - s.next]?, fams := fun x => if x < s.next then s.fams x else Own.fam? xs[x - s.next]?, next := s.next + xs.length }
theorem not_add_lt (n k : Nat) : ¬ (n + k < n) := by omega
theorem ext_next (s : S) (xs : List Own) : (s.ext xs).next = s.next + xs.length := rfl
theorem ext_vars (s : S) (xs : List Own) (k : Nat) : (s.ext xs).vars (s.next + k) = Own.cells? xs[k]? := by
  simp [S.ext, not_add_lt]
theorem ext_vars0 (s : S) (xs : List Own) : (s.ext xs).vars s.next = Own.cells? xs[0]? := by
  simp [S.ext]
theorem ext_vars_lt (s : S) (xs : List Own) {l : Nat} (h : l < s.next) : (s.ext xs).vars l = s.vars l := by
  simp [S.ext, h]
theorem ext_fams (s : S) (xs : List Own) (k : Nat) : (s.ext xs).fams (s.next + k) = Own.fam? xs[k]? := by
  simp [S.ext, not_add_lt]
theorem ext_fams0 (s : S) (xs : List Own) : (s.ext xs).fams s.next = Own.fam? xs[0]? := by
  simp [S.ext]
theorem ext_fams_lt (s : S) (xs : List Own) {l : Nat} (h : l < s.next) : (s.ext xs).fams l = s.fams l := by
  simp [S.ext, h]
theorem S.ext_eq {a b : S} (h1 : ∀ x, a.vars x = b.vars x) (h2 : ∀ x, a.fams x = b.fams x) (h3 : a.next = b.next) : a = b := by
  cases a; cases b
  simp only [S.mk.injEq]
  exact ⟨funext h1, funext h2, h3⟩
theorem get_snoc {α : Type} (xs : List α) (a : α) (k : Nat) : (xs ++ [a])[k]? = if k = xs.length then some a else xs[k]? := by
  rcases Nat.lt_trichotomy k xs.length with h | h | h
  · rw [List.getElem?_append_left h, if_neg (by omega)]
  · subst h; simp
  · rw [List.getElem?_eq_none (by simp; omega), if_neg (by omega), List.getElem?_eq_none (by omega)]
theorem ext_newVar (s : S) (xs : List Own) (cs : List V) : (s.ext xs).newVar cs = s.ext (xs ++ [.var cs]) := by
  refine S.ext_eq (fun x => ?_) (fun x => ?_) (by simp [S.newVar, S.ext]; omega)
  · simp only [S.newVar, S.ext, get_snoc]
    by_cases h : x < s.next
    · simp [h, show x ≠ s.next + xs.length by omega]
    · by_cases h2 : x = s.next + xs.length
      · simp [h2, Own.cells?, not_add_lt]
      · simp [h, h2, show x - s.next ≠ xs.length by omega]
  · simp only [S.newVar, S.ext, get_snoc]
    by_cases h : x < s.next
    · simp [h]
    · by_cases h2 : x - s.next = xs.length
      · simp [h, h2, Own.fam?]
      · simp [h, h2]
theorem ext_newFam (s : S) (xs : List Own) (n sz : Nat) : (s.ext xs).newFam n sz = s.ext (xs ++ [.fam n sz]) := by
  refine S.ext_eq (fun x => ?_) (fun x => ?_) (by simp [S.newFam, S.ext]; omega)
  · simp only [S.newFam, S.ext, get_snoc]
    by_cases h : x < s.next
    · simp [h]
    · by_cases h2 : x - s.next = xs.length
      · simp [h, h2, Own.cells?]
      · simp [h, h2]
  · simp only [S.newFam, S.ext, get_snoc]
    by_cases h : x < s.next
    · simp [h, show x ≠ s.next + xs.length by omega]
    · by_cases h2 : x = s.next + xs.length
      · simp [h2, Own.fam?, not_add_lt]
      · simp [h, h2, show x - s.next ≠ xs.length by omega]
theorem ext_setVar (s : S) (xs : List Own) (k : Nat) (cs : List V) (h' : Own.isVar xs[k]? = true) : (s.ext xs).setVar (s.next + k) cs = s.ext (xs.set k (.var cs)) := by
  obtain ⟨cs0, h⟩ : ∃ cs0, xs[k]? = some (.var cs0) := by
    unfold Own.isVar at h'
    split at h'
    · exact ⟨_, by assumption⟩
    · cases h'
  have hk : k < xs.length := (List.getElem?_eq_some_iff.1 h).1
  refine S.ext_eq (fun x => ?_) (fun x => ?_) (by simp [S.setVar, S.ext])
  · simp only [S.setVar, S.ext, List.getElem?_set]
    by_cases h1 : x < s.next
    · simp [h1, show x ≠ s.next + k by omega]
    · by_cases h2 : x = s.next + k
      · simp [h2, Own.cells?, hk, not_add_lt]
      · simp [h1, h2, show k ≠ x - s.next by omega]
  · simp only [S.setVar, S.ext, List.getElem?_set]
    by_cases h1 : x < s.next
    · simp [h1]
    · by_cases h2 : k = x - s.next
      · simp only [h1, if_false, if_true, ← h2, hk, h, Own.fam?]
      · simp [h1, h2]
theorem ext_setVar0 (s : S) (xs : List Own) (cs : List V) (h : Own.isVar xs[0]? = true) : (s.ext xs).setVar s.next cs = s.ext (xs.set 0 (.var cs)) := ext_setVar s xs 0 cs h
theorem ext_setFam (s : S) (xs : List Own) (k n sz : Nat) (h' : Own.isFam xs[k]? = true) : (s.ext xs).setFam (s.next + k) n sz = s.ext (xs.set k (.fam n sz)) := by
  obtain ⟨n0, sz0, h⟩ : ∃ n0 sz0, xs[k]? = some (.fam n0 sz0) := by
    unfold Own.isFam at h'
    split at h'
    · exact ⟨_, _, by assumption⟩
    · cases h'
  have hk : k < xs.length := (List.getElem?_eq_some_iff.1 h).1
  refine S.ext_eq (fun x => ?_) (fun x => ?_) (by simp [S.setFam, S.ext])
  · simp only [S.setFam, S.ext, List.getElem?_set]
    by_cases h1 : x < s.next
    · simp [h1]
    · by_cases h2 : k = x - s.next
      · simp only [h1, if_false, if_true, ← h2, hk, h, Own.cells?]
      · simp [h1, h2]
  · simp only [S.setFam, S.ext, List.getElem?_set]
    by_cases h1 : x < s.next
    · simp [h1, show x ≠ s.next + k by omega]
    · by_cases h2 : x = s.next + k
      · simp [h2, Own.fam?, hk, not_add_lt]
      · simp [h1, h2, show k ≠ x - s.next by omega]
theorem ext_setFam0 (s : S) (xs : List Own) (n sz : Nat) (h : Own.isFam xs[0]? = true) : (s.ext xs).setFam s.next n sz = s.ext (xs.set 0 (.fam n sz)) := ext_setFam s xs 0 n sz h
theorem ext_setVar_lt (s : S) (xs : List Own) {l : Nat} (h : l < s.next) (cs : List V) : (s.ext xs).setVar l cs = (s.setVar l cs).ext xs := by
  refine S.ext_eq (fun x => ?_) (fun x => rfl) rfl
  simp only [S.setVar, S.ext]
  by_cases h1 : x = l
  · simp [h1, h]
  · simp [h1]
/-- A function by its body, its own making written out. -/
theorem VCalls.bodyE {P : Program} {f : FuncId} {fn : Func} {c : Code} {args : List V} {s : S} {R : V → S → Prop} (hf : P.funcs[f]? = some fn) (hb : fn.body = some c) (hn : args.length ≤ fn.ntmps)
    (h : VWp P fn.ntmps c (VPost P fn.results.toList R) (argsFr args) (s.ext [])) : VCalls P f args s R :=
  VCalls.body hf hb hn (VWp.weaken (fun l cs hl => by
    simp only [S.ext] at hl
    split at hl
    · exact hl
    · cases hl) (fun l cs hl => by
    simp only [S.ext] at hl
    split at hl
    · exact hl
    · cases hl) (by simp [S.ext]) h)
/-- What only computes: behind it nothing of its own. -/
theorem VCalls.pureE {P : Program} {f : FuncId} {fn : Func} {c : Code} {args : List V} {s : S} {d : V} (hf : P.funcs[f]? = some fn) (hb : fn.body = some c) (hn : args.length ≤ fn.ntmps) (hd : d.dat = true)
    (h : VWp P fn.ntmps c (VPost P fn.results.toList (fun v s' => v.forget = d ∧ ∃ xs, s' = s.ext xs)) (argsFr args) (s.ext [])) : VCalls P f args s (fun v s' => v = d ∧ s' = s) := by
  refine VCalls.pure hd ((VCalls.bodyE hf hb hn h).mono ?_)
  rintro v s' ⟨h1, xs, rfl⟩
  exact ⟨h1, fun l hl => ext_vars_lt s xs hl, fun l hl => ext_fams_lt s xs hl⟩
theorem cells_agg (cs : List V) : (V.agg cs).cells = cs := rfl
theorem cells_int (k : IntKind) (n : Int) : (V.int k n).cells = [V.int k n] := rfl
theorem cells_bool (b : Bool) : (V.bool b).cells = [V.bool b] := rfl
theorem cells_str (b : List UInt8) : (V.str b).cells = [V.str b] := rfl
theorem cells_ptr (l o : Nat) : (V.ptr l o).cells = [V.ptr l o] := rfl
theorem cells_eptr (cs : List V) (o : Nat) : (V.eptr cs o).cells = [V.eptr cs o] := rfl
theorem cells_nilp : V.nilp.cells = [V.nilp] := rfl
theorem cells_sl (i : Nat) (xs : List V) : (V.sl i xs).cells = [V.sl i xs] := rfl
theorem cells_zsl : V.zsl.cells = [V.zsl] := rfl
theorem cells_nilsl : V.nilsl.cells = [V.nilsl] := rfl
theorem cells_slm (x : Cp) (l o n : Nat) : (V.slm x l o n).cells = [V.slm x l o n] := rfl
theorem cells_fn (f : Nat) (cs : List V) : (V.fn f cs).cells = [V.fn f cs] := rfl
theorem splice_zero (cs : List V) : splice cs 0 [] = cs := by simp [splice]
theorem splice_cons (c v : V) (cs vs : List V) : splice (c :: cs) 0 (v :: vs) = v :: splice cs 0 vs := by simp [splice]
theorem splice_succ (c : V) (cs vs : List V) (k : Nat) : splice (c :: cs) (k + 1) vs = c :: splice cs k vs := by
  simp [splice, Nat.add_right_comm k 1]
theorem VOps.nil {P : Program} {N : Nat} {ops : Array Oper} {K : Fr → S → Prop} {σ : Fr} {s : S} (h : K σ s) : VOps P N ops [] K σ s := h
theorem VWp.condT {P : Program} {N : Nat} {c : Operand} {x y : Code} {Q : Exit → Fr → S → Prop} {σ : Fr} {s : S} (hc : vev σ c = some (.bool true)) (h : VWp P N x Q σ s) : VWp P N (.cond c x y) Q σ s :=
  VWp.cond hc (fun _ => h) (fun h => by cases h)
theorem VWp.condF {P : Program} {N : Nat} {c : Operand} {x y : Code} {Q : Exit → Fr → S → Prop} {σ : Fr} {s : S} (hc : vev σ c = some (.bool false)) (h : VWp P N y Q σ s) : VWp P N (.cond c x y) Q σ s :=
  VWp.cond hc (fun h => by cases h) (fun _ => h)
/-! ### Lengths and ranges, read off what is represented -/
mutual
/-- Lengths and numbers that a value of the model can have. -/
def V.wf : V → Bool
  | .agg cs => V.wfL cs
  | .sl _ xs => decide (xs.length ≤ maxLen) && V.wfL xs
  | .tup vs => V.wfL vs
  | .fn _ cs => V.wfL cs
  | .eptr cs _ => V.wfL cs
  | .ptr _ _ => true
  | .slm _ _ _ n => decide (n ≤ maxLen)
  | .int k n => decide (k.min ≤ n) && decide (n ≤ k.max)
  | .bool _ => true
  | .str s => decide (s.length ≤ maxLen)
  | .nilp => true
  | .zsl => true
  | .nilsl => true
  | .und => true
  | .raw _ => true
def V.wfL : List V → Bool
  | [] => true
  | v :: vs => V.wf v && V.wfL vs
end
theorem V.wfL_eq : ∀ vs : List V, V.wfL vs = vs.all V.wf
  | [] => rfl
  | v :: vs => by simp [V.wfL, V.wfL_eq vs]
theorem V.wf_cells (v : V) : v.cells.all V.wf = v.wf := by
  cases v <;> simp [V.wf, V.cells, V.wfL_eq]
theorem V.wf_flat (xs : List V) : (V.flat xs).all V.wf = xs.all V.wf := by
  induction xs with
  | nil => rfl
  | cons x xs ih =>
    have e : V.flat (x :: xs) = x.cells ++ V.flat xs := by simp [V.flat]
    rw [e, List.all_append, ih, V.wf_cells]
    rfl
theorem RepV.wf {E : Env} {v : V} {val : Value} (h : RepV E v val) : v.wf = true := by
  refine RepV.rec (motive_1 := fun v _ _ => v.wf = true) (motive_2 := fun vs _ _ => vs.all V.wf = true) ?_ ?_ ?_ ?_ ?_ ?_ ?_ ?_ ?_ ?_ ?_ ?_ ?_ ?_ ?_ ?_ ?_ ?_ ?_ h
  · intro k n a b; simp [V.wf, a, b]
  · intro b; rfl
  · intro s a; simpa [V.wf] using a
  · intro cs vals _ a; simpa [V.wf, V.wfL_eq] using a
  · intro l off g a; rfl
  · intro cs vals g off k _ s a; simpa [V.wf, V.wfL_eq] using a
  · rfl
  · intro id xs vals g off cap sz a b c _ s f r
    rw [V.wf_flat] at r
    simp only [V.wf, V.wfL_eq, r, Bool.and_true, decide_eq_true_eq]
    omega
  · intro id a f; simp [V.wf, V.wfL]
  · intro a; rfl
  · rfl
  · intro ex l off len cap g a b c d; simp only [V.wf, decide_eq_true_eq]; omega
  · intro a; simp [V.wf]
  · intro f caps vals _ a; simpa [V.wf, V.wfL_eq] using a
  · intro vs vals _ a; simpa [V.wf, V.wfL_eq] using a
  · rfl
  · intro _; rfl
  · rfl
  · intro v vs val vals _ _ a b; simp [a, b]
theorem RepL.wf {E : Env} : ∀ {vs : List V} {vals : List Value}, RepL E vs vals → vs.all V.wf = true
  | _, _, .nil => rfl
  | _, _, .cons h t => by simp [h.wf, RepL.wf t]
theorem VCalls.wf {P : Program} {f : FuncId} {args : List V} {s : S} {R : V → S → Prop} (h : args.all V.wf = true → VCalls P f args s R) : VCalls P f args s R :=
  fun E vals h1 h2 => h h2.wf E vals h1 h2
/-! ### A made slice, filled from its head on -/
/-- The cells of a made slice of n elements, of which the first hold xs. -/
def filled (z : List V) (n : Nat) (xs : List V) : List V := V.flat xs ++ (List.replicate (n - xs.length) z).flatten
theorem filled_nil (z : List V) (n : Nat) : filled z n [] = (List.replicate n z).flatten := by simp [filled, V.flat]
theorem filled_length {z : List V} {n : Nat} {xs : List V} (h : ∀ x ∈ xs, x.cells.length = z.length) (hn : xs.length ≤ n) : (filled z n xs).length = n * z.length := by
  unfold filled
  rw [List.length_append, flat_uniform h, length_replicate_flatten, ← Nat.add_mul]
  congr 1
  omega
theorem filled_snoc {z : List V} {n : Nat} {xs : List V} {x : V} (h : ∀ x ∈ xs, x.cells.length = z.length) (hn : xs.length < n) (hx : x.cells.length = z.length) :
    splice (filled z n xs) (xs.length * z.length) x.cells = filled z n (xs ++ [x]) := by
  unfold splice filled
  have hl := flat_uniform h
  have e : n - xs.length = n - (xs ++ [x]).length + 1 := by simp; omega
  rw [e, List.replicate_succ, List.flatten_cons, ← hl, List.take_left, List.drop_append, List.drop_of_length_le (by omega), List.nil_append]
  have e2 : (V.flat xs).length + x.cells.length - (V.flat xs).length = z.length := by omega
  rw [e2, List.drop_left]
  simp [V.flat]
theorem filled_full {z : List V} {n : Nat} {xs : List V} (hn : xs.length = n) : filled z n xs = V.flat xs := by
  simp [filled, hn]
/-- Elements that are cells' groups. -/
def V.fits (agg : Bool) : V → Bool
  | .agg _ => agg
  | v => !agg && v.one
theorem chunk_flat {sz : Nat} {agg : Bool} (h0 : 0 < sz) : ∀ {xs : List V}, (∀ x ∈ xs, x.cells.length = sz) → (∀ x ∈ xs, x.fits agg = true) → chunkV sz agg xs.length (V.flat xs) = xs
  | [], _, _ => rfl
  | x :: xs, h, hf => by
    have e : V.flat (x :: xs) = x.cells ++ V.flat xs := by simp [V.flat]
    have hx := h x (by simp)
    have hfx := hf x (by simp)
    have ih := chunk_flat (xs := xs) h0 (fun y hy => h y (by simp [hy])) (fun y hy => hf y (by simp [hy]))
    rw [e]
    simp only [List.length_cons, chunkV]
    rw [← hx, List.take_left, List.drop_left, hx, ih]
    congr 1
    cases x <;> cases agg <;> simp_all [V.fits, V.cells, V.one]
theorem chunkOk_flat {sz : Nat} {agg : Bool} {xs : List V} (hf : ∀ x ∈ xs, x.fits agg = true) (h1 : agg = false → sz = 1) : chunkOk sz agg (V.flat xs) = true := by
  cases agg with
  | true => rfl
  | false =>
    simp only [chunkOk, Bool.false_or, Bool.and_eq_true, beq_iff_eq, List.all_eq_true]
    refine ⟨h1 rfl, fun c hc => ?_⟩
    obtain ⟨x, hx, hcx⟩ := List.mem_flatMap.1 hc
    have := hf x hx
    cases x <;> simp_all [V.fits, V.cells, V.one]
theorem cells_map {α : Type} {f : α → V} {n : Nat} (h : ∀ c, (f c).cells.length = n) (l : List α) : ∀ x ∈ l.map f, x.cells.length = n := by
  intro x hx
  obtain ⟨c, _, rfl⟩ := List.mem_map.1 hx
  exact h c
theorem fits_map {α : Type} {f : α → V} {g : Bool} (h : ∀ c, (f c).fits g = true) (l : List α) : ∀ x ∈ l.map f, x.fits g = true := by
  intro x hx
  obtain ⟨c, _, rfl⟩ := List.mem_map.1 hx
  exact h c
theorem filled_all {α : Type} {f : α → V} {z : List V} (cs : List α) : filled z cs.length ((cs.map f).take cs.length) = V.flat (cs.map f) := by
  rw [List.take_of_length_le (by simp), filled_full (by simp)]
theorem wrap_succ {i : Nat} (h : i < 9223372036854775807) : IntKind.i64.wrap ((i : Int) + 1) = (i : Int) + 1 := by
  rw [IntKind.wrap_i64]; omega
theorem min_i64 : IntKind.i64.min = -9223372036854775808 := by decide
theorem max_i64 : IntKind.i64.max = 9223372036854775807 := by decide
theorem min_u8 : IntKind.u8.min = 0 := by decide
theorem max_u8 : IntKind.u8.max = 255 := by decide
theorem min_u64 : IntKind.u64.min = 0 := by decide
theorem max_u64 : IntKind.u64.max = 18446744073709551615 := by decide
/-- A function that may be called: nothing to look into. -/
structure CallOk (P : Program) (g : FuncId) : Prop where
  h : callOk P g = true
/-! ### What the walk reckons with -/
attribute [simp] VOps VStep dstOk vwanted VOp VOp0 VCall vop vev vevL vevO vparts vconvert vbuiltin vthen vinBlock putO put argsFr takeV splice_zero splice_cons splice_succ Ty.agg cells_agg cells_int cells_bool cells_str cells_ptr cells_eptr cells_nilp cells_sl cells_zsl cells_nilsl cells_slm cells_fn V.one
  valloc vload vstore vfieldAddr vfield vindexAddr vindex vbin vint vstrOp vun vconv vslice bound vlen vmax vmin vextract vfill vbuild placeS vbuildSlice chunkV chunkOk vmake elemsOf vappend veq eqF eqT
  vtoStr vtoBytes vbytes vOf vOf1 vOfL VPost vresL vres1 oneOf V.forget V.forgetL V.dat V.datL
  min_i64 max_i64 min_u8 max_u8 min_u64 max_u64 ext_next ext_vars ext_vars0 ext_fams ext_fams0 ext_newVar ext_newFam ext_setVar ext_setVar0 ext_setFam ext_setFam0 Own.cells? Own.fam? Own.isVar Own.isFam
end Go.Proofs.YtbnbmcplmipgdaaGreatDoor
namespace Go.Proofs.YtbnbmcplmipgdaaGreatDoor
open Go Go.RowKit
/-- All that is there is held for good. -/
def env0 (w : World) : Env := { w, imm := fun g o => ∃ v, w.cell? ⟨g, o, none⟩ = some v, loc := fun _ => none, fam := fun _ => none }
def s0 : S := { vars := fun _ => none, fams := fun _ => none, next := 1 }
def TabW (w : World) : Prop := ∀ g vs, TabIs g vs → TabAt w g vs
theorem rel0 (w : World) (ht : TabW w) : RelS (env0 w) s0 :=
  ⟨⟨fun _ _ h => (by cases h), fun _ _ _ h => (by cases h), fun _ _ _ h => (by cases h), fun _ _ _ _ _ h => (by cases h), fun _ _ _ _ h => (by cases h), fun _ _ => ⟨rfl, rfl⟩, Nat.one_pos, fun _ _ h => h⟩, fun g vs e => ⟨ht g vs e, by rintro (⟨l, hl, _⟩ | ⟨id, F, hl, _⟩) <;> cases hl⟩⟩
/-- A law: it returns true, and what was there is as it was. -/
theorem law_calls {P : Program} {f : FuncId} {args : List V} {vals : List Value} {w : World} (ht : TabW w) (h : ∀ s, VCalls P f args s (fun v _ => v = .bool true)) (hr : RepL (env0 w) args vals) :
    Calls P f vals.toArray w fun e w' => e = .returned (.bool true) ∧ Below w.heap.size w w' := by
  refine (h s0 (env0 w) vals (rel0 w ht) hr).mono ?_
  rintro e w' ⟨E', v, val, s', rfl, rfl, rfl, _, hv, st⟩
  cases hv
  refine ⟨rfl, ⟨st.os, st.tape, st.output, st.size, fun k hk => st.block k hk ?_⟩⟩
  rintro (⟨l, hl, _⟩ | ⟨id, F, hl, _⟩) <;> cases hl
/-! ### Short strings are not too long -/
theorem le_maxLen {n : Nat} (h : n ≤ 1000000000000000000) : n ≤ maxLen := by unfold maxLen; omega
@[simp] theorem maxLen_1 : 1 ≤ maxLen := le_maxLen (by omega)
@[simp] theorem maxLen_2 : 2 ≤ maxLen := le_maxLen (by omega)
@[simp] theorem maxLen_3 : 3 ≤ maxLen := le_maxLen (by omega)
@[simp] theorem maxLen_4 : 4 ≤ maxLen := le_maxLen (by omega)
@[simp] theorem maxLen_5 : 5 ≤ maxLen := le_maxLen (by omega)
@[simp] theorem maxLen_6 : 6 ≤ maxLen := le_maxLen (by omega)
@[simp] theorem maxLen_7 : 7 ≤ maxLen := le_maxLen (by omega)
@[simp] theorem maxLen_8 : 8 ≤ maxLen := le_maxLen (by omega)
@[simp] theorem maxLen_9 : 9 ≤ maxLen := le_maxLen (by omega)
@[simp] theorem maxLen_10 : 10 ≤ maxLen := le_maxLen (by omega)
@[simp] theorem maxLen_11 : 11 ≤ maxLen := le_maxLen (by omega)
@[simp] theorem maxLen_12 : 12 ≤ maxLen := le_maxLen (by omega)
@[simp] theorem maxLen_13 : 13 ≤ maxLen := le_maxLen (by omega)
@[simp] theorem maxLen_14 : 14 ≤ maxLen := le_maxLen (by omega)
@[simp] theorem maxLen_15 : 15 ≤ maxLen := le_maxLen (by omega)
@[simp] theorem maxLen_16 : 16 ≤ maxLen := le_maxLen (by omega)
@[simp] theorem maxLen_17 : 17 ≤ maxLen := le_maxLen (by omega)
@[simp] theorem maxLen_18 : 18 ≤ maxLen := le_maxLen (by omega)
@[simp] theorem maxLen_19 : 19 ≤ maxLen := le_maxLen (by omega)
@[simp] theorem maxLen_20 : 20 ≤ maxLen := le_maxLen (by omega)
@[simp] theorem maxLen_21 : 21 ≤ maxLen := le_maxLen (by omega)
@[simp] theorem maxLen_22 : 22 ≤ maxLen := le_maxLen (by omega)
@[simp] theorem maxLen_23 : 23 ≤ maxLen := le_maxLen (by omega)
@[simp] theorem maxLen_24 : 24 ≤ maxLen := le_maxLen (by omega)
@[simp] theorem maxLen_25 : 25 ≤ maxLen := le_maxLen (by omega)
@[simp] theorem maxLen_26 : 26 ≤ maxLen := le_maxLen (by omega)
@[simp] theorem maxLen_27 : 27 ≤ maxLen := le_maxLen (by omega)
@[simp] theorem maxLen_28 : 28 ≤ maxLen := le_maxLen (by omega)
@[simp] theorem maxLen_29 : 29 ≤ maxLen := le_maxLen (by omega)
@[simp] theorem maxLen_30 : 30 ≤ maxLen := le_maxLen (by omega)
@[simp] theorem maxLen_31 : 31 ≤ maxLen := le_maxLen (by omega)
@[simp] theorem maxLen_32 : 32 ≤ maxLen := le_maxLen (by omega)
@[simp] theorem maxLen_33 : 33 ≤ maxLen := le_maxLen (by omega)
@[simp] theorem maxLen_34 : 34 ≤ maxLen := le_maxLen (by omega)
@[simp] theorem maxLen_35 : 35 ≤ maxLen := le_maxLen (by omega)
@[simp] theorem maxLen_36 : 36 ≤ maxLen := le_maxLen (by omega)
@[simp] theorem maxLen_37 : 37 ≤ maxLen := le_maxLen (by omega)
@[simp] theorem maxLen_38 : 38 ≤ maxLen := le_maxLen (by omega)
@[simp] theorem maxLen_39 : 39 ≤ maxLen := le_maxLen (by omega)
@[simp] theorem maxLen_40 : 40 ≤ maxLen := le_maxLen (by omega)
@[simp] theorem maxLen_41 : 41 ≤ maxLen := le_maxLen (by omega)
@[simp] theorem maxLen_42 : 42 ≤ maxLen := le_maxLen (by omega)
@[simp] theorem maxLen_43 : 43 ≤ maxLen := le_maxLen (by omega)
@[simp] theorem maxLen_44 : 44 ≤ maxLen := le_maxLen (by omega)
@[simp] theorem maxLen_45 : 45 ≤ maxLen := le_maxLen (by omega)
@[simp] theorem maxLen_46 : 46 ≤ maxLen := le_maxLen (by omega)
@[simp] theorem maxLen_47 : 47 ≤ maxLen := le_maxLen (by omega)
@[simp] theorem maxLen_48 : 48 ≤ maxLen := le_maxLen (by omega)
@[simp] theorem maxLen_49 : 49 ≤ maxLen := le_maxLen (by omega)
@[simp] theorem maxLen_50 : 50 ≤ maxLen := le_maxLen (by omega)
@[simp] theorem maxLen_51 : 51 ≤ maxLen := le_maxLen (by omega)
@[simp] theorem maxLen_52 : 52 ≤ maxLen := le_maxLen (by omega)
@[simp] theorem maxLen_53 : 53 ≤ maxLen := le_maxLen (by omega)
@[simp] theorem maxLen_54 : 54 ≤ maxLen := le_maxLen (by omega)
@[simp] theorem maxLen_55 : 55 ≤ maxLen := le_maxLen (by omega)
@[simp] theorem maxLen_56 : 56 ≤ maxLen := le_maxLen (by omega)
@[simp] theorem maxLen_57 : 57 ≤ maxLen := le_maxLen (by omega)
@[simp] theorem maxLen_58 : 58 ≤ maxLen := le_maxLen (by omega)
@[simp] theorem maxLen_59 : 59 ≤ maxLen := le_maxLen (by omega)
@[simp] theorem maxLen_60 : 60 ≤ maxLen := le_maxLen (by omega)
@[simp] theorem maxLen_61 : 61 ≤ maxLen := le_maxLen (by omega)
@[simp] theorem maxLen_62 : 62 ≤ maxLen := le_maxLen (by omega)
@[simp] theorem maxLen_63 : 63 ≤ maxLen := le_maxLen (by omega)
@[simp] theorem maxLen_64 : 64 ≤ maxLen := le_maxLen (by omega)
end Go.Proofs.YtbnbmcplmipgdaaGreatDoor
