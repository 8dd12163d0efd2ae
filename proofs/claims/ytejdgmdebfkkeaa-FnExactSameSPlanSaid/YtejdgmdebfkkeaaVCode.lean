/-
  The value level's judgements: what an operation, a region, a piece of code and a call do. Own work; no condition.
-/
import Derived.Test.YtejdgmdebfkkeaaVOp7
import Derived.Deep.LoopGhost
namespace Go.Proofs.Ytejdgmdebfkkeaa
open Go

def vparts (σ : Nat → V) : List (Nat × Operand) → Option (List (Nat × V))
  | [] => some []
  | (i, x) :: r => (vev σ x).bind fun v => (vparts σ r).map ((i, v) :: ·)

def vevO (σ : Nat → V) : Option Operand → Option (Option V)
  | none => some none
  | some x => (vev σ x).map some

def vconvert (P : Program) (U T : TypeId) (x : V) (s : S) : Option (V × S) :=
  match x with
  | .int _ _ => (vconv P U T x).map fun v => (v, s)
  | .str _ => (tyOf P T).bind fun t => match t.kd with
    | .string => (vconv P U T x).map fun v => (v, s)
    | _ => vtoBytes P U T x s
  | _ => (vtoStr P U T x s).map fun v => (v, s)

def vbuiltin (P : Program) (b : Builtin) (A : List TypeId) (args : List V) (s : S) : Option (V × S) :=
  match b, A, args with
  | .len, [T], [x] => (vlen P T x).map fun v => (v, s)
  | .append, [T, U], [x, y] => if U = T then vappend P T x y s else none
  | .max, _, [x, y] => (vmax x y).map fun v => (v, s)
  | .min, _, [x, y] => (vmin x y).map fun v => (v, s)
  | _, _, _ => none

/-- All operations but the calls of functions: what they leave in their slot, and the state. -/
def vop (P : Program) (o : Oper) (σ : Nat → V) (s : S) : Option (V × S) :=
  match o.op with
  | .move x => (vev σ x).map fun v => (v, s)
  | .assign x => (vev σ x).map fun v => (v, s)
  | .pick c a b => (vev σ c).bind fun c => (vev σ a).bind fun a => (vev σ b).bind fun b => match c with | .bool c => some (if c then a else b, s) | _ => none
  | .alloc T => valloc P T s
  | .box _ x => (vev σ x).map fun v => (.ptr s.next 0, s.newVar v.cells)
  | .build T parts => (vparts σ parts.toList).bind fun ps => (vbuild P T ps).map fun v => (v, s)
  | .buildSlice T len parts => (vparts σ parts.toList).bind fun ps => vbuildSlice P T len ps s
  | .load T x => (vev σ x).bind fun v => (vload P T v s).map fun v => (v, s)
  | .store T a x => (vev σ a).bind fun a => (vev σ x).bind fun x => (vstore P T a x s).map fun s' => (.und, s')
  | .nilCheck x => (vev σ x).bind fun v => match v with
    | .ptr l k => some (.ptr l k, s)
    | .eptr cs k => some (.eptr cs k, s)
    | .fn f cs => some (.fn f cs, s)
    | _ => none
  | .binOp op T x y _ => (vev σ x).bind fun x => (vev σ y).bind fun y => (vbin P op T x y).map fun v => (v, s)
  | .unOp op _ x => (vev σ x).bind fun x => (vun op x).map fun v => (v, s)
  | .convert U T x => (vev σ x).bind fun x => vconvert P U T x s
  | .makeFunc fn first captured => match fn, first.toList with
    | .func f, [] => (vevL σ captured.toList).map fun cs => (.fn f cs, s)
    | _, _ => none
  | .makeSlice T l c => (vev σ l).bind fun l => (vev σ c).bind fun c => vmake P T l c s
  | .slice T x lo hi mx => (vev σ x).bind fun x => (vevO σ lo).bind fun lo => (vevO σ hi).bind fun hi => (vevO σ mx).bind fun mx => (vslice P T x lo hi mx).map fun v => (v, s)
  | .fieldAddr T x f => (vev σ x).bind fun x => (vfieldAddr P T x f).map fun v => (v, s)
  | .field T x f => (vev σ x).bind fun x => (vfield P T x f).map fun v => (v, s)
  | .indexAddr T x i => (vev σ x).bind fun x => (vev σ i).bind fun i => (vindexAddr P T x i).map fun v => (v, s)
  | .index T x i => (vev σ x).bind fun x => (vev σ i).bind fun i => (vindex P T x i).map fun v => (v, s)
  | .extract x i => (vev σ x).bind fun x => (vextract x i).map fun v => (v, s)
  | .call c => match c.callee with
    | .builtin b => (vevL σ c.args.toList).bind fun args => vbuiltin P b c.argTypes.toList args s
    | _ => none
  | _ => none

theorem vparts_sound {E : Env} {σ : Nat → V} {N : Nat} {a : Act} (h : RepA E σ N a) : ∀ {ps : List (Nat × Operand)} {vs : List (Nat × V)}, vparts σ ps = some vs → RepP E vs (ps.map fun p => (p.1, a.eval p.2))
  | [], vs, e => by cases e; exact .nil
  | (i, x) :: r, vs, e => by
    simp only [vparts, Option.bind_eq_some_iff, Option.map_eq_some_iff] at e
    obtain ⟨v, hv, l, hl, rfl⟩ := e
    exact .cons (vev_sound h hv) (vparts_sound h hl)

theorem vevO_sound {E : Env} {σ : Nat → V} {N : Nat} {a : Act} (h : RepA E σ N a) {x : Option Operand} {v : Option V} (e : vevO σ x = some v) : RepO E v (x.map a.eval) := by
  cases x with
  | none => cases e; trivial
  | some x =>
    obtain ⟨w, hw, rfl⟩ := Option.map_eq_some_iff.1 e
    exact vev_sound h hw

def DoesO (P : Program) (o : Oper) (a : Act) (E : Env) (s : S) (v : V) (s' : S) : Prop :=
  ∃ val E', ((execOp a.eval o).run P E.w = .ok (.value val) E'.w ∨ ((execOp a.eval o).run P E.w = .ok .skip E'.w ∧ val = undef)) ∧ Step E s E' s' ∧ RelS E' s' ∧ RepV E' v val

theorem DoesO.of {P : Program} {o : Oper} {a : Act} {E : Env} {s s' : S} {v : V} {m : Sem Value} (h : Does P m E s v s') (e : execOp a.eval o = (do pure (.value (← m)))) : DoesO P o a E s v s' := by
  obtain ⟨val, E', h1, h2, h3, h4⟩ := h
  exact ⟨val, E', .inl (by rw [e]; simp [h1]), h2, h3, h4⟩

theorem DoesO.same {P : Program} {o : Oper} {a : Act} {E : Env} {s : S} {v : V} {m : Sem Value} (hr : RelS E s) (h : ∃ val, m.run P E.w = .ok val E.w ∧ RepV E v val) (e : execOp a.eval o = (do pure (.value (← m)))) : DoesO P o a E s v s := by
  obtain ⟨val, h1, h2⟩ := h
  exact .of (.pure hr h1 h2) e

theorem vop_sound {P : Program} {o : Oper} {σ : Nat → V} {N : Nat} {a : Act} {E : Env} {s s' : S} {v : V} (hr : RelS E s) (ha : RepA E σ N a) (h : vop P o σ s = some (v, s')) : DoesO P o a E s v s' := by
  unfold vop at h
  split at h
  case h_23 => cases h
  all_goals rename_i ho
  case h_1 =>
    obtain ⟨x, hx, e⟩ := Option.map_eq_some_iff.1 h
    cases e
    exact ⟨_, E, .inl (by simp only [execOp, ho, Sem.run_pure]), .refl _ _, hr, vev_sound ha hx⟩
  case h_2 =>
    obtain ⟨x, hx, e⟩ := Option.map_eq_some_iff.1 h
    cases e
    exact ⟨_, E, .inl (by simp only [execOp, ho, Sem.run_pure]), .refl _ _, hr, vev_sound ha hx⟩
  case h_3 cO aO bO =>
    simp only [Option.bind_eq_some_iff] at h
    obtain ⟨c, hc, x, hx, y, hy, h⟩ := h
    split at h
    case h_2 => cases h
    rename_i c
    cases h
    have h1 := vev_sound ha hc
    generalize hcv : a.eval _ = cv at h1
    cases h1
    refine ⟨if c = true then a.eval aO else a.eval bO, E, .inl (by simp only [execOp, ho, Sem.run_bind, hcv, asBool, Sem.run_pure, Result.andThen_ok]), .refl _ _, hr, ?_⟩
    cases c
    · exact vev_sound ha hy
    · exact vev_sound ha hx
  case h_4 => exact .of (valloc_sound hr h) (by simp only [execOp, ho]; try rfl)
  case h_5 =>
    obtain ⟨x, hx, e⟩ := Option.map_eq_some_iff.1 h
    cases e
    exact .of (box_sound hr (vev_sound ha hx)) (by simp only [execOp, ho]; try rfl)
  case h_6 T parts =>
    simp only [Option.bind_eq_some_iff, Option.map_eq_some_iff] at h
    obtain ⟨ps, hps, v, hv, e⟩ := h
    cases e
    refine .same hr (vbuild_sound (vparts_sound ha hps) hv) ?_
    have : (parts.toList.map fun p => (p.1, a.eval p.2)).toArray = parts.map fun p => (p.1, a.eval p.2) := by apply Array.ext'; simp
    simp only [execOp, ho, this]
    try rfl
  case h_7 T len parts =>
    simp only [Option.bind_eq_some_iff] at h
    obtain ⟨ps, hps, hv⟩ := h
    refine .of (vbuildSlice_sound hr (vparts_sound ha hps) hv) ?_
    have : (parts.toList.map fun p => (p.1, a.eval p.2)).toArray = parts.map fun p => (p.1, a.eval p.2) := by apply Array.ext'; simp
    simp only [execOp, ho, this]
    try rfl
  case h_8 =>
    simp only [Option.bind_eq_some_iff, Option.map_eq_some_iff] at h
    obtain ⟨x, hx, v, hv, e⟩ := h
    cases e
    exact .of (vload_sound hr (vev_sound ha hx) hv) (by simp only [execOp, ho]; try rfl)
  case h_9 =>
    simp only [Option.bind_eq_some_iff, Option.map_eq_some_iff] at h
    obtain ⟨x, hx, y, hy, s1, hs, e⟩ := h
    cases e
    obtain ⟨E', h1, h2, h3⟩ := vstore_sound (P := P) hr (vev_sound ha hx) (vev_sound ha hy) hs
    exact ⟨undef, E', .inr ⟨by simp only [execOp, ho, Sem.run_bind, h1, Result.andThen_ok, Sem.run_pure], rfl⟩, h2, h3, .und⟩
  case h_10 =>
    simp only [Option.bind_eq_some_iff] at h
    obtain ⟨x, hx, h⟩ := h
    have h1 := vev_sound ha hx
    split at h
    case h_4 => cases h
    all_goals
      cases h
      generalize hcv : a.eval _ = cv at h1
      cases h1
      exact ⟨_, E, .inl (by simp only [execOp, ho, hcv, Sem.run_pure]; rfl), .refl _ _, hr, by constructor <;> assumption⟩
  case h_11 =>
    simp only [Option.bind_eq_some_iff, Option.map_eq_some_iff] at h
    obtain ⟨x, hx, y, hy, v, hv, e⟩ := h
    cases e
    exact .same hr (vbin_sound (vev_sound ha hx) (vev_sound ha hy) hv) (by simp only [execOp, ho]; try rfl)
  case h_12 =>
    simp only [Option.bind_eq_some_iff, Option.map_eq_some_iff] at h
    obtain ⟨x, hx, v, hv, e⟩ := h
    cases e
    exact .same hr (vun_sound (vev_sound ha hx) hv) (by simp only [execOp, ho]; try rfl)
  case h_13 =>
    simp only [Option.bind_eq_some_iff] at h
    obtain ⟨x, hx, h⟩ := h
    have h1 := vev_sound ha hx
    unfold vconvert at h
    split at h
    · obtain ⟨v, hv, e⟩ := Option.map_eq_some_iff.1 h
      cases e
      exact .same hr (vconv_sound h1 hv) (by simp only [execOp, ho]; try rfl)
    · obtain ⟨t, ht, h⟩ := Option.bind_eq_some_iff.1 h
      split at h
      · obtain ⟨v, hv, e⟩ := Option.map_eq_some_iff.1 h
        cases e
        exact .same hr (vconv_sound h1 hv) (by simp only [execOp, ho]; try rfl)
      · exact .of (vtoBytes_sound hr h1 h) (by simp only [execOp, ho]; try rfl)
    · obtain ⟨v, hv, e⟩ := Option.map_eq_some_iff.1 h
      cases e
      exact .same hr (vtoStr_sound hr h1 hv) (by simp only [execOp, ho]; try rfl)
  case h_14 fn first captured =>
    split at h
    case h_2 => cases h
    rename_i f hfirst
    obtain ⟨cs, hcs, e⟩ := Option.map_eq_some_iff.1 h
    cases e
    have hf : first = #[] := by simpa using hfirst
    subst hf
    have hm : (captured.toList.map a.eval).toArray = captured.map a.eval := by apply Array.ext'; simp
    exact ⟨_, E, .inl (by simp only [execOp, ho, Instr.makeFunc, Sem.run_bind, Sem.run_pure, Result.andThen_ok, List.map_toArray, List.map_nil, ← hm]), .refl _ _, hr, .fn (vevL_sound ha hcs)⟩
  case h_15 =>
    simp only [Option.bind_eq_some_iff] at h
    obtain ⟨x, hx, y, hy, hv⟩ := h
    exact .of (vmake_sound hr (vev_sound ha hx) (vev_sound ha hy) hv) (by simp only [execOp, ho]; try rfl)
  case h_16 =>
    simp only [Option.bind_eq_some_iff, Option.map_eq_some_iff] at h
    obtain ⟨x, hx, lo, hlo, hi, hhi, mx, hmx, v, hv, e⟩ := h
    cases e
    exact .same hr (vslice_sound (vev_sound ha hx) (vevO_sound ha hlo) (vevO_sound ha hhi) (vevO_sound ha hmx) hv) (by simp only [execOp, ho]; try rfl)
  case h_17 =>
    simp only [Option.bind_eq_some_iff, Option.map_eq_some_iff] at h
    obtain ⟨x, hx, v, hv, e⟩ := h
    cases e
    exact .same hr (vfieldAddr_sound (vev_sound ha hx) hv) (by simp only [execOp, ho]; try rfl)
  case h_18 =>
    simp only [Option.bind_eq_some_iff, Option.map_eq_some_iff] at h
    obtain ⟨x, hx, v, hv, e⟩ := h
    cases e
    exact .same hr (vfield_sound (vev_sound ha hx) hv) (by simp only [execOp, ho]; try rfl)
  case h_19 =>
    simp only [Option.bind_eq_some_iff, Option.map_eq_some_iff] at h
    obtain ⟨x, hx, y, hy, v, hv, e⟩ := h
    cases e
    exact .same hr (vindexAddr_sound (vev_sound ha hx) (vev_sound ha hy) hv) (by simp only [execOp, ho]; try rfl)
  case h_20 =>
    simp only [Option.bind_eq_some_iff, Option.map_eq_some_iff] at h
    obtain ⟨x, hx, y, hy, v, hv, e⟩ := h
    cases e
    exact .same hr (vindex_sound (vev_sound ha hx) (vev_sound ha hy) hv) (by simp only [execOp, ho]; try rfl)
  case h_21 =>
    simp only [Option.bind_eq_some_iff, Option.map_eq_some_iff] at h
    obtain ⟨x, hx, v, hv, e⟩ := h
    cases e
    exact .same hr (vextract_sound (vev_sound ha hx) hv) (by simp only [execOp, ho]; try rfl)
  case h_22 c =>
    split at h
    case h_2 => cases h
    rename_i b hcal
    simp only [Option.bind_eq_some_iff] at h
    obtain ⟨args, hargs, h⟩ := h
    have hreps := vevL_sound ha hargs
    have hexec : execOp a.eval o = builtin b c.argTypes o.type (c.args.map fun | .const _ => true | _ => false) (c.args.map a.eval) := by
      simp only [execOp, ho, resolve, hcal]
      rfl
    have hA : c.args.map a.eval = (c.args.toList.map a.eval).toArray := by apply Array.ext'; simp
    have hT : c.argTypes = c.argTypes.toList.toArray := by simp
    rw [hA, hT] at hexec
    generalize c.args.toList.map a.eval = vals at hreps hexec
    generalize c.argTypes.toList = A at h hexec
    unfold vbuiltin at h
    split at h
    · obtain ⟨v, hv, e⟩ := Option.map_eq_some_iff.1 h
      cases e
      cases hreps with
      | cons h1 h2 => cases h2; exact .same hr (vlen_sound h1 hv) (by rw [hexec]; rfl)
    · split at h
      case isFalse => cases h
      rename_i hU
      subst hU
      cases hreps with
      | cons h1 h2 => cases h2 with
        | cons h2 h3 => cases h3; exact .of (vappend_sound hr h1 h2 h) (by rw [hexec]; rfl)
    · obtain ⟨v, hv, e⟩ := Option.map_eq_some_iff.1 h
      cases e
      cases hreps with
      | cons h1 h2 => cases h2 with
        | cons h2 h3 => cases h3; exact .same hr (vmax_sound h1 h2 hv) (by rw [hexec]; rfl)
    · obtain ⟨v, hv, e⟩ := Option.map_eq_some_iff.1 h
      cases e
      cases hreps with
      | cons h1 h2 => cases h2 with
        | cons h2 h3 => cases h3; exact .same hr (vmin_sound h1 h2 hv) (by rw [hexec]; rfl)
    · cases h

end Go.Proofs.Ytejdgmdebfkkeaa
