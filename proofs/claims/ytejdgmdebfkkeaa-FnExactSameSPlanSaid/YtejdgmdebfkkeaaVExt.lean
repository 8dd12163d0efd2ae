/-
  States written out: what a function has made of its own behind the state in which it began. Own work; no condition.
-/
import Derived.Test.YtejdgmdebfkkeaaVPure
namespace Go.Proofs.Ytejdgmdebfkkeaa
open Go

inductive Own where
  | var (cs : List V)
  | fam (n sz : Nat)
  | gone

def Own.cells? : Option Own → Option (List V)
  | some (.var cs) => some cs
  | _ => none
def Own.fam? : Option Own → Option (Nat × Nat)
  | some (.fam n sz) => some (n, sz)
  | _ => none

def Own.isVar : Option Own → Bool
  | some (.var _) => true
  | _ => false
def Own.isFam : Option Own → Bool
  | some (.fam _ _) => true
  | _ => false

/-- State s, and behind it what has been made since. -/
def S.ext (s : S) (xs : List Own) : S :=
  { vars := fun x => if x < s.next then s.vars x else Own.cells? xs[x - s.next]?, fams := fun x => if x < s.next then s.fams x else Own.fam? xs[x - s.next]?, next := s.next + xs.length }

theorem not_add_lt (n k : Nat) : ¬ (n + k < n) := by omega

theorem ext_next (s : S) (xs : List Own) : (s.ext xs).next = s.next + xs.length := rfl
theorem ext_vars (s : S) (xs : List Own) (k : Nat) : (s.ext xs).vars (s.next + k) = Own.cells? xs[k]? := by
  simp [S.ext, not_add_lt]
theorem ext_vars0 (s : S) (xs : List Own) : (s.ext xs).vars s.next = Own.cells? xs[0]? := by
  simp [S.ext]
theorem ext_vars_lt (s : S) (xs : List Own) {l : Nat} (h : l < s.next) : (s.ext xs).vars l = s.vars l := by
  simp [S.ext, h]
theorem ext_fams (s : S) (xs : List Own) (k : Nat) : (s.ext xs).fams (s.next + k) = Own.fam? xs[k]? := by
  simp [S.ext, not_add_lt]
theorem ext_fams0 (s : S) (xs : List Own) : (s.ext xs).fams s.next = Own.fam? xs[0]? := by
  simp [S.ext]
theorem ext_fams_lt (s : S) (xs : List Own) {l : Nat} (h : l < s.next) : (s.ext xs).fams l = s.fams l := by
  simp [S.ext, h]

theorem S.ext_eq {a b : S} (h1 : ∀ x, a.vars x = b.vars x) (h2 : ∀ x, a.fams x = b.fams x) (h3 : a.next = b.next) : a = b := by
  cases a; cases b
  simp only [S.mk.injEq]
  exact ⟨funext h1, funext h2, h3⟩

theorem get_snoc {α : Type} (xs : List α) (a : α) (k : Nat) : (xs ++ [a])[k]? = if k = xs.length then some a else xs[k]? := by
  rcases Nat.lt_trichotomy k xs.length with h | h | h
  · rw [List.getElem?_append_left h, if_neg (by omega)]
  · subst h; simp
  · rw [List.getElem?_eq_none (by simp; omega), if_neg (by omega), List.getElem?_eq_none (by omega)]

theorem ext_newVar (s : S) (xs : List Own) (cs : List V) : (s.ext xs).newVar cs = s.ext (xs ++ [.var cs]) := by
  refine S.ext_eq (fun x => ?_) (fun x => ?_) (by simp [S.newVar, S.ext]; omega)
  · simp only [S.newVar, S.ext, get_snoc]
    by_cases h : x < s.next
    · simp [h, show x ≠ s.next + xs.length by omega]
    · by_cases h2 : x = s.next + xs.length
      · simp [h2, Own.cells?, not_add_lt]
      · simp [h, h2, show x - s.next ≠ xs.length by omega]
  · simp only [S.newVar, S.ext, get_snoc]
    by_cases h : x < s.next
    · simp [h]
    · by_cases h2 : x - s.next = xs.length
      · simp [h, h2, Own.fam?]
      · simp [h, h2]

theorem ext_newFam (s : S) (xs : List Own) (n sz : Nat) : (s.ext xs).newFam n sz = s.ext (xs ++ [.fam n sz]) := by
  refine S.ext_eq (fun x => ?_) (fun x => ?_) (by simp [S.newFam, S.ext]; omega)
  · simp only [S.newFam, S.ext, get_snoc]
    by_cases h : x < s.next
    · simp [h]
    · by_cases h2 : x - s.next = xs.length
      · simp [h, h2, Own.cells?]
      · simp [h, h2]
  · simp only [S.newFam, S.ext, get_snoc]
    by_cases h : x < s.next
    · simp [h, show x ≠ s.next + xs.length by omega]
    · by_cases h2 : x = s.next + xs.length
      · simp [h2, Own.fam?, not_add_lt]
      · simp [h, h2, show x - s.next ≠ xs.length by omega]

theorem ext_setVar (s : S) (xs : List Own) (k : Nat) (cs : List V) (h' : Own.isVar xs[k]? = true) : (s.ext xs).setVar (s.next + k) cs = s.ext (xs.set k (.var cs)) := by
  obtain ⟨cs0, h⟩ : ∃ cs0, xs[k]? = some (.var cs0) := by
    unfold Own.isVar at h'
    split at h'
    · exact ⟨_, by assumption⟩
    · cases h'
  have hk : k < xs.length := (List.getElem?_eq_some_iff.1 h).1
  refine S.ext_eq (fun x => ?_) (fun x => ?_) (by simp [S.setVar, S.ext])
  · simp only [S.setVar, S.ext, List.getElem?_set]
    by_cases h1 : x < s.next
    · simp [h1, show x ≠ s.next + k by omega]
    · by_cases h2 : x = s.next + k
      · simp [h2, Own.cells?, hk, not_add_lt]
      · simp [h1, h2, show k ≠ x - s.next by omega]
  · simp only [S.setVar, S.ext, List.getElem?_set]
    by_cases h1 : x < s.next
    · simp [h1]
    · by_cases h2 : k = x - s.next
      · simp only [h1, if_false, if_true, ← h2, hk, h, Own.fam?]
      · simp [h1, h2]

theorem ext_setVar0 (s : S) (xs : List Own) (cs : List V) (h : Own.isVar xs[0]? = true) : (s.ext xs).setVar s.next cs = s.ext (xs.set 0 (.var cs)) := ext_setVar s xs 0 cs h

theorem ext_setFam (s : S) (xs : List Own) (k n sz : Nat) (h' : Own.isFam xs[k]? = true) : (s.ext xs).setFam (s.next + k) n sz = s.ext (xs.set k (.fam n sz)) := by
  obtain ⟨n0, sz0, h⟩ : ∃ n0 sz0, xs[k]? = some (.fam n0 sz0) := by
    unfold Own.isFam at h'
    split at h'
    · exact ⟨_, _, by assumption⟩
    · cases h'
  have hk : k < xs.length := (List.getElem?_eq_some_iff.1 h).1
  refine S.ext_eq (fun x => ?_) (fun x => ?_) (by simp [S.setFam, S.ext])
  · simp only [S.setFam, S.ext, List.getElem?_set]
    by_cases h1 : x < s.next
    · simp [h1]
    · by_cases h2 : k = x - s.next
      · simp only [h1, if_false, if_true, ← h2, hk, h, Own.cells?]
      · simp [h1, h2]
  · simp only [S.setFam, S.ext, List.getElem?_set]
    by_cases h1 : x < s.next
    · simp [h1, show x ≠ s.next + k by omega]
    · by_cases h2 : x = s.next + k
      · simp [h2, Own.fam?, hk, not_add_lt]
      · simp [h1, h2, show k ≠ x - s.next by omega]

theorem ext_setFam0 (s : S) (xs : List Own) (n sz : Nat) (h : Own.isFam xs[0]? = true) : (s.ext xs).setFam s.next n sz = s.ext (xs.set 0 (.fam n sz)) := ext_setFam s xs 0 n sz h

theorem ext_setVar_lt (s : S) (xs : List Own) {l : Nat} (h : l < s.next) (cs : List V) : (s.ext xs).setVar l cs = (s.setVar l cs).ext xs := by
  refine S.ext_eq (fun x => ?_) (fun x => rfl) rfl
  simp only [S.setVar, S.ext]
  by_cases h1 : x = l
  · simp [h1, h]
  · simp [h1]

/-- A function by its body, its own making written out. -/
theorem VCalls.bodyE {P : Program} {f : FuncId} {fn : Func} {c : Code} {args : List V} {s : S} {R : V → S → Prop} (hf : P.funcs[f]? = some fn) (hb : fn.body = some c) (hn : args.length ≤ fn.ntmps)
    (h : VWp P fn.ntmps c (VPost P fn.results.toList R) (argsFr args) (s.ext [])) : VCalls P f args s R :=
  VCalls.body hf hb hn (VWp.weaken (fun l cs hl => by
    simp only [S.ext] at hl
    split at hl
    · exact hl
    · cases hl) (fun l cs hl => by
    simp only [S.ext] at hl
    split at hl
    · exact hl
    · cases hl) (by simp [S.ext]) h)

/-- What only computes: behind it nothing of its own. -/
theorem VCalls.pureE {P : Program} {f : FuncId} {fn : Func} {c : Code} {args : List V} {s : S} {d : V} (hf : P.funcs[f]? = some fn) (hb : fn.body = some c) (hn : args.length ≤ fn.ntmps) (hd : d.dat = true)
    (h : VWp P fn.ntmps c (VPost P fn.results.toList (fun v s' => v.forget = d ∧ ∃ xs, s' = s.ext xs)) (argsFr args) (s.ext [])) : VCalls P f args s (fun v s' => v = d ∧ s' = s) := by
  refine VCalls.pure hd ((VCalls.bodyE hf hb hn h).mono ?_)
  rintro v s' ⟨h1, xs, rfl⟩
  exact ⟨h1, fun l hl => ext_vars_lt s xs hl, fun l hl => ext_fams_lt s xs hl⟩

theorem VWp.seqK {P : Program} {N : Nat} {x y : Code} {Q : Exit → Fr → S → Prop} {σ : Fr} {s : S} (h : ∀ K : Fr → S → Prop, (∀ σ s, VWp P N y Q σ s → K σ s) → VWp P N x (vthen K Q) σ s) : VWp P N (.seq x y) Q σ s :=
  VWp.seq (h _ fun _ _ h => h)

theorem cells_agg (cs : List V) : (V.agg cs).cells = cs := rfl
theorem cells_int (k : IntKind) (n : Int) : (V.int k n).cells = [V.int k n] := rfl
theorem cells_bool (b : Bool) : (V.bool b).cells = [V.bool b] := rfl
theorem cells_str (b : List UInt8) : (V.str b).cells = [V.str b] := rfl
theorem cells_ptr (l o : Nat) : (V.ptr l o).cells = [V.ptr l o] := rfl
theorem cells_eptr (cs : List V) (o : Nat) : (V.eptr cs o).cells = [V.eptr cs o] := rfl
theorem cells_nilp : V.nilp.cells = [V.nilp] := rfl
theorem cells_sl (i : Nat) (xs : List V) : (V.sl i xs).cells = [V.sl i xs] := rfl
theorem cells_zsl : V.zsl.cells = [V.zsl] := rfl
theorem cells_nilsl : V.nilsl.cells = [V.nilsl] := rfl
theorem cells_slm (x : Bool) (l o n : Nat) : (V.slm x l o n).cells = [V.slm x l o n] := rfl
theorem cells_fn (f : Nat) (cs : List V) : (V.fn f cs).cells = [V.fn f cs] := rfl

theorem splice_zero (cs : List V) : splice cs 0 [] = cs := by simp [splice]
theorem splice_cons (c v : V) (cs vs : List V) : splice (c :: cs) 0 (v :: vs) = v :: splice cs 0 vs := by simp [splice]
theorem splice_succ (c : V) (cs vs : List V) (k : Nat) : splice (c :: cs) (k + 1) vs = c :: splice cs k vs := by
  simp [splice, Nat.add_right_comm k 1]

/-- Operations one by one, what follows behind a variable. -/
theorem VOps.consK {P : Program} {N : Nat} {ops : Array Oper} {o : Oper} {rest : List Oper} {K : Fr → S → Prop} {σ : Fr} {s : S} (h : ∀ K' : Fr → S → Prop, (∀ σ s, VOps P N ops rest K σ s → K' σ s) → VStep P N ops o K' σ s) :
    VOps P N ops (o :: rest) K σ s := h _ fun _ _ h => h

theorem VOps.nil {P : Program} {N : Nat} {ops : Array Oper} {K : Fr → S → Prop} {σ : Fr} {s : S} (h : K σ s) : VOps P N ops [] K σ s := h

theorem VWp.condT {P : Program} {N : Nat} {c : Operand} {x y : Code} {Q : Exit → Fr → S → Prop} {σ : Fr} {s : S} (hc : vev σ c = some (.bool true)) (h : VWp P N x Q σ s) : VWp P N (.cond c x y) Q σ s :=
  VWp.cond hc (fun _ => h) (fun h => by cases h)

theorem VWp.condF {P : Program} {N : Nat} {c : Operand} {x y : Code} {Q : Exit → Fr → S → Prop} {σ : Fr} {s : S} (hc : vev σ c = some (.bool false)) (h : VWp P N y Q σ s) : VWp P N (.cond c x y) Q σ s :=
  VWp.cond hc (fun h => by cases h) (fun _ => h)

/-! ### Lengths and ranges, read off what is represented -/
mutual
/-- Lengths and numbers that a value of the model can have. -/
def V.wf : V → Bool
  | .agg cs => V.wfL cs
  | .sl _ xs => decide (xs.length ≤ maxLen) && V.wfL xs
  | .tup vs => V.wfL vs
  | .fn _ cs => V.wfL cs
  | .eptr cs _ => V.wfL cs
  | .ptr _ _ => true
  | .slm _ _ _ n => decide (n ≤ maxLen)
  | .int k n => decide (k.min ≤ n) && decide (n ≤ k.max)
  | .bool _ => true
  | .str s => decide (s.length ≤ maxLen)
  | .nilp => true
  | .zsl => true
  | .nilsl => true
  | .und => true
  | .raw _ => true
def V.wfL : List V → Bool
  | [] => true
  | v :: vs => V.wf v && V.wfL vs
end

theorem V.wfL_eq : ∀ vs : List V, V.wfL vs = vs.all V.wf
  | [] => rfl
  | v :: vs => by simp [V.wfL, V.wfL_eq vs]

theorem V.wf_cells (v : V) : v.cells.all V.wf = v.wf := by
  cases v <;> simp [V.wf, V.cells, V.wfL_eq]

theorem V.wf_flat (xs : List V) : (V.flat xs).all V.wf = xs.all V.wf := by
  induction xs with
  | nil => rfl
  | cons x xs ih =>
    have e : V.flat (x :: xs) = x.cells ++ V.flat xs := by simp [V.flat]
    rw [e, List.all_append, ih, V.wf_cells]
    rfl

theorem RepV.wf {E : Env} {v : V} {val : Value} (h : RepV E v val) : v.wf = true := by
  refine RepV.rec (motive_1 := fun v _ _ => v.wf = true) (motive_2 := fun vs _ _ => vs.all V.wf = true) ?_ ?_ ?_ ?_ ?_ ?_ ?_ ?_ ?_ ?_ ?_ ?_ ?_ ?_ ?_ ?_ ?_ ?_ h
  · intro k n a b; simp [V.wf, a, b]
  · intro b; rfl
  · intro s a; simpa [V.wf] using a
  · intro cs vals _ a; simpa [V.wf, V.wfL_eq] using a
  · intro l off g a; rfl
  · intro cs vals g off k _ s a; simpa [V.wf, V.wfL_eq] using a
  · rfl
  · intro id xs vals g off cap sz a b c _ s f r
    rw [V.wf_flat] at r
    simp only [V.wf, V.wfL_eq, r, Bool.and_true, decide_eq_true_eq]
    omega
  · intro id a f; simp [V.wf, V.wfL]
  · intro a; rfl
  · rfl
  · intro ex l off len cap g a b c d; simp only [V.wf, decide_eq_true_eq]; omega
  · intro f caps vals _ a; simpa [V.wf, V.wfL_eq] using a
  · intro vs vals _ a; simpa [V.wf, V.wfL_eq] using a
  · rfl
  · intro _; rfl
  · rfl
  · intro v vs val vals _ _ a b; simp [a, b]

theorem RepL.wf {E : Env} : ∀ {vs : List V} {vals : List Value}, RepL E vs vals → vs.all V.wf = true
  | _, _, .nil => rfl
  | _, _, .cons h t => by simp [h.wf, RepL.wf t]

theorem VCalls.wf {P : Program} {f : FuncId} {args : List V} {s : S} {R : V → S → Prop} (h : args.all V.wf = true → VCalls P f args s R) : VCalls P f args s R :=
  fun E vals h1 h2 => h h2.wf E vals h1 h2

/-! ### A made slice, filled from its head on -/
/-- The cells of a made slice of n elements, of which the first hold xs. -/
def filled (z : List V) (n : Nat) (xs : List V) : List V := V.flat xs ++ (List.replicate (n - xs.length) z).flatten

theorem filled_nil (z : List V) (n : Nat) : filled z n [] = (List.replicate n z).flatten := by simp [filled, V.flat]

theorem filled_length {z : List V} {n : Nat} {xs : List V} (h : ∀ x ∈ xs, x.cells.length = z.length) (hn : xs.length ≤ n) : (filled z n xs).length = n * z.length := by
  unfold filled
  rw [List.length_append, flat_uniform h, length_replicate_flatten, ← Nat.add_mul]
  congr 1
  omega

theorem filled_snoc {z : List V} {n : Nat} {xs : List V} {x : V} (h : ∀ x ∈ xs, x.cells.length = z.length) (hn : xs.length < n) (hx : x.cells.length = z.length) :
    splice (filled z n xs) (xs.length * z.length) x.cells = filled z n (xs ++ [x]) := by
  unfold splice filled
  have hl := flat_uniform h
  have e : n - xs.length = n - (xs ++ [x]).length + 1 := by simp; omega
  rw [e, List.replicate_succ, List.flatten_cons, ← hl, List.take_left, List.drop_append, List.drop_of_length_le (by omega), List.nil_append]
  have e2 : (V.flat xs).length + x.cells.length - (V.flat xs).length = z.length := by omega
  rw [e2, List.drop_left]
  simp [V.flat]

theorem filled_full {z : List V} {n : Nat} {xs : List V} (hn : xs.length = n) : filled z n xs = V.flat xs := by
  simp [filled, hn]

/-- Elements that are cells' groups. -/
def V.fits (agg : Bool) : V → Bool
  | .agg _ => agg
  | v => !agg && v.one

theorem chunk_flat {sz : Nat} {agg : Bool} (h0 : 0 < sz) : ∀ {xs : List V}, (∀ x ∈ xs, x.cells.length = sz) → (∀ x ∈ xs, x.fits agg = true) → chunkV sz agg xs.length (V.flat xs) = xs
  | [], _, _ => rfl
  | x :: xs, h, hf => by
    have e : V.flat (x :: xs) = x.cells ++ V.flat xs := by simp [V.flat]
    have hx := h x (by simp)
    have hfx := hf x (by simp)
    have ih := chunk_flat (xs := xs) h0 (fun y hy => h y (by simp [hy])) (fun y hy => hf y (by simp [hy]))
    rw [e]
    simp only [List.length_cons, chunkV]
    rw [← hx, List.take_left, List.drop_left, hx, ih]
    congr 1
    cases x <;> cases agg <;> simp_all [V.fits, V.cells, V.one]

theorem chunkOk_flat {sz : Nat} {agg : Bool} {xs : List V} (hf : ∀ x ∈ xs, x.fits agg = true) (h1 : agg = false → sz = 1) : chunkOk sz agg (V.flat xs) = true := by
  cases agg with
  | true => rfl
  | false =>
    simp only [chunkOk, Bool.false_or, Bool.and_eq_true, beq_iff_eq, List.all_eq_true]
    refine ⟨h1 rfl, fun c hc => ?_⟩
    obtain ⟨x, hx, hcx⟩ := List.mem_flatMap.1 hc
    have := hf x hx
    cases x <;> simp_all [V.fits, V.cells, V.one]

theorem cells_map {α : Type} {f : α → V} {n : Nat} (h : ∀ c, (f c).cells.length = n) (l : List α) : ∀ x ∈ l.map f, x.cells.length = n := by
  intro x hx
  obtain ⟨c, _, rfl⟩ := List.mem_map.1 hx
  exact h c

theorem fits_map {α : Type} {f : α → V} {g : Bool} (h : ∀ c, (f c).fits g = true) (l : List α) : ∀ x ∈ l.map f, x.fits g = true := by
  intro x hx
  obtain ⟨c, _, rfl⟩ := List.mem_map.1 hx
  exact h c

theorem filled_take_length {α : Type} {f : α → V} {z : List V} {cs : List α} {i : Nat} (hi : i ≤ cs.length) (hlen : ∀ c, (f c).cells.length = z.length) : (filled z cs.length ((cs.map f).take i)).length = cs.length * z.length :=
  filled_length (fun x hx => cells_map hlen cs x (List.mem_of_mem_take hx)) (by simp; omega)

theorem filled_step {α : Type} {f : α → V} {z : List V} {cs : List α} {i : Nat} (hlt : i < cs.length) (hlen : ∀ c, (f c).cells.length = z.length) :
    splice (filled z cs.length ((cs.map f).take i)) (i * z.length) (f cs[i]).cells = filled z cs.length ((cs.map f).take (i + 1)) := by
  have := filled_snoc (z := z) (n := cs.length) (xs := (cs.map f).take i) (x := f cs[i]) (fun x hx => cells_map hlen cs x (List.mem_of_mem_take hx)) (by simp; omega) (hlen _)
  rw [List.take_succ_eq_append_getElem (by simpa using hlt), List.getElem_map, ← this]
  congr 2
  simp
  omega

theorem filled_all {α : Type} {f : α → V} {z : List V} (cs : List α) : filled z cs.length ((cs.map f).take cs.length) = V.flat (cs.map f) := by
  rw [List.take_of_length_le (by simp), filled_full (by simp)]

theorem wrap_succ {i : Nat} (h : i < 9223372036854775807) : IntKind.i64.wrap ((i : Int) + 1) = (i : Int) + 1 := by
  rw [IntKind.wrap_i64]; omega

theorem min_i64 : IntKind.i64.min = -9223372036854775808 := by decide
theorem max_i64 : IntKind.i64.max = 9223372036854775807 := by decide
theorem min_u8 : IntKind.u8.min = 0 := by decide
theorem max_u8 : IntKind.u8.max = 255 := by decide
theorem min_u64 : IntKind.u64.min = 0 := by decide
theorem max_u64 : IntKind.u64.max = 18446744073709551615 := by decide

/-- A function that may be called: nothing to look into. -/
structure CallOk (P : Program) (g : FuncId) : Prop where
  h : callOk P g = true

/-! ### What the walk reckons with -/
attribute [simp] VOps VStep dstOk vwanted VOp VCall vop vev vevL vevO vparts vconvert vbuiltin vthen vinBlock putO put argsFr takeV splice_zero splice_cons splice_succ Ty.agg cells_agg cells_int cells_bool cells_str cells_ptr cells_eptr cells_nilp cells_sl cells_zsl cells_nilsl cells_slm cells_fn V.one
  valloc vload vstore vfieldAddr vfield vindexAddr vindex vbin vint vstrOp vun vconv vslice bound vlen vmax vmin vextract vfill vbuild placeS vbuildSlice chunkV chunkOk vmake elemsOf vappend veq eqF eqT
  vtoStr vtoBytes vbytes vOf vOf1 vOfL VPost vresL vres1 oneOf V.forget V.forgetL V.dat V.datL
  min_i64 max_i64 min_u8 max_u8 min_u64 max_u64 ext_next ext_vars ext_vars0 ext_fams ext_fams0 ext_newVar ext_newFam ext_setVar ext_setVar0 ext_setFam ext_setFam0 Own.cells? Own.fam? Own.isVar Own.isFam

end Go.Proofs.Ytejdgmdebfkkeaa
