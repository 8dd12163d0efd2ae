/-
  Helpers for walks: the way back of a loop, made slices filled in a loop, facts of mapped lists. Own work; no condition.
-/
import Derived.Test.YtejdgmdebfkkeaaVL4
namespace Go.Proofs.Ytejdgmdebfkkeaa
open Go

variable {P : Program} {N : Nat} {ops : Array Oper} {l : List Oper} {K : Kn → S → Prop} {L : Kn} {s : S} {xs ys : List Own} {tt : BT}
variable {d : Nat} {ty : TypeId} {p : String} {a : Array Edge}

theorem SubL.mk {A L : Kn} {k : Nat} {v w : V} (h : lk L k = some w) (e : w = v) (r : SubL A L) : SubL ((k, v) :: A) L := ⟨by rw [h, e], r⟩
theorem SubL.nil {L : Kn} : SubL [] L := trivial

theorem lbackD.of {α : Type} {M : α → Nat} {LI : α → Kn} {XI : α → List Own} {I : α → Prop} {x : α} {Q : Exit → Kn → S → Prop} {ws : List Own} (y : α) (hI : I y) (hM : M y < M x) (hL : SubL (LI y) L) (hX : ws.take (XI y).length = XI y) :
    lbackD M LI XI I s x Q .normal L (s.ext ws) :=
  ⟨⟨y, ws.drop (XI y).length, hI, hM, hL, by
    have h := List.take_append_drop (XI y).length ws
    rw [hX] at h
    rw [h]⟩⟩
theorem lback.of {α : Type} {M : α → Nat} {LI : α → Kn} {SI : α → S} {I : α → Prop} {x : α} {Q : Exit → Kn → S → Prop} (y : α) (hI : I y) (hM : M y < M x) (hL : SubL (LI y) L) (hs : s = SI y) : lback M LI SI I x Q .normal L s := ⟨⟨y, hI, hM, hL, hs⟩⟩
theorem lback_r {α : Type} {M : α → Nat} {LI : α → Kn} {SI : α → S} {I : α → Prop} {x : α} {Q : Exit → Kn → S → Prop} (h : Q .ret L s) : lback M LI SI I x Q .ret L s := ⟨h⟩
theorem lback_e {α : Type} {M : α → Nat} {LI : α → Kn} {SI : α → S} {I : α → Prop} {x : α} {Q : Exit → Kn → S → Prop} {i : Nat} (h : Q (.exit i) L s) : lback M LI SI I x Q (.exit i) L s := ⟨h⟩
theorem lbackD_r {α : Type} {M : α → Nat} {LI : α → Kn} {XI : α → List Own} {I : α → Prop} {s0 : S} {x : α} {Q : Exit → Kn → S → Prop} (h : Q .ret L s) : lbackD M LI XI I s0 x Q .ret L s := ⟨h⟩
theorem lbackD_e {α : Type} {M : α → Nat} {LI : α → Kn} {XI : α → List Own} {I : α → Prop} {s0 : S} {x : α} {Q : Exit → Kn → S → Prop} {i : Nat} (h : Q (.exit i) L s) : lbackD M LI XI I s0 x Q (.exit i) L s := ⟨h⟩

/-! ### Lists of things -/
@[simp] theorem forgetL_map {α : Type} {f : α → V} (h : ∀ x, (f x).forget = f x) (l : List α) : V.forgetL (l.map f) = l.map f := by
  rw [V.forgetL_eq, List.map_map]
  exact List.map_congr_left fun x _ => h x
@[simp] theorem map_forget_map {α : Type} {f : α → V} (h : ∀ x, (f x).forget = f x) (l : List α) : (l.map f).map V.forget = l.map f := by
  rw [List.map_map]
  exact List.map_congr_left fun x _ => h x
@[simp] theorem datL_map {α : Type} {f : α → V} (h : ∀ x, (f x).dat = true) (l : List α) : V.datL (l.map f) = true := by
  rw [V.datL_eq, List.all_map, List.all_eq_true]
  exact fun x _ => h x
@[simp] theorem underL_map {α : Type} {f : α → V} (h : ∀ x, (f x).dat = true) (n : Nat) (l : List α) : V.underL n (l.map f) = true := underL_dat (datL_map h l)
theorem underL_take' {n : Nat} {l : List V} (h : V.underL n l = true) (i : Nat) : V.underL n (l.take i) = true := by
  rw [V.underL_eq, List.all_eq_true] at h ⊢
  exact fun v hv => h v (List.mem_of_mem_take hv)
@[simp] theorem underL_map_take {α : Type} {f : α → V} (h : ∀ x, (f x).dat = true) (n i : Nat) (l : List α) : V.underL n ((l.map f).take i) = true := underL_take' (underL_map h n l) i
/-- Numbers and strings as values. -/
def iV (n : Int) : V := .int .i64 n
def sV (b : List UInt8) : V := .str b
@[simp] theorem iV_dat (n : Int) : (iV n).dat = true := by simp [iV]
@[simp] theorem sV_dat (b : List UInt8) : (sV b).dat = true := by simp [sV]
@[simp] theorem iV_forget (n : Int) : (iV n).forget = iV n := by simp [iV]
@[simp] theorem sV_forget (b : List UInt8) : (sV b).forget = sV b := by simp [sV]
theorem forgetL_take (l : List V) (n : Nat) : V.forgetL (l.take n) = (V.forgetL l).take n := by
  rw [V.forgetL_eq, V.forgetL_eq, List.map_take]

theorem get_map {α : Type} {f : α → V} {l : List α} {i : Nat} (h : i < l.length) : (l.map f)[i]? = some (f l[i]) := by simp [h]
theorem lt_map {α : Type} {f : α → V} {l : List α} {i : Nat} (h : i < l.length) : decide ((i : Int) < ((l.map f).length : Int)) = true := by simp [h]
theorem ge_map {α : Type} {f : α → V} {l : List α} {i : Nat} (h : ¬ i < l.length) : decide ((i : Int) < ((l.map f).length : Int)) = false := by simp; omega

/-! ### Numbers within their bounds, lengths and elements of mapped lists -/
def In64 (n : Int) : Prop := -9223372036854775808 ≤ n ∧ n ≤ 9223372036854775807
theorem wrap_in {n : Int} (h : In64 n) : IntKind.i64.wrap n = n := by rw [IntKind.wrap_i64]; unfold In64 at h; omega
theorem AnsL.add {T U : TypeId} {x y : Operand} {m n : Int} (hx : opd L x = some (.int .i64 m)) (hy : opd L y = some (.int .i64 n)) (h : In64 (m + n)) : AnsL P (.binOp .add T x y U) L s (.int .i64 (m + n)) :=
  .of fun σ hσ _ _ _ _ _ => by simp only [vop, opd_eq hσ hx, opd_eq hσ hy, vbin, vint, Option.bind_some, if_true, wrap_in h, Option.map_some]
theorem AnsL.sub {T U : TypeId} {x y : Operand} {m n : Int} (hx : opd L x = some (.int .i64 m)) (hy : opd L y = some (.int .i64 n)) (h : In64 (m - n)) : AnsL P (.binOp .sub T x y U) L s (.int .i64 (m - n)) :=
  .of fun σ hσ _ _ _ _ _ => by simp only [vop, opd_eq hσ hx, opd_eq hσ hy, vbin, vint, Option.bind_some, if_true, wrap_in h, Option.map_some]
theorem AnsL.mul {T U : TypeId} {x y : Operand} {m n : Int} (hx : opd L x = some (.int .i64 m)) (hy : opd L y = some (.int .i64 n)) (h : In64 (m * n)) : AnsL P (.binOp .mul T x y U) L s (.int .i64 (m * n)) :=
  .of fun σ hσ _ _ _ _ _ => by simp only [vop, opd_eq hσ hx, opd_eq hσ hy, vbin, vint, Option.bind_some, if_true, wrap_in h, Option.map_some]
/-- Numbers of any kind, wrapped. -/
def arO (op : BinOp) (k : IntKind) (m n : Int) : Option V := match op with
  | .add => some (.int k (k.wrap (m + n)))
  | .sub => some (.int k (k.wrap (m - n)))
  | .mul => some (.int k (k.wrap (m * n)))
  | _ => none
theorem AnsL.arith {op : BinOp} {T U : TypeId} {x y : Operand} {k : IntKind} {m n : Int} {v : V} (hx : opd L x = some (.int k m)) (hy : opd L y = some (.int k n)) (h : arO op k m n = some v) : AnsL P (.binOp op T x y U) L s v :=
  .of fun σ hσ _ _ _ _ _ => by
    unfold arO at h
    split at h
    all_goals first
      | cases h; simp only [vop, opd_eq hσ hx, opd_eq hσ hy, vbin, vint, Option.bind_some, if_true, Option.map_some]
      | cases h
theorem AnsL.lenS (ht : tt.ok P) {zs : List V} {T e : TypeId} {t : Ty} {x : Operand} {id n : Nat} (hx : opd L x = some (.sl id zs)) (hT : tt.get T = some t) (hkd : t.kd = .slice e) (hn : lenO zs = some n) :
    AnsL P (.call ⟨.builtin .len, #[x], #[T]⟩) L s (.int .i64 n) :=
  .of fun σ hσ _ _ _ _ _ => by simp only [vop, vevL, opd_eq hσ hx, vbuiltin, vlen, ht.get hT, hkd, Option.bind_some, Option.map_some, lenO_eq hn]
theorem AnsL.lenG (ht : tt.ok P) {zs : List V} {T e : TypeId} {t : Ty} {x : Operand} {id : Nat} (hx : opd L x = some (.sl id zs)) (hT : tt.get T = some t) (hkd : t.kd = .slice e) :
    AnsL P (.call ⟨.builtin .len, #[x], #[T]⟩) L s (.int .i64 zs.length) :=
  .of fun σ hσ _ _ _ _ _ => by simp only [vop, vevL, opd_eq hσ hx, vbuiltin, vlen, ht.get hT, hkd, Option.bind_some, Option.map_some]
theorem AnsL.lenM (ht : tt.ok P) {α : Type} {f : α → V} {zs : List α} {T e : TypeId} {t : Ty} {x : Operand} {id : Nat} (hx : opd L x = some (.sl id (zs.map f))) (hT : tt.get T = some t) (hkd : t.kd = .slice e) :
    AnsL P (.call ⟨.builtin .len, #[x], #[T]⟩) L s (.int .i64 zs.length) :=
  .of fun σ hσ _ _ _ _ _ => by simp only [vop, vevL, opd_eq hσ hx, vbuiltin, vlen, ht.get hT, hkd, Option.bind_some, Option.map_some, List.length_map]
theorem AnsL.idxA (ht : tt.ok P) {α : Type} {f : α → V} {zs : List α} {T e : TypeId} {t te : Ty} {x i : Operand} {id j : Nat} {k : IntKind} {cs : List V} (hx : opd L x = some (.sl id (zs.map f))) (hi : opd L i = some (.int k (j : Int))) (hT : tt.get T = some t) (hkd : t.kd = .slice e)
    (hte : tt.get e = some te) (hj : j < zs.length) (hc : cellsO (f zs[j]) = some cs) (hn : Nat.beq cs.length te.size = true) : AnsL P (.indexAddr T x i) L s (.eptr cs 0) := .idx ht hx hi hT hkd hte (get_map hj) hc hn
theorem LOps.ans {op : Op} {v : V} (h : AnsL P op L s v) (hk : LOps P N ops l K ((d, v) :: L) s) : LOps P N ops (⟨some d, op, ty, p, a, none⟩ :: l) K L s := by
  refine ⟨fun hd σ hσ => ?_⟩
  simp only [List.all_cons, Bool.and_eq_true] at hd
  refine ⟨hd.1, ?_⟩
  simp only [vwanted]
  exact h.run σ hσ _ _ _ _ _ _ (hk.run hd.2 _ (hσ.cons d v))

/-! ### A made slice -/
theorem LOps.storeF (ht : tt.ok P) {T : TypeId} {t : Ty} {x y : Operand} {k off : Nat} {cs vs : List V} {v : V} (cs' : List V) (hx : opd L x = some (.ptr (s.next + k) off)) (hy : opd L y = some v) (hv : nthO xs k = some (.var cs)) (hT : tt.get T = some t)
    (hc : cellsO v = some vs) (ho : onesO vs = true) (hn : Nat.beq vs.length t.size = true) (hset : setO xs k (.var cs') = some ys) (hle : off + vs.length ≤ cs.length) (hsp : splice cs off vs = cs')
    (hk : LOps P N ops l K L (s.ext ys)) : LOps P N ops (⟨none, .store T x y, ty, p, a, none⟩ :: l) K L (s.ext xs) := by
  refine .stN (v := .und) (fun σ hσ => ?_) hk
  have h3 : vs.length = t.size := Nat.eq_of_beq_eq_true hn
  simp only [vop, opd_eq hσ hx, opd_eq hσ hy, vstore, ht.get hT, own_vars hv, cellsO_eq hc, Option.bind_some]
  rw [if_pos ⟨h3, by omega, onesO_eq ho⟩, Option.map_some, ext_setVar _ _ _ _ (by rw [nthO_eq hv]; rfl), setO_eq hset, hsp]

structure FrzR (s : S) (d : V) (v : V) (s' : S) : Prop where
  ex : ∃ k n sz agg us xs, v = .slm true (s.next + k) 0 n ∧ s' = s.ext xs ∧ xs[k]? = some (.var (V.flat us)) ∧ us.length = n ∧ 0 < sz ∧ (∀ u ∈ us, u.cells.length = sz) ∧ (∀ u ∈ us, u.fits agg = true) ∧ (agg = false → sz = 1) ∧ V.forget (.sl 0 us) = d

theorem FrzR.of {α : Type} {f : α → V} {cs : List α} {k : Nat} (sz : Nat) (agg : Bool) (hk : nthO xs k = some (.var (V.flat (cs.map f)))) (hsz : 0 < sz) (h1 : ∀ x, (f x).cells.length = sz) (h2 : ∀ x, (f x).fits agg = true) (h3 : agg = false → sz = 1) (h4 : ∀ x, (f x).forget = f x) :
    FrzR s (.sl 0 (cs.map f)) (.slm true (s.next + k) 0 cs.length) (s.ext xs) :=
  ⟨k, cs.length, sz, agg, cs.map f, xs, rfl, rfl, nthO_eq hk, by simp, hsz, cells_map h1 cs, fits_map h2 cs, h3, by simp only [V.forget, forgetL_map h4]⟩

theorem LCalls.pureZ {f : FuncId} {fn : Func} {c : Code} {args : List V} {d : V} (hf : P.funcs[f]? = some fn) (hb : fn.body = some c) (hn : Nat.ble args.length fn.ntmps = true) (hd : d.dat = true)
    (h : WL P fn.ntmps c (LPost P fn.results.toList (FrzR s d)) (argL 0 args) (s.ext [])) : VCalls P f args s (fun v s' => v = d ∧ s' = s) := by
  refine VCalls.pure hd (VCalls.turn (LCalls.body hf hb hn h) ?_)
  rintro v s' _ ⟨k, n, sz, agg, us, xs, rfl, rfl, hk, hl, h0, hc, hfit, h1, hfg⟩
  have hv : (s.ext xs).vars (s.next + k) = some (V.flat us) := by rw [ext_vars, hk]; rfl
  have hck := chunk_flat h0 hc hfit
  rw [hl] at hck
  have ht := VTurn.freeze (agg := agg) (n := n) (sz := sz) hv (by rw [flat_uniform hc, hl]) (chunkOk_flat hfit h1) h0
  rw [hck] at ht
  refine ⟨_, _, ht, ?_, fun x hx => ?_, fun x hx => ?_⟩
  · rw [← hfg]; rfl
  · simp only [S.freeze]
    rw [if_neg (by omega)]
    exact ext_vars_lt _ _ hx
  · simp only [S.freeze]
    rw [if_neg (by rw [ext_next]; omega)]
    exact ext_fams_lt _ _ hx

/-- What is left behind a weight: -1 when it is not enough. -/
def szI (w : Nat) (left : Int) : Int := if left - w < 0 then -1 else left - w
theorem szI_add (v w : Nat) {left : Int} (_ : 0 ≤ left) : szI (v + w) left = if szI v left < 0 then -1 else szI w (szI v left) := by
  unfold szI
  by_cases h : left - (v : Int) < 0
  · rw [if_pos h, if_pos (by omega), if_pos (by omega)]
  · rw [if_neg h, if_neg h]
    by_cases h2 : left - (v : Int) - (w : Int) < 0
    · rw [if_pos h2, if_pos (by omega)]
    · rw [if_neg h2, if_neg (by omega)]; omega
theorem szI_neg {w : Nat} {left : Int} (h : left - w < 0) : szI w left = -1 := by rw [szI, if_pos h]
theorem szI_pos {w : Nat} {left : Int} (h : ¬ left - w < 0) : szI w left = left - w := by rw [szI, if_neg h]
theorem szI_le {w : Nat} {left : Int} (h : 0 ≤ szI w left) : (w : Int) ≤ left := by
  unfold szI at h
  split at h <;> omega

theorem mul_room {i n k : Nat} (h : i < n) : 0 + i * k + k ≤ n * k := by
  have : (i + 1) * k ≤ n * k := Nat.mul_le_mul_right _ h
  rw [Nat.add_mul] at this
  omega
theorem underL_append {n : Nat} {a b : List V} (ha : V.underL n a = true) (hb : V.underL n b = true) : V.underL n (a ++ b) = true := by
  rw [V.underL_eq] at *
  rw [List.all_append, ha, hb]; rfl
theorem under_filled {n m : Nat} {z us : List V} (hz : V.underL n z = true) (hu : us.all (V.under n) = true) : V.underL n (filled z m us) = true := by
  unfold filled
  refine underL_append (by rw [V.underL_eq, V.under_flat]; exact hu) ?_
  rw [V.underL_eq, List.all_eq_true] at hz ⊢
  intro v hv
  obtain ⟨l, hl, hvl⟩ := List.mem_flatten.1 hv
  rw [List.mem_replicate] at hl
  rw [hl.2] at hvl
  exact hz v hvl
theorem wfL_get {α : Type} {f : α → V} {l : List α} (h : V.wfL (l.map f) = true) (i : Nat) (hi : i < l.length) : (f l[i]).wf = true := by
  rw [V.wfL_eq, List.all_eq_true] at h
  exact h _ (List.mem_map.2 ⟨l[i], List.getElem_mem hi, rfl⟩)

end Go.Proofs.Ytejdgmdebfkkeaa
