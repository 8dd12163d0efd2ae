/-
  More operations at the value level: those that neither write nor make memory. Own work; no condition.
-/
import Derived.Test.YtejdgmdebfkkeaaVOp
import Derived.Laws.StructEq
namespace Go.Proofs.Ytejdgmdebfkkeaa
open Go

/-! ### integers stay in their range -/
theorem wrap_range (k : IntKind) (n : Int) : k.min ≤ k.wrap n ∧ k.wrap n ≤ k.max := by
  cases k <;> simp only [IntKind.min, IntKind.max, IntKind.wrap, IntKind.bits, IntKind.signed, Bool.true_and, Bool.false_and, if_true, Bool.false_eq_true, if_false, ge_iff_le, decide_eq_true_eq] <;>
    (try split) <;> omega

theorem tmod_range {k : IntKind} {a b : Int} (h1 : k.min ≤ a) (h2 : a ≤ k.max) : k.min ≤ a.tmod b ∧ a.tmod b ≤ k.max := by
  have hmin : k.min ≤ 0 := by cases k <;> decide
  have hmax : 0 ≤ k.max := by cases k <;> decide
  have hab : (a.tmod b).natAbs ≤ a.natAbs := by rw [Int.natAbs_tmod]; exact Nat.mod_le _ _
  rcases Int.lt_or_le a 0 with h | h
  · have : a.tmod b ≤ 0 := by
      have := Int.tmod_nonneg b (show 0 ≤ -a by omega)
      rw [Int.neg_tmod] at this
      omega
    omega
  · have := Int.tmod_nonneg b h
    omega

theorem fdiv_range {k : IntKind} {a : Int} (m : Nat) (h1 : k.min ≤ a) (h2 : a ≤ k.max) : k.min ≤ a.fdiv (2 ^ m) ∧ a.fdiv (2 ^ m) ≤ k.max := by
  have hmin : k.min ≤ 0 := by cases k <;> decide
  have hmax : 0 ≤ k.max := by cases k <;> decide
  have hp : (0 : Int) < 2 ^ m := Int.pow_pos (by decide)
  rw [Int.fdiv_eq_ediv_of_nonneg _ (Int.le_of_lt hp)]
  rcases Int.lt_or_le a 0 with h | h
  · have l1 : a ≤ a / 2 ^ m := by
      rw [Int.le_ediv_iff_mul_le hp]
      have := Int.mul_le_mul_of_nonneg_left (show (1 : Int) ≤ 2 ^ m by omega) (show 0 ≤ -a by omega)
      rw [Int.mul_one, Int.neg_mul] at this
      omega
    have l2 : a / 2 ^ m ≤ 0 := Int.ediv_nonpos_of_nonpos_of_neg (Int.le_of_lt h) hp
    omega
  · have l1 : 0 ≤ a / 2 ^ m := Int.ediv_nonneg h (Int.le_of_lt hp)
    have l2 : a / 2 ^ m ≤ a := Int.ediv_le_self _ h
    omega

/-! ### binary operators -/
def vbits (op : BinOp) (k : IntKind) (a b : Int) : Option V :=
  match op with
  | .and => some (.int k (k.wrap (BitVec.ofInt k.bits a &&& BitVec.ofInt k.bits b).toNat))
  | .or => some (.int k (k.wrap (BitVec.ofInt k.bits a ||| BitVec.ofInt k.bits b).toNat))
  | .xor => some (.int k (k.wrap (BitVec.ofInt k.bits a ^^^ BitVec.ofInt k.bits b).toNat))
  | .andNot => some (.int k (k.wrap (BitVec.ofInt k.bits a &&& ~~~BitVec.ofInt k.bits b).toNat))
  | _ => none

def vint (op : BinOp) (k : IntKind) (a b : Int) : Option V :=
  match op with
  | .add => some (.int k (k.wrap (a + b)))
  | .sub => some (.int k (k.wrap (a - b)))
  | .mul => some (.int k (k.wrap (a * b)))
  | .quo => if b = 0 then none else some (.int k (k.wrap (a.tdiv b)))
  | .rem => if b = 0 then none else some (.int k (a.tmod b))
  | .eql => some (.bool (decide (a = b)))
  | .neq => some (.bool (!decide (a = b)))
  | .lss => some (.bool (decide (a < b)))
  | .leq => some (.bool (decide (a ≤ b)))
  | .gtr => some (.bool (decide (b < a)))
  | .geq => some (.bool (decide (b ≤ a)))
  | op => vbits op k a b

def vstrOp (op : BinOp) (a b : List UInt8) : Option V :=
  match op with
  | .add => if a.length + b.length ≤ maxLen then some (.str (a ++ b)) else none
  | .eql => some (.bool (decide (a = b)))
  | .neq => some (.bool (!decide (a = b)))
  | .lss => some (.bool (Op.bytesLess a b))
  | .leq => some (.bool (Op.bytesLess a b || decide (a = b)))
  | .gtr => some (.bool (!(Op.bytesLess a b || decide (a = b))))
  | .geq => some (.bool (!Op.bytesLess a b))
  | _ => none

def eqT : Nat → V → V → Option Bool
  | 1, .int k a, .int k' b => if k = k' then some (decide (a = b)) else none
  | 2, .str a, .str b => some (decide (a = b))
  | 3, .bool a, .bool b => some (decide (a = b))
  | _, _, _ => none

def eqF : List FieldI → Nat → List V → List V → Option Bool
  | [], _, [], [] => some true
  | f :: fs, k, x :: xs, y :: ys => if f.off = k then (eqT f.tag x y).bind fun b => (eqF fs (k + 1) xs ys).map fun r => b && r else none
  | _, _, _, _ => none

def veq (P : Program) (T : TypeId) (x y : V) : Option Bool :=
  match x, y with
  | .bool a, .bool b => (tyOf P T).bind fun t => match t.kd with | .bool => some (decide (a = b)) | _ => none
  | .agg xs, .agg ys => (tyOf P T).bind fun t => match t.kd with | .struct fs true => eqF fs 0 xs ys | _ => none
  | _, _ => none

def vbin (P : Program) (op : BinOp) (T : TypeId) (x y : V) : Option V :=
  match op, x, y with
  | .shl, .int k a, .int _ b => if 0 ≤ b then some (.int k (k.wrap (a * 2 ^ (min b.toNat k.bits)))) else none
  | .shr, .int k a, .int _ b => if 0 ≤ b then some (.int k (a.fdiv (2 ^ (min b.toNat k.bits)))) else none
  | op, .int k a, .int k' b => if k = k' then vint op k a b else none
  | op, .str a, .str b => vstrOp op a b
  | .eql, x, y => (veq P T x y).map .bool
  | .neq, x, y => (veq P T x y).map fun b => .bool !b
  | _, _, _ => none

theorem fieldsOf_get {P : Program} : ∀ {fs : List Field} {l : List FieldI}, fieldsOf P fs = some l → ∀ {i : Nat} {fi : FieldI}, l[i]? = some fi → ∃ f, fs[i]? = some f ∧ fieldOf P f = some fi
  | [], l, h, i, fi, hi => by cases h; simp at hi
  | f :: fs, l, h, i, fi, hi => by
    simp only [fieldsOf, Option.bind_eq_some_iff, Option.map_eq_some_iff] at h
    obtain ⟨x, hx, r, hr, rfl⟩ := h
    cases i with
    | zero => simp at hi; subst hi; exact ⟨f, by simp, hx⟩
    | succ i => simpa using fieldsOf_get hr (i := i) (by simpa using hi)

theorem run_part1 {P : Program} {T : TypeId} {d : TypeDesc} (h : P.underlying T = some d) (ha : isAggD d = false) {cs : Array Value} {o : Nat} {v : Value} (hv : cs[o]? = some v) (w : World) :
    (part T cs o).run P w = .ok v w := by
  simp [part, run_isAgg h, ha, hv]

theorem eqT_sound {P : Program} {E : Env} {T : TypeId} {d : TypeDesc} {x y : V} {xv yv : Value} {b : Bool} {tag n : Nat} (hd : P.underlying T = some d)
    (htag : tag = tagD d ∨ tag = 0) (hx : RepV E x xv) (hy : RepV E y yv) (h : eqT tag x y = some b) :
    isAggD d = false ∧ (Op.equalIn (n + 1) T xv yv).run P E.w = .ok b E.w := by
  unfold eqT at h
  split at h
  · split at h
    case isFalse => cases h
    rename_i hk
    subst hk
    cases h
    cases hx
    cases hy
    rcases htag with e | e
    · cases d <;> simp [tagD] at e
      refine ⟨rfl, ?_⟩
      rw [run_equalIn_int E.w n T _ _ _ _ hd]
      rfl
    · cases e
  · cases h
    cases hx
    cases hy
    rcases htag with e | e
    · cases d <;> simp [tagD] at e
      refine ⟨rfl, ?_⟩
      rw [run_equalIn_string E.w n T _ _ hd, ByteArray.toList_eq, ByteArray.toList_eq]
      congr 1
      rw [Bool.eq_iff_iff]
      simp
    · cases e
  · cases h
    cases hx
    cases hy
    rcases htag with e | e
    · cases d <;> simp [tagD] at e
      refine ⟨rfl, ?_⟩
      rw [run_equalIn_bool' E.w n T _ _ hd]
      rename_i a b
      cases a <;> cases b <;> rfl
    · cases e
  · cases h

theorem eqF_sound {P : Program} {E : Env} {n : Nat} {X Y : Array Value} : ∀ {fs : List Field} {l : List FieldI} {k : Nat} {xs ys : List V} {xv yv : List Value} {b : Bool}, fieldsOf P fs = some l → eqF l k xs ys = some b →
    RepL E xs xv → RepL E ys yv → (∀ j v, xv[j]? = some v → X[k + j]? = some v) → (∀ j v, yv[j]? = some v → Y[k + j]? = some v) → (Op.eqFields (n + 1) X Y fs).run P E.w = .ok b E.w
  | [], l, k, xs, ys, xv, yv, b, hf, h, hx, hy, _, _ => by
    cases hf
    cases hx with
    | nil => cases hy with
      | nil => cases h; simp [Op.eqFields]
      | cons => simp [eqF] at h
    | cons => cases hy <;> simp [eqF] at h
  | f :: fs, l, k, xs, ys, xv, yv, b, hf, h, hx, hy, hX, hY => by
    simp only [fieldsOf, Option.bind_eq_some_iff, Option.map_eq_some_iff] at hf
    obtain ⟨fi, hfi, r, hr, rfl⟩ := hf
    cases hx with
    | nil => cases hy <;> simp [eqF] at h
    | cons hx hxs => cases hy with
      | nil => simp [eqF] at h
      | cons hy hys =>
        simp only [eqF] at h
        split at h
        case isFalse => cases h
        rename_i hoff
        simp only [Option.bind_eq_some_iff, Option.map_eq_some_iff] at h
        obtain ⟨b1, hb1, b2, hb2, rfl⟩ := h
        simp only [fieldOf, Option.bind_eq_some_iff, Option.map_eq_some_iff] at hfi
        obtain ⟨i, hi, d, hd, rfl⟩ := hfi
        simp only at hoff hb1
        have hne : ¬ f.name = "_" := by
          intro e
          rw [if_pos e] at hb1
          unfold eqT at hb1
          split at hb1 <;> simp_all
        rw [if_neg hne] at hb1
        obtain ⟨hagg, heq⟩ := eqT_sound (P := P) (n := n) hd (.inl rfl) hx hy hb1
        have px := run_part1 (P := P) hd hagg (hX 0 _ rfl) E.w
        have py := run_part1 (P := P) hd hagg (hY 0 _ rfl) E.w
        rw [Nat.add_zero, ← hoff] at px py
        have rest := eqF_sound (P := P) (n := n) (X := X) (Y := Y) hr hb2 hxs hys (fun j v hj => by rw [Nat.add_assoc, Nat.add_comm 1 j]; exact hX (j + 1) v (by simpa using hj))
          (fun j v hj => by rw [Nat.add_assoc, Nat.add_comm 1 j]; exact hY (j + 1) v (by simpa using hj))
        simp only [Op.eqFields, ne_eq, hne, not_false_eq_true, if_true, Sem.run_bind, px, py, Result.andThen_ok, heq, Sem.run_ite]
        cases b1
        · simp
        · simp [rest]

theorem veq_sound {P : Program} {T : TypeId} {E : Env} {x y : V} {xv yv : Value} {b : Bool} (hx : RepV E x xv) (hy : RepV E y yv) (h : veq P T x y = some b) :
    (Op.equal T xv yv).run P E.w = .ok b E.w ∧ ∀ op X Y, (eqGuard op T X Y xv yv).run P E.w = .ok () E.w := by
  unfold veq at h
  split at h
  · obtain ⟨t, ht, h⟩ := Option.bind_eq_some_iff.1 h
    obtain ⟨i, d, hi, hd, hk, _⟩ := tyOf_parts ht
    cases hkd : t.kd with
    | bool =>
      simp only [hkd] at h
      rw [hkd] at hk
      cases h
      cases hx
      cases hy
      have hd' : d = .bool := by cases d <;> simp [kdOf] at hk <;> first | rfl | skip
      subst hd'
      constructor
      · show (Op.equalIn (9999 + 1) T _ _).run P E.w = _
        rw [run_equalIn_bool' E.w _ T _ _ hd]
        rename_i a b
        cases a <;> cases b <;> rfl
      · intro op X Y
        cases op <;> simp [eqGuard]
    | _ => simp [hkd] at h
  · obtain ⟨t, ht, h⟩ := Option.bind_eq_some_iff.1 h
    obtain ⟨i, d, hi, hd, hk, _⟩ := tyOf_parts ht
    split at h
    case h_2 => cases h
    rename_i fs hkd
    rw [hkd] at hk
    cases hx with
    | agg rx => cases hy with
      | agg ry =>
        cases d <;> simp [kdOf] at hk
        rename_i flds _
        obtain ⟨l, hl, ⟨rfl, hst, heqg⟩⟩ := hk
        have hfields : P.fieldsOf T = flds := by simp [Program.fieldsOf, hd]
        constructor
        · show (Op.equalIn (9999 + 1) T _ _).run P E.w = _
          rw [run_equalIn_struct E.w 9999 T _ _ (by rw [hfields]; exact hd) hst, hfields]
          exact eqF_sound (n := 9998) hl h rx ry (fun j v hj => by simpa using hj) (fun j v hj => by simpa using hj)
        · intro op X Y
          cases op <;> simp [eqGuard, heqg]
  · cases h

theorem intBits_sound {P : Program} {E : Env} {op : BinOp} {k : IntKind} {a b : Int} {v : V} (h : vbits op k a b = some v) :
    ∃ val, (Op.intBits op k a b).run P E.w = .ok val E.w ∧ RepV E v val := by
  unfold vbits at h
  split at h <;> first | (cases h; exact ⟨_, by simp [Op.intBits], .int (wrap_range _ _).1 (wrap_range _ _).2⟩) | cases h

theorem vbin_sound {P : Program} {T : TypeId} {op : BinOp} {X Y : Operand} {x y v : V} {E : Env} {xv yv : Value} (hx : RepV E x xv) (hy : RepV E y yv) (h : vbin P op T x y = some v) :
    ∃ val, ((do eqGuard op T X Y xv yv; binOp op T xv yv : Sem Value)).run P E.w = .ok val E.w ∧ RepV E v val := by
  unfold vbin at h
  split at h
  · split at h
    case isFalse => cases h
    rename_i hb
    cases h; cases hx; cases hy
    refine ⟨_, ?_, .int (wrap_range _ _).1 (wrap_range _ _).2⟩
    simp [eqGuard, binOp, Op.shift, Int.not_lt.2 hb]
  · split at h
    case isFalse => cases h
    rename_i hb
    cases h
    cases hx with
    | int l1 l2 =>
      cases hy
      refine ⟨_, ?_, .int (fdiv_range _ l1 l2).1 (fdiv_range _ l1 l2).2⟩
      simp [eqGuard, binOp, Op.shift, Int.not_lt.2 hb]
  · rename_i op' k a k' b n1 n2
    split at h
    case isFalse => cases h
    rename_i hk
    subst hk
    cases hx with
    | int l1 l2 =>
      cases hy
      have hshl : op ≠ .shl := by intro e; exact n1 e
      have hshr : op ≠ .shr := by intro e; exact n2 e
      cases op <;> simp only [vint, ne_eq, not_true_eq_false] at h hshl hshr
      case quo =>
        split at h
        · cases h
        · rename_i hb
          cases h
          exact ⟨_, by simp [eqGuard, binOp, Op.intDiv, hb], .int (wrap_range _ _).1 (wrap_range _ _).2⟩
      case rem =>
        split at h
        · cases h
        · rename_i hb
          cases h
          exact ⟨_, by simp [eqGuard, binOp, Op.intDiv, hb], .int (tmod_range l1 l2).1 (tmod_range l1 l2).2⟩
      case and => obtain ⟨val, hr, hv⟩ := intBits_sound (P := P) (E := E) h; exact ⟨val, by simpa [eqGuard, binOp] using hr, hv⟩
      case or => obtain ⟨val, hr, hv⟩ := intBits_sound (P := P) (E := E) h; exact ⟨val, by simpa [eqGuard, binOp] using hr, hv⟩
      case xor => obtain ⟨val, hr, hv⟩ := intBits_sound (P := P) (E := E) h; exact ⟨val, by simpa [eqGuard, binOp] using hr, hv⟩
      case andNot => obtain ⟨val, hr, hv⟩ := intBits_sound (P := P) (E := E) h; exact ⟨val, by simpa [eqGuard, binOp] using hr, hv⟩
      all_goals cases h
      all_goals have hbd : (a == b) = decide (a = b) := by rw [Bool.eq_iff_iff]; simp
      all_goals first
        | (refine ⟨_, ?_, .int (wrap_range _ _).1 (wrap_range _ _).2⟩; simp [eqGuard, binOp, Op.intArith]; done)
        | (refine ⟨_, ?_, .bool⟩; simp [eqGuard, binOp, Op.intCmp]; done)
        | (refine ⟨_, ?_, .bool⟩; simp [eqGuard, binOp, Op.intCmp]; first | exact hbd | simp only [bne, hbd])
  · rename_i op' a b
    cases hx with
    | str la =>
      cases hy with
      | str lb =>
        have hda : (⟨a.toArray⟩ : ByteArray).toList = a := by rw [ByteArray.toList_eq]
        have hdb : (⟨b.toArray⟩ : ByteArray).toList = b := by rw [ByteArray.toList_eq]
        have hbd : (a == b) = decide (a = b) := by rw [Bool.eq_iff_iff]; simp
        cases op <;> simp only [vstrOp] at h
        case add =>
          split at h
          case isFalse => cases h
          rename_i hle
          cases h
          refine ⟨.string ⟨(a ++ b).toArray⟩, ?_, .str (by simpa using hle)⟩
          have hsz : ¬ (((⟨a.toArray⟩ : ByteArray).size + (⟨b.toArray⟩ : ByteArray).size : Nat) : Int) > IntKind.i64.max := by
            show ¬ ((a.toArray.size + b.toArray.size : Nat) : Int) > IntKind.i64.max
            have hm : IntKind.i64.max = 9223372036854775807 := by decide
            unfold maxLen at hle
            simp only [List.size_toArray, hm]
            omega
          have happ : (⟨a.toArray⟩ : ByteArray) ++ ⟨b.toArray⟩ = ⟨(a ++ b).toArray⟩ := by
            apply ByteArray.ext
            simp
          simp only [eqGuard, binOp, Op.stringOp, hsz, happ, if_false, Sem.run_bind, Sem.run_pure, Result.andThen_ok, Bool.not_false, if_true]
        all_goals first | (cases h; exact ⟨_, by simp [eqGuard, binOp, Op.stringOp, hda, hdb, hbd], .bool⟩) | cases h
  · obtain ⟨b, hb, rfl⟩ := Option.map_eq_some_iff.1 h
    obtain ⟨h1, h2⟩ := veq_sound (P := P) hx hy hb
    refine ⟨.bool b, ?_, .bool⟩
    have hbin : binOp .eql T xv yv = (do pure (.bool (← Op.equal T xv yv))) := by
      unfold veq at hb
      split at hb
      · cases hx; cases hy; rfl
      · cases hx; cases hy; rfl
      · cases hb
    simp only [Sem.run_bind, h2, Result.andThen_ok, hbin, h1, Sem.run_pure]
  · obtain ⟨b, hb, rfl⟩ := Option.map_eq_some_iff.1 h
    obtain ⟨h1, h2⟩ := veq_sound (P := P) hx hy hb
    refine ⟨.bool !b, ?_, .bool⟩
    have hbin : binOp .neq T xv yv = (do pure (.bool (!(← Op.equal T xv yv)))) := by
      unfold veq at hb
      split at hb
      · cases hx; cases hy; rfl
      · cases hx; cases hy; rfl
      · cases hb
    simp only [Sem.run_bind, h2, Result.andThen_ok, hbin, h1, Sem.run_pure]
  · cases h

end Go.Proofs.Ytejdgmdebfkkeaa
