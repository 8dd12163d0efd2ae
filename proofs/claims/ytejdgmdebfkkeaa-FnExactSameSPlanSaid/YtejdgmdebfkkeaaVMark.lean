/-
  Data in variables, written over cell by cell: what is written, and the rules of the loop that does it. Own work; no condition.
-/
import Derived.Test.YtejdgmdebfkkeaaVOwn2
namespace Go.Proofs.Ytejdgmdebfkkeaa
open Go

/-- Digits ahead of what stands already. -/
def mtA : Nat → Int → List UInt8 → List UInt8
  | 0, _, out => out
  | f + 1, k, out => if 0 < k then mtA f (IntKind.i64.wrap (k.tdiv 10)) (UInt8.ofNat (IntKind.u8.wrap (IntKind.i64.wrap (48 + k.tmod 10))).toNat :: out) else out
def mt (k : Int) : List UInt8 := if k ≤ 0 then [109, 48] else 109 :: mtA 20 k []
theorem mtA_len : ∀ (f : Nat) (k : Int) (out : List UInt8), (mtA f k out).length ≤ f + out.length
  | 0, k, out => by simp [mtA]
  | f + 1, k, out => by
    unfold mtA
    split
    · have := mtA_len f (IntKind.i64.wrap (k.tdiv 10)) (UInt8.ofNat (IntKind.u8.wrap (IntKind.i64.wrap (48 + k.tmod 10))).toNat :: out)
      simp only [List.length_cons] at this
      omega
    · omega

mutual
def mkV : V → Int → V
  | .int _ _, k => .int .i64 k
  | .bool _, k => .bool (decide (k.tmod 3 = 0))
  | .str _, k => .str (mt k)
  | .agg cs, k => .agg (mkL cs k)
  | .sl id xs, k => .sl id (mkL xs k)
  | .tup vs, _ => .tup vs
  | .ptr l o, _ => .ptr l o
  | .eptr cs o, _ => .eptr cs o
  | .nilp, _ => .nilp
  | .zsl, _ => .zsl
  | .nilsl, _ => .nilsl
  | .slm x l o n, _ => .slm x l o n
  | .fn f cs, _ => .fn f cs
  | .und, _ => .und
  | .raw v, _ => .raw v
def mkL : List V → Int → List V
  | [], _ => []
  | v :: vs, k => mkV v k :: mkL vs (nk v k)
def nk : V → Int → Int
  | .int _ _, k => k + 1
  | .bool _, k => k + 1
  | .str _, k => k + 1
  | .agg cs, k => nkL cs k
  | .sl _ xs, k => nkL xs k
  | .tup _, k => k
  | .ptr _ _, k => k
  | .eptr _ _, k => k
  | .nilp, k => k
  | .zsl, k => k
  | .nilsl, k => k
  | .slm _ _ _ _, k => k
  | .fn _ _, k => k
  | .und, k => k
  | .raw _, k => k
def nkL : List V → Int → Int
  | [], k => k
  | v :: vs, k => nkL vs (nk v k)
end

mutual
theorem nk_le : ∀ (v : V) (k : Int), k ≤ nk v k
  | .int _ _, k => by simp only [nk]; omega
  | .bool _, k => by simp only [nk]; omega
  | .str _, k => by simp only [nk]; omega
  | .agg cs, k => by simp only [nk]; exact nkL_le cs k
  | .sl _ xs, k => by simp only [nk]; exact nkL_le xs k
  | .tup _, k | .ptr _ _, k | .eptr _ _, k | .nilp, k | .zsl, k | .nilsl, k | .slm _ _ _ _, k | .fn _ _, k | .und, k | .raw _, k => by simp only [nk]; omega
theorem nkL_le : ∀ (vs : List V) (k : Int), k ≤ nkL vs k
  | [], k => by simp only [nkL]; omega
  | v :: vs, k => by
    have h1 := nk_le v k
    have h2 := nkL_le vs (nk v k)
    simp only [nkL]; omega
end
theorem mkL_append : ∀ (a b : List V) (k : Int), mkL (a ++ b) k = mkL a k ++ mkL b (nkL a k)
  | [], b, k => rfl
  | x :: a, b, k => by simp only [List.cons_append, mkL, nkL, mkL_append a b]
theorem nkL_append : ∀ (a b : List V) (k : Int), nkL (a ++ b) k = nkL b (nkL a k)
  | [], b, k => rfl
  | x :: a, b, k => by simp only [List.cons_append, nkL, nkL_append a b]
theorem mkL_length : ∀ (a : List V) (k : Int), (mkL a k).length = a.length
  | [], k => rfl
  | x :: a, k => by simp only [mkL, List.length_cons, mkL_length a]
theorem mkL_isEmpty (a : List V) (k : Int) : (mkL a k).isEmpty = a.isEmpty := by cases a <;> rfl
mutual
theorem mk_cv : ∀ (v : V) (k : Int), cv (mkV v k) = cv v
  | .agg cs, k => by simp only [mkV, cv, mkL_cv cs k]
  | .sl _ xs, k => by simp only [mkV, cv, mkL_cv xs k, mkL_isEmpty]
  | .int _ _, k | .bool _, k | .str _, k | .tup _, k | .ptr _ _, k | .eptr _ _, k | .nilp, k | .zsl, k | .nilsl, k | .slm _ _ _ _, k | .fn _ _, k | .und, k | .raw _, k => by simp only [mkV, cv]
theorem mkL_cv : ∀ (vs : List V) (k : Int), cvL (mkL vs k) = cvL vs
  | [], k => rfl
  | v :: vs, k => by simp only [mkL, cvL, mk_cv v k, mkL_cv vs]
end
theorem mk_cells_len (v : V) (k : Int) : (mkV v k).cells.length = v.cells.length := by
  cases v <;> simp [mkV, V.cells, mkL_length]
/-- A slice stays where it is. -/
theorem thw_mk_sl (n : Nat) (id : Nat) (xs : List V) (k : Int) : (thw n (mkV (.sl id xs) k)).1 = (thw n (.sl id xs)).1 := by
  simp only [mkV]
  cases h : xs.isEmpty with
  | true =>
    have : xs = [] := by simpa using h
    subst this
    rfl
  | false => rw [thw_sl n id h, thw_sl n id (by rw [mkL_isEmpty]; exact h), mkL_cv, mkL_length]

mutual
theorem mk_plain : ∀ (v : V) (k : Int), v.plain = true → (mkV v k).plain = true
  | .agg cs, k, h => mkL_plain cs k h
  | .sl id xs, k, h => by
    simp only [V.plain, Bool.and_eq_true, mkV] at h ⊢
    obtain ⟨⟨h0, h1⟩, h2⟩ := h
    obtain ⟨sz, hsz⟩ := sameSz_spec h1
    exact ⟨⟨h0, sameSz_of (mkL_sz xs k hsz)⟩, mkL_plain xs k h2⟩
  | .int _ _, k, h | .bool _, k, h | .str _, k, h | .nilp, k, h | .und, k, h => by simp only [mkV, V.plain]
  | .tup _, k, h | .ptr _ _, k, h | .eptr _ _, k, h | .zsl, k, h | .nilsl, k, h | .slm _ _ _ _, k, h | .fn _ _, k, h | .raw _, k, h => by cases h
theorem mkL_plain : ∀ (vs : List V) (k : Int), V.plainL vs = true → V.plainL (mkL vs k) = true
  | [], k, h => rfl
  | v :: vs, k, h => by
    simp only [V.plainL, Bool.and_eq_true, mkL] at h ⊢
    exact ⟨mk_plain v k h.1, mkL_plain vs _ h.2⟩
theorem mkL_sz : ∀ (vs : List V) (k : Int) {sz : Nat}, (∀ x ∈ vs, x.cells.length = sz) → ∀ x ∈ mkL vs k, x.cells.length = sz
  | [], k, sz, h => fun x hx => by cases hx
  | v :: vs, k, sz, h => fun x hx => by
    simp only [mkL, List.mem_cons] at hx
    rcases hx with rfl | hx
    · rw [mk_cells_len]; exact h v (by simp)
    · exact mkL_sz vs _ (fun y hy => h y (by simp [hy])) x hx
end

/-! ### States -/
/-- The variables from n on hold this. -/
def S.blk (s : S) (n : Nat) (B : List (Nat × List V)) : S := { s with vars := fun l => if n ≤ l ∧ l < n + B.length then (B[l - n]?).map (·.2) else s.vars l }
def S.mb (t : S) (n : Nat) (D : List (Nat × List V)) (l0 : Nat) (C : List V) : S := (t.blk n D).setVar l0 C

theorem blk_nil (t : S) (n : Nat) : t.blk n [] = t := by
  refine S.ext_eq (fun x => ?_) (fun _ => rfl) rfl
  simp only [S.blk, List.length_nil, Nat.add_zero]
  rw [if_neg (by omega)]
theorem mb_eq (t : S) (n : Nat) (D : List (Nat × List V)) (i : Nat) (C : List V) : t.mb n D (n + D.length) C = t.blk n (D ++ [(i, C)]) := by
  refine S.ext_eq (fun x => ?_) (fun _ => rfl) rfl
  simp only [S.mb, S.setVar, S.blk, List.length_append, List.length_cons, List.length_nil]
  by_cases h1 : x = n + D.length
  · rw [if_pos h1, if_pos (by omega), h1, Nat.add_sub_cancel_left]
    simp
  · rw [if_neg h1]
    by_cases h2 : n ≤ x ∧ x < n + D.length
    · rw [if_pos h2, if_pos (by omega), List.getElem?_append_left (by omega)]
    · rw [if_neg h2, if_neg (by omega)]
theorem blk_self {t : S} {n : Nat} {B : List (Nat × List V)} (h : HasV t n B) : t.blk n B = t := by
  refine S.ext_eq (fun x => ?_) (fun _ => rfl) rfl
  simp only [S.blk]
  split
  · rename_i hx
    have hlt : x - n < B.length := by omega
    have := h (x - n) _ (List.getElem?_eq_getElem hlt)
    rw [show n + (x - n) = x by omega] at this
    rw [List.getElem?_eq_getElem hlt, this]
    rfl
  · rfl
/-- A part of the block changed. -/
theorem mb_blk (t : S) (n l0 m : Nat) (C : List V) {A E Z E' : List (Nat × List V)} (hm : m = n + A.length) (he : E'.length = E.length) (hl : m + E.length ≤ l0) :
    (t.mb n (A ++ (E ++ Z)) l0 C).blk m E' = t.mb n (A ++ (E' ++ Z)) l0 C := by
  refine S.ext_eq (fun x => ?_) (fun _ => rfl) rfl
  simp only [S.mb, S.setVar, S.blk, List.length_append]
  by_cases h0 : x = l0
  · rw [if_pos h0, if_pos h0, if_neg (by omega)]
  · rw [if_neg h0, if_neg h0]
    by_cases h1 : m ≤ x ∧ x < m + E'.length
    · rw [if_pos h1, if_pos (by omega), List.getElem?_append_right (by omega), List.getElem?_append_left (by omega)]
      congr 2
      omega
    · rw [if_neg h1]
      by_cases h2 : n ≤ x ∧ x < n + (A.length + (E.length + Z.length))
      · rw [if_pos h2, if_pos (by omega)]
        by_cases h3 : x < m
        · rw [List.getElem?_append_left (by omega), List.getElem?_append_left (by omega)]
        · rw [List.getElem?_append_right (by omega), List.getElem?_append_right (by omega), List.getElem?_append_right (by omega), List.getElem?_append_right (by omega), he]
      · rw [if_neg h2, if_neg (by omega)]
theorem mb_has (t : S) (n l0 m : Nat) (C : List V) {A E Z : List (Nat × List V)} (hm : m = n + A.length) (hl : m + E.length ≤ l0) : HasV (t.mb n (A ++ (E ++ Z)) l0 C) m E := by
  intro j p hj
  have hlt := (List.getElem?_eq_some_iff.1 hj).1
  simp only [S.mb, S.setVar, S.blk, List.length_append]
  rw [if_neg (by omega), if_pos (by omega), List.getElem?_append_right (by omega), List.getElem?_append_left (by omega), show m + j - n - A.length = j by omega, hj]
  rfl

/-- The contract of what marks data. -/
def MarkC (P : Program) (f : FuncId) (d : V) : Prop := ∀ (t : S) (n : Nat) (k : Int), HasV t n (thw n d).2 → 0 ≤ k → nk d k ≤ 4000000000000 →
  VCalls P f [(thw n d).1, .int .i64 k] t (fun v t' => v = .int .i64 (nk d k) ∧ t' = t.blk n (thw n (mkV d k)).2)

/-! ### Rules -/
section
variable {P : Program} {N : Nat} {ops : Array Oper} {l : List Oper} {K : Kn → S → Prop} {L : Kn} {t : S} {tt : BT} {d : Nat} {ty : TypeId} {p : String} {a : Array Edge} {n l0 q : Nat} {D : List (Nat × List V)} {CA ce CZ : List V}

theorem mb_var : (t.mb n D l0 CA).vars l0 = some CA := by simp [S.mb, S.setVar]

theorem take_mid {f : Nat} {sz : Nat} {agg : Bool} {v : V} (h : takeO ce f sz agg = some v) : takeV (CA ++ (ce ++ CZ)) (CA.length + f) sz agg = some v := by
  have h := takeO_eq h
  unfold takeV at h ⊢
  split at h
  · rename_i hle
    rw [if_pos (by simp; omega)]
    have e1 : (CA ++ (ce ++ CZ)).drop (CA.length + f) = ce.drop f ++ CZ := by
      rw [List.drop_append, List.drop_of_length_le (by omega), List.nil_append, Nat.add_sub_cancel_left, List.drop_append, show f - ce.length = 0 by omega, List.drop_zero]
    have e2 : (ce.drop f ++ CZ).take sz = (ce.drop f).take sz := by rw [List.take_append_of_le_length (by simp; omega)]
    split at h
    · rw [if_pos ‹_›, e1, e2]; exact h
    · rw [if_neg ‹_›]
      have hlt := (List.getElem?_eq_some_iff.1 h).1
      rw [List.getElem?_append_right (by omega), Nat.add_sub_cancel_left, List.getElem?_append_left hlt]
      exact h
  · cases h
theorem splice_mid {f : Nat} {vs : List V} (h : f + vs.length ≤ ce.length) : splice (CA ++ (ce ++ CZ)) (CA.length + f) vs = CA ++ (splice ce f vs ++ CZ) := by
  unfold splice
  rw [List.take_append, List.take_of_length_le (by omega), Nat.add_sub_cancel_left, List.take_append_of_le_length (by omega), List.drop_append, List.drop_of_length_le (by omega), List.nil_append,
    show CA.length + f + vs.length - CA.length = f + vs.length by omega, List.drop_append_of_le_length h]
  simp only [List.append_assoc]

theorem AnsL.loadE (ht : tt.ok P) {T : TypeId} {u : Ty} {x : Operand} {off : Nat} {v : V} (f : Nat) (hq : CA.length = q) (hx : opd L x = some (.ptr l0 off)) (ho : off = 0 + q + f) (hT : tt.get T = some u) (hr : takeO ce f u.size u.agg = some v) :
    AnsL P (.load T x) L (t.mb n D l0 (CA ++ (ce ++ CZ))) v :=
  .of fun σ hσ _ _ _ _ _ => by
    have h := take_mid (CA := CA) (CZ := CZ) hr
    rw [hq, show q + f = off by omega] at h
    simp only [vop, opd_eq hσ hx, vload, ht.get hT, mb_var, h, Option.bind_some, Option.map_some]

theorem LOps.storeE (ht : tt.ok P) {T : TypeId} {u : Ty} {x y : Operand} {off : Nat} {v : V} {vs ce' : List V} (f : Nat) (hq : CA.length = q) (hx : opd L x = some (.ptr l0 off)) (ho : off = 0 + q + f) (hy : opd L y = some v) (hT : tt.get T = some u)
    (hc : cellsO v = some vs) (h1 : onesO vs = true) (hn : Nat.beq vs.length u.size = true) (hsp : splO ce f vs = some ce') (hk : LOps P N ops l K L (t.mb n D l0 (CA ++ (ce' ++ CZ)))) :
    LOps P N ops (⟨none, .store T x y, ty, p, a, none⟩ :: l) K L (t.mb n D l0 (CA ++ (ce ++ CZ))) := by
  refine .stN (v := .und) (fun σ hσ => ?_) hk
  obtain ⟨h2, h3⟩ := splO_eq hsp
  have h4 : vs.length = u.size := Nat.eq_of_beq_eq_true hn
  simp only [vop, opd_eq hσ hx, opd_eq hσ hy, vstore, ht.get hT, mb_var, cellsO_eq hc, Option.bind_some]
  have h5 := splice_mid (CA := CA) (CZ := CZ) h3
  rw [hq, show q + f = off by omega] at h5
  rw [if_pos ⟨h4, by simp only [List.length_append]; omega, onesO_eq h1⟩, h5, ← h2, Option.map_some]
  have e : (t.mb n D l0 (CA ++ (ce ++ CZ))).setVar l0 (CA ++ (ce' ++ CZ)) = t.mb n D l0 (CA ++ (ce' ++ CZ)) := by
    refine S.ext_eq (fun x => ?_) (fun _ => rfl) rfl
    simp only [S.mb, S.setVar]
    split <;> rfl
  rw [e]

/-- A call that marks a part. -/
theorem LOps.markE {f : Operand} {g : FuncId} {args : Array Operand} {B : Array TypeId} {dv v : V} {kk : Int} {m : Nat} {C : List V} {A Z : List (Nat × List V)} (hf : opd L f = some (.fn g [])) (ha : opdL L args.toList = some [v, .int .i64 kk]) (hok : CallOk P g)
    (hc : MarkC P g dv) (hv : v = (thw m dv).1) (hm : m = n + A.length) (hl : m + cv dv ≤ l0) (h0 : 0 ≤ kk) (hb : nk dv kk ≤ 4000000000000)
    (hk : LOps P N ops l K ((d, .int .i64 (nk dv kk)) :: L) (t.mb n (A ++ ((thw m (mkV dv kk)).2 ++ Z)) l0 C)) :
    LOps P N ops (⟨some d, .call ⟨.value f, args, B⟩, ty, p, a, none⟩ :: l) K L (t.mb n (A ++ ((thw m dv).2 ++ Z)) l0 C) := by
  subst hv
  refine .call hf ha rfl hok (hc _ m kk (mb_has t n l0 m C hm (by rw [thw_cv]; exact hl)) h0 hb) fun v s' hv => ?_
  obtain ⟨rfl, rfl⟩ := hv
  rw [mb_blk t n l0 m C hm (by rw [thw_cv, thw_cv, mk_cv]) (by rw [thw_cv]; exact hl)]
  exact hk

theorem LCalls.body0 {f : FuncId} {fn : Func} {c : Code} {args : List V} {s : S} {R : V → S → Prop} (hf : P.funcs[f]? = some fn) (hb : fn.body = some c) (hn : Nat.ble args.length fn.ntmps = true)
    (h : WL P fn.ntmps c (LPost P fn.results.toList R) (argL 0 args) s) : VCalls P f args s R := by
  refine VCalls.body hf hb (Nat.le_of_ble_eq_true hn) (VWp.mono (h.run _ (At.args args)) ?_)
  rintro e σ' s' ⟨L', hat, ⟨hq⟩⟩
  cases e with
  | normal => obtain ⟨vs, h1, h2⟩ := hq; simp only [VPost, h1 σ' hat]; exact h2
  | ret => obtain ⟨vs, h1, h2⟩ := hq; simp only [VPost, h1 σ' hat]; exact h2
  | _ => exact hq.elim

/-- A round's end. -/
structure lmark (LI : Kn) (S' : S) (e : Exit) (L : Kn) (s : S) : Prop where
  ex : e = .normal
  sub : SubL LI L
  st : s = S'
/-- The loop's end. -/
structure lfin (Q : Exit → Kn → S → Prop) (e : Exit) (L : Kn) (s : S) : Prop where
  h : match e with
    | .normal => False
    | e => Q e L s
theorem lfin_e {Q : Exit → Kn → S → Prop} {i : Nat} {s : S} (h : Q (.exit i) L s) : lfin Q (.exit i) L s := ⟨h⟩
theorem lfin_r {Q : Exit → Kn → S → Prop} {s : S} (h : Q .ret L s) : lfin Q .ret L s := ⟨h⟩

def siM (t : S) (n : Nat) (ds : List V) (k : Int) (i : Nat) : S :=
  t.mb n (thwL n (mkL (ds.take i) k ++ ds.drop i)).2 (n + cvL ds) (V.flat (thwL n (mkL (ds.take i) k ++ ds.drop i)).1)

theorem V.flat_append (a b : List V) : V.flat (a ++ b) = V.flat a ++ V.flat b := by simp [V.flat]
theorem flat_len_sz {sz : Nat} : ∀ {xs : List V}, (∀ x ∈ xs, x.cells.length = sz) → ∀ n, (V.flat (thwL n xs).1).length = xs.length * sz
  | [], h, n => by simp [thwL, V.flat]
  | x :: xs, h, n => by
    have ih := flat_len_sz (xs := xs) (fun y hy => h y (List.mem_cons_of_mem _ hy)) (n + (thw n x).2.length)
    simp only [thwL, flat_cons, List.length_append, List.length_cons, ih]
    rw [(thw_cells' x n).1, thwL_len, h x (by simp), Nat.succ_mul, Nat.add_comm]

theorem siM_split (t : S) (n : Nat) (ds : List V) {i : Nat} (x : V) (pre : List V) (hc : cvL pre = cvL (ds.take i)) :
    t.mb n (thwL n (pre ++ x :: ds.drop (i + 1))).2 (n + cvL ds) (V.flat (thwL n (pre ++ x :: ds.drop (i + 1))).1) =
    t.mb n ((thwL n pre).2 ++ ((thw (n + cvL (ds.take i)) x).2 ++ (thwL (n + cvL (ds.take i) + cv x) (ds.drop (i + 1))).2)) (n + cvL ds)
      (V.flat (thwL n pre).1 ++ ((thw (n + cvL (ds.take i)) x).1.cells ++ V.flat (thwL (n + cvL (ds.take i) + cv x) (ds.drop (i + 1))).1)) := by
  rw [thwL_append, thwL_cv, hc]
  simp only [thwL, thw_cv, V.flat_append, flat_cons]

/-- The loop that marks a slice. -/
theorem WL.loopMark {c : Code} {Q : Exit → Kn → S → Prop} (t : S) (n : Nat) (ds : List V) (k : Int) (sz : Nat) (LI : Int → Nat → Kn) (hne : ds.isEmpty = false) (hsz : ∀ x ∈ ds, x.cells.length = sz) (hv : HasV t n (thw n (.sl 0 ds)).2) (hk0 : 0 ≤ k) (hkb : nkL ds k ≤ 4000000000000)
    (hL : SubL (LI k 0) L)
    (round : ∀ (i : Nat) (hi : i < ds.length) (kk : Int) (m : Nat) (A Z : List (Nat × List V)) (CA CZ : List V), CA.length = i * sz → m = n + A.length → m + cv ds[i] ≤ n + cvL ds → 0 ≤ kk → nk ds[i] kk ≤ 4000000000000 →
      WL P N c (lmark (LI (nk ds[i] kk) (i + 1)) (t.mb n (A ++ ((thw m (mkV ds[i] kk)).2 ++ Z)) (n + cvL ds) (CA ++ ((thw m (mkV ds[i] kk)).1.cells ++ CZ)))) (LI kk i) (t.mb n (A ++ ((thw m ds[i]).2 ++ Z)) (n + cvL ds) (CA ++ ((thw m ds[i]).1.cells ++ CZ))))
    (fin : WL P N c (lfin Q) (LI (nkL ds k) ds.length) (t.blk n (thw n (mkV (.sl 0 ds) k)).2)) : WL P N (.loop c) Q L t := by
  have hth : ∀ us : List V, us.isEmpty = false → cvL us = cvL ds → (thw n (.sl 0 us)).2 = (thwL n us).2 ++ [(0, V.flat (thwL n us).1)] := fun us h _ => by
    unfold thw
    rw [h]
    simp
  have hmb : ∀ us : List V, us.isEmpty = false → cvL us = cvL ds → t.mb n (thwL n us).2 (n + cvL ds) (V.flat (thwL n us).1) = t.blk n (thw n (.sl 0 us)).2 := fun us h h2 => by
    rw [hth us h h2, ← mb_eq, thwL_cv, h2]
  refine WL.loop0 (fun i : Nat => ds.length - i) (fun i => LI (nkL (ds.take i) k) i) (siM t n ds k) (fun i => i ≤ ds.length) 0 (by omega) hL ?_ fun i hi => ?_
  · unfold siM
    simp only [List.take_zero, mkL, List.drop_zero, List.nil_append]
    rw [hmb ds hne rfl, blk_self hv]
  · rcases Nat.lt_or_ge i ds.length with hlt | hge
    · have hd : ds.drop i = ds[i] :: ds.drop (i + 1) := List.drop_eq_getElem_cons hlt
      have ht : ds.take (i + 1) = ds.take i ++ [ds[i]] := (List.take_append_getElem hlt).symm
      have hcv : cvL ds = cvL (ds.take i) + (cv ds[i] + cvL (ds.drop (i + 1))) := by
        have := cvL_append (ds.take i) (ds.drop i)
        rw [List.take_append_drop, hd] at this
        exact this
      have hsum : nkL ds k = nkL (ds.drop (i + 1)) (nk ds[i] (nkL (ds.take i) k)) := by
        have := nkL_append (ds.take i) (ds.drop i) k
        rw [List.take_append_drop, hd] at this
        exact this
      have hle := nkL_le (ds.drop (i + 1)) (nk ds[i] (nkL (ds.take i) k))
      have hle0 := nkL_le (ds.take i) k
      have hlen : (mkL (ds.take i) k).length = i := by rw [mkL_length, List.length_take]; omega
      have hst := siM_split t n ds (i := i) ds[i] (mkL (ds.take i) k) (mkL_cv _ _)
      have hst2 := siM_split t n ds (i := i) (mkV ds[i] (nkL (ds.take i) k)) (mkL (ds.take i) k) (mkL_cv _ _)
      have e0 : siM t n ds k i = t.mb n (thwL n (mkL (ds.take i) k ++ ds[i] :: ds.drop (i + 1))).2 (n + cvL ds) (V.flat (thwL n (mkL (ds.take i) k ++ ds[i] :: ds.drop (i + 1))).1) := by
        unfold siM
        rw [hd]
      have e1 : siM t n ds k (i + 1) = t.mb n (thwL n (mkL (ds.take i) k ++ mkV ds[i] (nkL (ds.take i) k) :: ds.drop (i + 1))).2 (n + cvL ds) (V.flat (thwL n (mkL (ds.take i) k ++ mkV ds[i] (nkL (ds.take i) k) :: ds.drop (i + 1))).1) := by
        unfold siM
        rw [ht, mkL_append, List.append_assoc]
        rfl
      rw [e0, hst]
      refine (round i hlt (nkL (ds.take i) k) (n + cvL (ds.take i)) (thwL n (mkL (ds.take i) k)).2 _ (V.flat (thwL n (mkL (ds.take i) k)).1) _ ?_ (by rw [thwL_cv, mkL_cv]) (by omega) (by omega) (by omega)).mono ?_
      · rw [flat_len_sz (sz := sz) (mkL_sz _ _ fun x hx => hsz x (List.mem_of_mem_take hx)), hlen]
      · rintro e L' s' ⟨rfl, h2, h3⟩
        refine lback.of (i + 1) (by omega) (by omega) ?_ ?_
        · rw [ht, nkL_append]
          exact h2
        · rw [e1, hst2, h3, mk_cv]
    · have hi2 : i = ds.length := by omega
      subst hi2
      have e1 : siM t n ds k ds.length = t.blk n (thw n (mkV (.sl 0 ds) k)).2 := by
        unfold siM
        simp only [List.take_length, List.drop_length, List.append_nil]
        rw [hmb (mkL ds k) (by rw [mkL_isEmpty]; exact hne) (mkL_cv _ _)]
        rfl
      rw [e1, List.take_length]
      refine fin.mono ?_
      rintro e L' s' ⟨h⟩
      cases e with
      | normal => exact h.elim
      | _ => exact ⟨h⟩

/-- The loop that looks whether a slice is marked. -/
theorem mkL_get : ∀ (ds : List V) (k : Int) (i : Nat) (hi : i < ds.length), (mkL ds k)[i]? = some (mkV ds[i] (nkL (ds.take i) k))
  | [], k, i, hi => by simp at hi
  | d :: ds, k, 0, hi => rfl
  | d :: ds, k, i + 1, hi => by
    have := mkL_get ds (nk d k) i (by simpa using hi)
    simpa [mkL, nkL] using this
theorem WL.loopHeld {c : Code} {Q : Exit → Kn → S → Prop} (ds : List V) (k : Int) (LI : Int → Nat → Kn) (hk0 : 0 ≤ k) (hkb : nkL ds k ≤ 4000000000000) (hL : SubL (LI k 0) L)
    (round : ∀ (i : Nat) (hi : i < ds.length) (kk : Int), (mkL ds k)[i]? = some (mkV ds[i] kk) → 0 ≤ kk → nk ds[i] kk ≤ 4000000000000 → WL P N c (lmark (LI (nk ds[i] kk) (i + 1)) t) (LI kk i) t)
    (fin : WL P N c (lfin Q) (LI (nkL ds k) ds.length) t) : WL P N (.loop c) Q L t := by
  refine WL.loop0 (fun i : Nat => ds.length - i) (fun i => LI (nkL (ds.take i) k) i) (fun _ => t) (fun i => i ≤ ds.length) 0 (by omega) hL rfl fun i hi => ?_
  rcases Nat.lt_or_ge i ds.length with hlt | hge
  · have hd : ds.drop i = ds[i] :: ds.drop (i + 1) := List.drop_eq_getElem_cons hlt
    have ht : ds.take (i + 1) = ds.take i ++ [ds[i]] := (List.take_append_getElem hlt).symm
    have hsum : nkL ds k = nkL (ds.drop (i + 1)) (nk ds[i] (nkL (ds.take i) k)) := by
      have := nkL_append (ds.take i) (ds.drop i) k
      rw [List.take_append_drop, hd] at this
      exact this
    have hle := nkL_le (ds.drop (i + 1)) (nk ds[i] (nkL (ds.take i) k))
    have hle0 := nkL_le (ds.take i) k
    refine (round i hlt (nkL (ds.take i) k) (mkL_get ds k i hlt) (by omega) (by omega)).mono ?_
    rintro e L' s' ⟨rfl, h2, h3⟩
    refine lback.of (i + 1) (by omega) (by omega) ?_ h3
    rw [ht, nkL_append]
    exact h2
  · have hi2 : i = ds.length := by omega
    subst hi2
    rw [List.take_length]
    refine fin.mono ?_
    rintro e L' s' ⟨h⟩
    cases e with
    | normal => exact h.elim
    | _ => exact ⟨h⟩

/-! ### Rows of cells, cell by cell -/
theorem thw_agg (n : Nat) (cs : List V) : thw n (.agg cs) = (.agg (thwL n cs).1, (thwL n cs).2) := rfl
theorem thwL_nil (n : Nat) : thwL n [] = ([], []) := rfl
theorem thwL_int (n : Nat) (k : IntKind) (i : Int) (vs : List V) : thwL n (.int k i :: vs) = (.int k i :: (thwL n vs).1, (thwL n vs).2) := rfl
theorem thwL_str (n : Nat) (b : List UInt8) (vs : List V) : thwL n (.str b :: vs) = (.str b :: (thwL n vs).1, (thwL n vs).2) := rfl
theorem thwL_bool (n : Nat) (b : Bool) (vs : List V) : thwL n (.bool b :: vs) = (.bool b :: (thwL n vs).1, (thwL n vs).2) := rfl
theorem thwL_sl (n : Nat) (i : Nat) (xs vs : List V) : thwL n (.sl i xs :: vs) = ((thw n (.sl i xs)).1 :: (thwL (n + cv (.sl i xs)) vs).1, (thw n (.sl i xs)).2 ++ (thwL (n + cv (.sl i xs)) vs).2) := by rw [thwL, thw_cv]
theorem thwL_mk (n : Nat) (i : Nat) (xs vs : List V) (k : Int) : thwL n (mkV (.sl i xs) k :: vs) = ((thw n (.sl i xs)).1 :: (thwL (n + cv (.sl i xs)) vs).1, (thw n (mkV (.sl i xs) k)).2 ++ (thwL (n + cv (.sl i xs)) vs).2) := by
  rw [thwL, thw_cv, mk_cv, thw_mk_sl]
theorem mk_agg (cs : List V) (k : Int) : mkV (.agg cs) k = .agg (mkL cs k) := rfl
theorem mkL_nil (k : Int) : mkL [] k = [] := rfl
theorem mkL_int (i : IntKind) (m : Int) (vs : List V) (k : Int) : mkL (.int i m :: vs) k = .int .i64 k :: mkL vs (k + 1) := rfl
theorem mkL_str (b : List UInt8) (vs : List V) (k : Int) : mkL (.str b :: vs) k = .str (mt k) :: mkL vs (k + 1) := rfl
theorem mkL_bool (b : Bool) (vs : List V) (k : Int) : mkL (.bool b :: vs) k = .bool (decide (k.tmod 3 = 0)) :: mkL vs (k + 1) := rfl
theorem mkL_sl (i : Nat) (xs vs : List V) (k : Int) : mkL (.sl i xs :: vs) k = mkV (.sl i xs) k :: mkL vs (nk (.sl i xs) k) := rfl
end
end Go.Proofs.Ytejdgmdebfkkeaa
