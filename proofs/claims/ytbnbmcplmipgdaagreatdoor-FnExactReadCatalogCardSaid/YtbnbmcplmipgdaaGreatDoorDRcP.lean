/-
  Catalogs read from tokens, plainly: nothing of the program. Own work; no condition.
-/
import Derived.Test.YtbnbmcplmipgdaaGreatDoorDCat4
import Derived.Test.YtbnbmcplmipgdaaGreatDoorMg23
namespace Go.Proofs.YtbnbmcplmipgdaaGreatDoor
set_option linter.unusedSimpArgs false
set_option linter.unusedVariables false

def tokEq (x y : Token) : Bool := decide (x.kind = y.kind) && decide (x.text = y.text)
/-! ### Tokens of a catalog -/
def tySt (n : Int) : List UInt8 := if n = 0 then [65, 78, 89] else if n = 1 then [73, 78, 84] else if n = 2 then [84, 69, 88, 84] else if n = 3 then [66, 79, 79, 76] else []
def nmTk (b : List UInt8) : Token := ⟨2, b, 0⟩
def sgTk (b : List UInt8) : Token := ⟨5, b, 0⟩
def cmT : Nat → List Token
  | 0 => []
  | _ + 1 => [sgTk [44]]
def colT (k : Nat) (c : Col) : List Token := cmT k ++ [nmTk c.name, nmTk (tySt c.type)]
def colsT : Nat → List Col → List Token
  | _, [] => []
  | k, c :: cs => colT k c ++ colsT (k + 1) cs
def tabT (k : Nat) (t : Tab) : List Token := cmT k ++ ([nmTk t.name, sgTk [40]] ++ (colsT 0 t.cols ++ [sgTk [41]]))
def tabsT : Nat → List Tab → List Token
  | _, [] => []
  | k, t :: ts => tabT k t ++ tabsT (k + 1) ts
theorem colsT_app : ∀ (cs : List Col) (k : Nat) (c : Col), colsT k (cs ++ [c]) = colsT k cs ++ colT (k + cs.length) c
  | [], k, c => by simp [colsT]
  | x :: cs, k, c => by
    have := colsT_app cs (k + 1) c
    simp only [List.cons_append, colsT, this, List.append_assoc, List.length_cons]
    rw [show k + 1 + cs.length = k + (cs.length + 1) by omega]
theorem tabsT_app : ∀ (ts : List Tab) (k : Nat) (t : Tab), tabsT k (ts ++ [t]) = tabsT k ts ++ tabT (k + ts.length) t
  | [], k, t => by simp [tabsT]
  | x :: ts, k, t => by
    have := tabsT_app ts (k + 1) t
    simp only [List.cons_append, tabsT, this, List.append_assoc, List.length_cons]
    rw [show k + 1 + ts.length = k + (ts.length + 1) by omega]
theorem tabsT_kind : ∀ (ts : List Tab) (k : Nat) (x : Token), x ∈ tabsT k ts → x.kind ≠ 3 := by
  have h1 : ∀ k x, x ∈ cmT k → x.kind ≠ 3 := fun k x hx => by
    cases k with
    | zero => cases hx
    | succ k => simp only [cmT, List.mem_singleton] at hx; subst hx; simp [sgTk]
  have h2 : ∀ (cs : List Col) k x, x ∈ colsT k cs → x.kind ≠ 3 := fun cs => by
    induction cs with
    | nil => intro k x hx; cases hx
    | cons c cs ih =>
      intro k x hx
      simp only [colsT, colT, List.mem_append, List.mem_cons, List.not_mem_nil, or_false] at hx
      rcases hx with (hx | rfl | rfl) | hx
      · exact h1 k x hx
      · simp [nmTk]
      · simp [nmTk]
      · exact ih _ x hx
  intro ts
  induction ts with
  | nil => intro k x hx; cases hx
  | cons t ts ih =>
    intro k x hx
    simp only [tabsT, tabT, List.mem_append, List.mem_cons, List.not_mem_nil, or_false] at hx
    rcases hx with (hx | (rfl | rfl) | hx | rfl) | hx
    · exact h1 k x hx
    · simp [nmTk]
    · simp [sgTk]
    · exact h2 _ _ x hx
    · simp [sgTk]
    · exact ih _ x hx

/-! ### The reader -/
/-- A place in the tokens, and whether something could not stand. -/
abbrev Pst := Nat × Bool
def isTk (l : List Token) (p : Pst) (k : Int) (b : List UInt8) : Bool := !p.2 && (match l[p.1]? with | some t => decide (t.kind = k) && decide (t.text = b) | none => false)
def isNm (l : List Token) (p : Pst) : Bool := !p.2 && (match l[p.1]? with | some t => decide (t.kind = 2) && nameOk t.text | none => false)
/-- A sign that must stand. -/
def sgP (l : List Token) (b : List UInt8) (p : Pst) : Pst := if isTk l p 5 b = true then (p.1 + 1, p.2) else (p.1, true)
def nmX (l : List Token) (p : Pst) : List UInt8 := if isNm l p = true then (match l[p.1]? with | some t => t.text | none => []) else []
/-- A name that must stand. -/
def nmP (l : List Token) (p : Pst) : Pst := if isNm l p = true then (p.1 + 1, p.2) else (p.1, true)
def colR (ty : List UInt8 → Int) (l : List Token) (p : Pst) : Col := ⟨nmX l p, ty (nmX l (nmP l p))⟩
def colQ (l : List Token) (p : Pst) : Pst := nmP l (nmP l p)
def colsP (ty : List UInt8 → Int) (l : List Token) : Nat → Pst → List Col → List Col × Pst
  | 0, p, cs => (cs, p)
  | f + 1, p, cs => if isTk l (colQ l p) 5 [44] = true then colsP ty l f ((colQ l p).1 + 1, (colQ l p).2) (cs ++ [colR ty l p]) else (cs ++ [colR ty l p], colQ l p)
def tabP (ty : List UInt8 → Int) (z : Bool) (l : List Token) (p : Pst) : List Col × Pst :=
  if (z && (sgP l [40] (nmP l p)).2) = true then ([], sgP l [40] (nmP l p)) else colsP ty l (l.length + 1) (sgP l [40] (nmP l p)) []
def tabX (ty : List UInt8 → Int) (z : Bool) (l : List Token) (p : Pst) : Tab := ⟨nmX l p, (tabP ty z l p).1⟩
def tabQ (ty : List UInt8 → Int) (z : Bool) (l : List Token) (p : Pst) : Pst := sgP l [41] (tabP ty z l p).2
def comQ (l : List Token) (k : Nat) (p : Pst) : Pst := if k = 0 then p else sgP l [44] p
def catP (ty : List UInt8 → Int) (z : Bool) (l : List Token) : Nat → Pst → List Tab → List Tab × Pst
  | 0, p, ts => (ts, p)
  | f + 1, p, ts => if (p.2 || decide (l.length ≤ p.1)) = true then (ts, p) else
      catP ty z l f (tabQ ty z l (comQ l ts.length p)) (ts ++ [tabX ty z l (comQ l ts.length p)])
def readC (ty : List UInt8 → Int) (z : Bool) (l : List Token) : List Tab × Pst := catP ty z l (l.length + 2) (0, false) []
def rcP (ty : List UInt8 → Int) (z : Bool) (l : List Token) : Option Cat :=
  if ((readC ty z l).2.2 || !catOk ⟨(readC ty z l).1⟩ || !same tokEq (tabsT 0 (readC ty z l).1) l) = true then none else some ⟨(readC ty z l).1⟩

/-! ### What is written is read -/
/-- Tokens that stand at a place. -/
def Std (l : List Token) (k : Nat) (ts : List Token) : Prop := ∀ (j : Nat) (x : Token), ts[j]? = some x → ∃ y : Token, l[k + j]? = some y ∧ y.kind = x.kind ∧ y.text = x.text
theorem Std.left {l a b : List Token} {k : Nat} (h : Std l k (a ++ b)) : Std l k a := fun j x hj => h j x (by rw [List.getElem?_append_left (List.getElem?_eq_some_iff.1 hj).1]; exact hj)
theorem Std.right {l a b : List Token} {k : Nat} (h : Std l k (a ++ b)) : Std l (k + a.length) b := fun j x hj => by
  obtain ⟨y, h1, h2⟩ := h (a.length + j) x (by rw [List.getElem?_append_right (by omega)]; rw [show a.length + j - a.length = j by omega]; exact hj)
  exact ⟨y, by rw [← h1, Nat.add_assoc], h2⟩
theorem sgP_std {l : List Token} {k : Nat} {b : List UInt8} (h : Std l k [sgTk b]) : isTk l (k, false) 5 b = true ∧ sgP l b (k, false) = (k + 1, false) := by
  obtain ⟨y, h1, h2, h3⟩ := h 0 _ rfl
  have e : isTk l (k, false) 5 b = true := by
    unfold isTk
    simp only [Nat.add_zero] at h1
    simp only [h1, h2, h3, sgTk, Bool.not_false, decide_true, Bool.and_self]
  exact ⟨e, by unfold sgP; rw [if_pos e]⟩
theorem nmP_std {l : List Token} {k : Nat} {b : List UInt8} (hb : nameOk b = true) (h : Std l k [nmTk b]) : nmX l (k, false) = b ∧ nmP l (k, false) = (k + 1, false) := by
  obtain ⟨y, h1, h2, h3⟩ := h 0 _ rfl
  simp only [Nat.add_zero] at h1
  simp only [nmTk] at h2 h3
  have e : isNm l (k, false) = true := by
    unfold isNm
    simp only [h1, h2, h3, hb, Bool.not_false, decide_true, Bool.and_self]
  exact ⟨by unfold nmX; rw [if_pos e, h1]; exact h3, by unfold nmP; rw [if_pos e]⟩
/-- What a reader of types must do. -/
def TyR (ty : List UInt8 → Int) : Prop := ∀ n : Int, 1 ≤ n → n ≤ 3 → ty (tySt n) = n
theorem tySt_ok {n : Int} (h1 : 1 ≤ n) (h2 : n ≤ 3) : nameOk (tySt n) = true := by
  have : n = 1 ∨ n = 2 ∨ n = 3 := by omega
  rcases this with rfl | rfl | rfl <;> decide
def ColG (c : Col) : Prop := nameOk c.name = true ∧ 1 ≤ c.type ∧ c.type ≤ 3
theorem colR_std {ty : List UInt8 → Int} (hty : TyR ty) {l : List Token} {k : Nat} {c : Col} (hc : ColG c) (h : Std l k [nmTk c.name, nmTk (tySt c.type)]) : colR ty l (k, false) = c ∧ colQ l (k, false) = (k + 2, false) := by
  obtain ⟨h1, h2⟩ := nmP_std hc.1 (Std.left (a := [nmTk c.name]) (b := [nmTk (tySt c.type)]) h)
  obtain ⟨h3, h4⟩ := nmP_std (tySt_ok hc.2.1 hc.2.2) (Std.right (a := [nmTk c.name]) (b := [nmTk (tySt c.type)]) h)
  have e : k + [nmTk c.name].length = k + 1 := rfl
  rw [e] at h3 h4
  obtain ⟨nm, tp⟩ := c
  refine ⟨?_, by unfold colQ; rw [h2, h4]⟩
  unfold colR
  rw [h1, h2, h3, hty _ hc.2.1 hc.2.2]
theorem not_com {l : List Token} {k : Nat} (h : Std l k [sgTk [41]]) : isTk l (k, false) 5 [44] = false := by
  obtain ⟨y, h1, h2, h3⟩ := h 0 _ rfl
  simp only [Nat.add_zero] at h1
  simp only [sgTk] at h2 h3
  unfold isTk
  simp only [h1, h2, h3, Bool.not_false, decide_true, Bool.true_and]
  decide
theorem colsP_std {ty : List UInt8 → Int} (hty : TyR ty) {l : List Token} : ∀ (cs : List Col) (f k : Nat) (acc : List Col) (c : Col), (∀ x ∈ c :: cs, ColG x) → cs.length < f → Std l k ([nmTk c.name, nmTk (tySt c.type)] ++ (colsT 1 cs ++ [sgTk [41]])) →
    colsP ty l f (k, false) acc = (acc ++ c :: cs, (k + (2 + (colsT 1 cs).length), false))
  | [], 0, k, acc, c, _, h, _ => by simp at h
  | [], f + 1, k, acc, c, hg, _, hs => by
    obtain ⟨e1, e2⟩ := colR_std hty (hg c (by simp)) hs.left
    have e3 := not_com hs.right
    unfold colsP
    rw [e2, e1]
    simp only [List.length_cons, List.length_nil] at e3
    rw [if_neg (by rw [e3]; decide)]
    rfl
  | x :: cs, 0, k, acc, c, _, h, _ => by simp at h
  | x :: cs, f + 1, k, acc, c, hg, hf, hs => by
    obtain ⟨e1, e2⟩ := colR_std hty (hg c (by simp)) hs.left
    have hr := hs.right
    have hx : ∀ j, colsT j (x :: cs) = colT j x ++ colsT (j + 1) cs := fun _ => rfl
    have hz : ∀ (cs : List Col) j, colsT (j + 1) cs = colsT 1 cs := fun cs => by
      induction cs with
      | nil => intro j; rfl
      | cons y cs ih => intro j; unfold colsT; rw [ih (j + 1), ih 1]; rfl
    have hx1 : colsT 1 (x :: cs) = [sgTk [44]] ++ ([nmTk x.name, nmTk (tySt x.type)] ++ colsT 1 cs) := by
      rw [hx, hz cs 1]; rfl
    rw [hx1] at hr ⊢
    simp only [List.append_assoc] at hr
    obtain ⟨e3, _⟩ := sgP_std hr.left
    have hr2 := hr.right
    have ih := colsP_std hty cs f (k + [nmTk c.name, nmTk (tySt c.type)].length + [sgTk [44]].length) (acc ++ [c]) x (fun y hy => hg y (by simp at hy ⊢; exact .inr hy)) (by simpa using hf) (by simpa only [List.append_assoc] using hr2)
    simp only [List.length_cons, List.length_nil] at ih e3
    unfold colsP
    rw [e2, e1, if_pos e3]
    dsimp only
    rw [show k + 2 + 1 = k + (0 + 1 + 1) + (0 + 1) by omega, ih]
    simp only [List.append_assoc, List.cons_append, List.nil_append, List.length_cons, List.length_append, List.length_nil, Prod.mk.injEq, and_true, true_and]
    omega
theorem colsT_len : ∀ (cs : List Col) (k : Nat), 2 * cs.length ≤ (colsT k cs).length
  | [], _ => Nat.le_refl _
  | c :: cs, k => by
    have := colsT_len cs (k + 1)
    simp only [colsT, colT, List.length_append, List.length_cons, List.length_nil]
    omega
theorem Std.len {l ts : List Token} {k : Nat} (h : Std l k ts) (hne : ts ≠ []) : k + ts.length ≤ l.length := by
  have hp : 0 < ts.length := List.length_pos_iff.2 hne
  obtain ⟨y, h1, _⟩ := h (ts.length - 1) ts[ts.length - 1] (by simp [hp])
  have := (List.getElem?_eq_some_iff.1 h1).1
  omega
def TabG (t : Tab) : Prop := nameOk t.name = true ∧ t.cols ≠ [] ∧ ∀ c ∈ t.cols, ColG c
theorem tab_std {ty : List UInt8 → Int} (hty : TyR ty) {z : Bool} {l : List Token} {k : Nat} {t : Tab} (hg : TabG t) (hs : Std l k ([nmTk t.name, sgTk [40]] ++ (colsT 0 t.cols ++ [sgTk [41]]))) :
    tabX ty z l (k, false) = t ∧ tabQ ty z l (k, false) = (k + (2 + (colsT 0 t.cols).length + 1), false) := by
  obtain ⟨nm, cs⟩ := t
  obtain ⟨g1, g2, g3⟩ := hg
  dsimp only at g1 g2 g3 hs ⊢
  cases cs with
  | nil => exact absurd rfl g2
  | cons c cs =>
    have h0 : Std l k ([nmTk nm] ++ ([sgTk [40]] ++ (colsT 0 (c :: cs) ++ [sgTk [41]]))) := hs
    obtain ⟨e1, e2⟩ := nmP_std g1 h0.left
    obtain ⟨_, e3⟩ := sgP_std h0.right.left
    have h1 := h0.right.right
    simp only [List.length_cons, List.length_nil] at e2 e3 h1
    have hc0 : colsT 0 (c :: cs) = [nmTk c.name, nmTk (tySt c.type)] ++ colsT 1 cs := rfl
    have hlen := h1.len (by simp)
    have hl1 := colsT_len (c :: cs) 0
    rw [hc0] at h1
    have h2 := colsP_std hty cs (l.length + 1) (k + (0 + 1) + (0 + 1)) [] c g3 (by simp only [List.length_append, List.length_cons, List.length_nil] at hlen hl1; omega) (by simpa only [List.append_assoc] using h1)
    have e4 : sgP l [40] (nmP l (k, false)) = (k + (0 + 1) + (0 + 1), false) := by rw [e2, ← e3]
    have e5 : tabP ty z l (k, false) = (c :: cs, (k + (0 + 1) + (0 + 1) + (2 + (colsT 1 cs).length), false)) := by
      unfold tabP
      rw [e4]
      simp only [Bool.and_false, Bool.false_eq_true, if_false]
      rw [h2]
      rfl
    have h3 := h1.right
    simp only [List.length_append, List.length_cons, List.length_nil] at h3
    obtain ⟨_, e6⟩ := sgP_std h3
    refine ⟨?_, ?_⟩
    · unfold tabX
      rw [e1, e5]
    · unfold tabQ
      rw [e5]
      dsimp only
      rw [show k + (0 + 1) + (0 + 1) + (2 + (colsT 1 cs).length) = k + (0 + 1) + (0 + 1) + (0 + 1 + 1 + (colsT 1 cs).length) by omega, e6, hc0]
      simp only [List.length_append, List.length_cons, List.length_nil, Prod.mk.injEq, and_true]
      omega
theorem cat_std {ty : List UInt8 → Int} (hty : TyR ty) {z : Bool} {l : List Token} : ∀ (ts : List Tab) (f k : Nat) (acc : List Tab), (∀ t ∈ ts, TabG t) → ts.length < f → Std l k (tabsT acc.length ts) → k + (tabsT acc.length ts).length = l.length →
    catP ty z l f (k, false) acc = (acc ++ ts, (l.length, false))
  | ts, 0, k, acc, _, h, _, _ => by omega
  | [], f + 1, k, acc, _, _, _, he => by
    simp only [tabsT, List.length_nil, Nat.add_zero] at he
    unfold catP
    rw [if_pos (by simp [he]), he, List.append_nil]
  | t :: ts, f + 1, k, acc, hg, hf, hs, he => by
    have hx : tabsT acc.length (t :: ts) = cmT acc.length ++ (([nmTk t.name, sgTk [40]] ++ (colsT 0 t.cols ++ [sgTk [41]])) ++ tabsT (acc.length + 1) ts) := by
      show tabT acc.length t ++ tabsT (acc.length + 1) ts = _
      unfold tabT
      simp only [List.append_assoc]
    rw [hx] at hs he
    have hlt : k < l.length := by
      simp only [List.length_append, List.length_cons, List.length_nil] at he
      omega
    have hq : comQ l acc.length (k, false) = (k + (cmT acc.length).length, false) := by
      unfold comQ
      cases ha : acc.length with
      | zero => simp [cmT]
      | succ n =>
        rw [ha] at hs
        have := (sgP_std (k := k) (l := l) (b := [44]) (by exact hs.left)).2
        simp only [cmT, List.length_cons, List.length_nil]
        rw [if_neg (by omega), this]
    obtain ⟨e1, e2⟩ := tab_std hty (z := z) (hg t (by simp)) hs.right.left
    have h2 := hs.right.right
    have hl : (acc ++ [t]).length = acc.length + 1 := by simp
    unfold catP
    rw [if_neg (by simp; omega), hq, e1, e2]
    rw [cat_std hty ts f _ (acc ++ [t]) (fun x hx => hg x (by simp [hx])) (by simpa using hf) (by
      rw [hl]
      simp only [List.length_append, List.length_cons, List.length_nil] at h2
      rw [show k + (cmT acc.length).length + (2 + (colsT 0 t.cols).length + 1) = k + (cmT acc.length).length + (0 + 1 + 1 + ((colsT 0 t.cols).length + (0 + 1))) by omega]
      exact h2) (by
      rw [hl]
      simp only [List.length_append, List.length_cons, List.length_nil] at he
      omega)]
    simp
theorem allI_mem {α : Type} {p : Nat → α → Bool} : ∀ {xs : List α} {i : Nat}, allI p xs i = true → ∀ x ∈ xs, ∃ j, p j x = true
  | [], _, _, x, hx => by cases hx
  | y :: ys, i, h, x, hx => by
    simp only [allI, Bool.and_eq_true] at h
    cases hx with
    | head => exact ⟨i, h.1⟩
    | tail _ hx => exact allI_mem h.2 x hx
theorem catOk_good {c : Cat} (h : catOk c = true) : ∀ t ∈ c.tables, TabG t := by
  intro t ht
  simp only [catOk, Bool.and_eq_true] at h
  obtain ⟨i, hi⟩ := allI_mem h.2 t ht
  simp only [rowOk, tabOk, Bool.and_eq_true] at hi
  obtain ⟨⟨h1, h2, h3⟩, _⟩ := hi
  refine ⟨h1, fun e => ?_, fun x hx => ?_⟩
  · rw [e] at h2
    simp [inR] at h2
  · obtain ⟨j, hj⟩ := allI_mem h3 x hx
    simp only [colOk, Bool.and_eq_true, inR, decide_eq_true_eq] at hj
    exact ⟨hj.1, hj.2.1.1, hj.2.1.2⟩
theorem eqAll_std : ∀ {a b : List Token}, eqAll tokEq a b = true → a.length = b.length → ∀ (j : Nat) (x : Token), a[j]? = some x → ∃ y : Token, b[j]? = some y ∧ y.kind = x.kind ∧ y.text = x.text
  | [], _, _, _, j, x, hj => by simp at hj
  | a :: aa, [], _, hl, _, _, _ => by simp at hl
  | a :: aa, b :: bb, h, hl, j, x, hj => by
    simp only [eqAll, Bool.and_eq_true] at h
    cases j with
    | zero =>
      simp only [List.getElem?_cons_zero, Option.some.injEq] at hj
      subst hj
      have := h.1
      simp only [tokEq, Bool.and_eq_true, decide_eq_true_eq] at this
      exact ⟨b, rfl, this.1.symm, this.2.symm⟩
    | succ j =>
      simp only [List.getElem?_cons_succ] at hj ⊢
      exact eqAll_std h.2 (by simpa using hl) j x hj
theorem same_std {a b : List Token} (h : same tokEq a b = true) : a.length = b.length ∧ Std b 0 a := by
  have hl : a.length = b.length := by
    rcases Nat.lt_or_ge a.length b.length with h1 | h1
    · rw [same_ne (by omega)] at h; cases h
    · rcases Nat.lt_or_ge b.length a.length with h2 | h2
      · rw [same_ne (by omega)] at h; cases h
      · omega
  rw [same_eq (by omega)] at h
  exact ⟨hl, fun j x hj => by rw [Nat.zero_add]; exact eqAll_std h hl j x hj⟩
theorem tabsT_len : ∀ (ts : List Tab) (k : Nat), ts.length ≤ (tabsT k ts).length
  | [], _ => Nat.le_refl _
  | t :: ts, k => by
    have := tabsT_len ts (k + 1)
    simp only [tabsT, tabT, List.length_append, List.length_cons, List.length_nil]
    omega
theorem rcP_iff {ty : List UInt8 → Int} (hty : TyR ty) (z : Bool) (l : List Token) (c : Cat) : rcP ty z l = some c ↔ (catOk c = true ∧ same tokEq (tabsT 0 c.tables) l = true) := by
  constructor
  · intro h
    unfold rcP at h
    split at h
    · cases h
    · rename_i hn
      cases h
      simp only [Bool.or_eq_true, Bool.not_eq_true', not_or, Bool.not_eq_true, Bool.not_eq_false] at hn
      exact ⟨hn.1.2, hn.2⟩
  · rintro ⟨h1, h2⟩
    obtain ⟨hl, hs⟩ := same_std h2
    have := tabsT_len c.tables 0
    have e : readC ty z l = (c.tables, (l.length, false)) := by
      unfold readC
      rw [cat_std hty (z := z) c.tables (l.length + 2) 0 [] (catOk_good h1) (by omega) hs (by simpa using hl)]
      rfl
    unfold rcP
    rw [e]
    dsimp only
    have e1 : (Cat.mk c.tables) = c := rfl
    rw [e1, h1, h2]
    rfl
theorem rcP_same {ty ty' : List UInt8 → Int} (h : TyR ty) (h' : TyR ty') (z z' : Bool) (l : List Token) : rcP ty z l = rcP ty' z' l := by
  apply Option.ext
  intro c
  rw [rcP_iff h, rcP_iff h']
theorem rcP_kind {ty : List UInt8 → Int} (hty : TyR ty) {z : Bool} {l : List Token} {c : Cat} (h : rcP ty z l = some c) : ∀ x ∈ l, x.kind ≠ 3 := by
  obtain ⟨_, h2⟩ := (rcP_iff hty z l c).1 h
  obtain ⟨hl, hs⟩ := same_std h2
  intro x hx
  obtain ⟨j, hj, rfl⟩ := List.getElem_of_mem hx
  have hj2 : j < (tabsT 0 c.tables).length := by omega
  obtain ⟨y, h3, h4, _⟩ := hs j (tabsT 0 c.tables)[j] (by simp [hj2])
  rw [Nat.zero_add, List.getElem?_eq_getElem hj] at h3
  cases h3
  rw [h4]
  exact tabsT_kind _ _ _ (List.getElem_mem hj2)

end Go.Proofs.YtbnbmcplmipgdaaGreatDoor
