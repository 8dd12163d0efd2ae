/-
  The books of a walk: which memory of one's own holds which data; slices that are appended to; calls that lend, mark and look; loops. Own work; no condition.
-/
import Derived.Test.YtbnbmcplmipgdaaGreatDoorVOwn
namespace Go.Proofs.YtbnbmcplmipgdaaGreatDoor
open Go
/-! ### Values in memory of one's own -/
def SameOn (s s' : S) (p : Bool × Nat) : Prop := (p.1 = true → s'.vars p.2 = s.vars p.2) ∧ (p.1 = false → s'.fams p.2 = s.fams p.2)
theorem SameOn.lt {s : S} {xs : List Own} {p : Bool × Nat} (h : p.2 < s.next) : SameOn s (s.ext xs) p := ⟨fun _ => ext_vars_lt _ _ h, fun _ => ext_fams_lt _ _ h⟩
mutual
inductive Pc (s : S) : V → V → List (Bool × Nat) → Prop
  | thw {n d v} : v = (thw n d).1 → d.plain = true → HasV s n (thw n d).2 → Pc s v d (vl n (cv d))
  | zsl : Pc s .zsl (.sl 0 []) []
  | nilsl : Pc s .nilsl (.sl 0 []) []
  | emp {id} : Pc s (.sl id []) (.sl 0 []) []
  | sl {id us ds sz sz' ls} : us.isEmpty = false → (∀ x ∈ ds, x.cells.length = sz') → s.fams id = some (us.length, sz) → PcL s us ds ls → Pc s (.sl id us) (.sl 0 ds) (ls ++ [(false, id)])
  | agg {cs ds ls} : PcL s cs ds ls → Pc s (.agg cs) (.agg ds) ls
inductive PcL (s : S) : List V → List V → List (Bool × Nat) → Prop
  | nil : PcL s [] [] []
  | cons {v vs d ds a b} : Pc s v d a → PcL s vs ds b → PcL s (v :: vs) (d :: ds) (a ++ b)
end
theorem PcL.len {s : S} : ∀ {vs ds : List V} {ls : List (Bool × Nat)}, PcL s vs ds ls → ds.length = vs.length
  | _, _, _, .nil => rfl
  | _, _, _, .cons _ t => by simp [PcL.len t]
theorem TrL.one {s : S} {v d : V} {ls : List (Bool × Nat)} (h : Tr s v d ls) : TrL s [v] [d] ls := by
  have := TrL.cons h TrL.nil
  rwa [List.append_nil] at this
mutual
theorem Pc.tr {s : S} : ∀ {v d : V} {ls : List (Bool × Nat)}, Pc s v d ls → Tr s v d ls ∧ TrL s v.cells d.cells ls
  | _, _, _, .thw e hp hv => by subst e; exact ⟨Tr_thw _ _ hp hv, Tr_cells _ _ hp hv⟩
  | _, _, _, .zsl => ⟨.zsl, .one .zsl⟩
  | _, _, _, .nilsl => ⟨.nilsl, .one .nilsl⟩
  | _, _, _, .emp => ⟨.emp, .one .emp⟩
  | _, _, _, .sl h1 h2 h3 h4 => by
    have k : Tr s _ _ _ := .sl h1 h4.len.symm h2 h3 h4.tr.2
    exact ⟨k, .one k⟩
  | _, _, _, .agg h => ⟨.agg h.tr.1, h.tr.1⟩
theorem PcL.tr {s : S} : ∀ {vs ds : List V} {ls : List (Bool × Nat)}, PcL s vs ds ls → TrL s vs ds ls ∧ TrL s (V.flat vs) (V.flat ds) ls
  | _, _, _, .nil => ⟨.nil, .nil⟩
  | _, _, _, .cons h t => ⟨.cons h.tr.1 t.tr.1, by rw [flat_cons, flat_cons]; exact h.tr.2.append t.tr.2⟩
end
mutual
theorem Pc.rd {s : S} : ∀ {v d : V} {ls : List (Bool × Nat)}, Pc s v d ls → Rd s v d
  | _, _, _, .thw e hp hv => by subst e; exact Rd_thw _ _ hp hv
  | _, _, _, .zsl => .zsl
  | _, _, _, .nilsl => .nilsl
  | _, _, _, .emp => .sl .nil
  | _, _, _, .sl _ _ _ h => .sl h.rd
  | _, _, _, .agg h => .agg h.rd
theorem PcL.rd {s : S} : ∀ {vs ds : List V} {ls : List (Bool × Nat)}, PcL s vs ds ls → RdL s vs ds
  | _, _, _, .nil => .nil
  | _, _, _, .cons h t => .cons h.rd t.rd
end
mutual
theorem Pc.congr {s s' : S} : ∀ {v d : V} {ls : List (Bool × Nat)}, Pc s v d ls → (∀ p ∈ ls, SameOn s s' p) → Pc s' v d ls
  | _, _, _, .thw (n := n) (d := d) e hp hv, h => by
    refine .thw e hp fun j p hj => ?_
    have hlt := (List.getElem?_eq_some_iff.1 hj).1
    rw [thw_cv] at hlt
    rw [(h (true, n + j) (by rw [mem_vl]; exact ⟨rfl, by simp only; omega, by simp only; omega⟩)).1 rfl]
    exact hv j p hj
  | _, _, _, .zsl, _ => .zsl
  | _, _, _, .nilsl, _ => .nilsl
  | _, _, _, .emp, _ => .emp
  | _, _, _, .sl (id := id) h1 h2 h3 h4, h => .sl h1 h2 (by rw [(h (false, id) (by simp)).2 rfl]; exact h3) (h4.congr fun p hp => h p (List.mem_append_left _ hp))
  | _, _, _, .agg h1, h => .agg (h1.congr h)
theorem PcL.congr {s s' : S} : ∀ {vs ds : List V} {ls : List (Bool × Nat)}, PcL s vs ds ls → (∀ p ∈ ls, SameOn s s' p) → PcL s' vs ds ls
  | _, _, _, .nil, _ => .nil
  | _, _, _, .cons h1 t, h => .cons (h1.congr fun p hp => h p (List.mem_append_left _ hp)) (t.congr fun p hp => h p (List.mem_append_right _ hp))
end
theorem PcL.append {s : S} : ∀ {vs ds : List V} {ls : List (Bool × Nat)} {ws es : List V} {ms : List (Bool × Nat)}, PcL s vs ds ls → PcL s ws es ms → PcL s (vs ++ ws) (ds ++ es) (ls ++ ms)
  | _, _, _, _, _, _, .nil, k => k
  | _, _, _, _, _, _, .cons h t, k => by rw [List.append_assoc]; exact .cons h (t.append k)
mutual
theorem thw_cv0 : ∀ (v : V) (n : Nat), v.plain = true → cv v = 0 → thw n v = (v, [])
  | .agg cs, n, h, hc => by
    have := thwL_cv0 cs n h hc
    simp only [thw, this]
  | .sl id xs, n, h, hc => by
    simp only [V.plain, Bool.and_eq_true, beq_iff_eq] at h
    simp only [cv] at hc
    unfold thw
    cases hx : xs.isEmpty with
    | true =>
      have : xs = [] := by simpa using hx
      subst this
      obtain ⟨⟨rfl, _⟩, _⟩ := h
      rfl
    | false => rw [hx] at hc; simp at hc
  | .int _ _, n, h, hc | .bool _, n, h, hc | .str _, n, h, hc | .nilp, n, h, hc | .und, n, h, hc => rfl
  | .tup _, n, h, hc | .ptr _ _, n, h, hc | .eptr _ _, n, h, hc | .zsl, n, h, hc | .nilsl, n, h, hc | .slm _ _ _ _, n, h, hc | .fn _ _, n, h, hc | .raw _, n, h, hc => by cases h
theorem thwL_cv0 : ∀ (vs : List V) (n : Nat), V.plainL vs = true → cvL vs = 0 → thwL n vs = (vs, [])
  | [], n, h, hc => rfl
  | v :: vs, n, h, hc => by
    simp only [V.plainL, Bool.and_eq_true] at h
    simp only [cvL] at hc
    have h1 := thw_cv0 v n h.1 (by omega)
    unfold thwL
    simp only [h1, List.length_nil, Nat.add_zero, thwL_cv0 vs n h.2 (by omega), List.append_nil]
end
theorem hasV_nil (s : S) (n : Nat) : HasV s n [] := fun j p hj => by simp at hj
theorem Pc.pl {s : S} {v : V} (h : v.plain = true) (hc : cv v = 0) : Pc s v v [] := by
  have e := thw_cv0 v 0 h hc
  have := Pc.thw (s := s) (n := 0) (d := v) (v := v) (by rw [e]) h (by rw [e]; exact hasV_nil s 0)
  rw [hc] at this
  exact this
theorem PcL.pl {s : S} : ∀ {vs : List V}, V.plainL vs = true → cvL vs = 0 → PcL s vs vs []
  | [], _, _ => .nil
  | v :: vs, h, hc => by
    simp only [V.plainL, Bool.and_eq_true] at h
    simp only [cvL] at hc
    exact .cons (a := []) (Pc.pl h.1 (by omega)) (PcL.pl h.2 (by omega))
/-! ### What is left of what one holds -/
def LeL (a b : List (Bool × Nat)) : Prop := (b.Nodup → a.Nodup) ∧ ∀ p ∈ a, p ∈ b
theorem LeL.refl (a : List (Bool × Nat)) : LeL a a := ⟨id, fun _ h => h⟩
theorem LeL.trans {a b c : List (Bool × Nat)} (h : LeL a b) (k : LeL b c) : LeL a c := ⟨fun n => h.1 (k.1 n), fun p hp => k.2 p (h.2 p hp)⟩
theorem LeL.app {a a' b b' : List (Bool × Nat)} (h : LeL a a') (k : LeL b b') : LeL (a ++ b) (a' ++ b') := by
  refine ⟨fun n => ?_, fun p hp => ?_⟩
  · rw [List.nodup_append] at n ⊢
    exact ⟨h.1 n.1, k.1 n.2.1, fun x hx y hy => n.2.2 x (h.2 x hx) y (k.2 y hy)⟩
  · rcases List.mem_append.1 hp with hp | hp
    · exact List.mem_append_left _ (h.2 p hp)
    · exact List.mem_append_right _ (k.2 p hp)
theorem LeL.comm (a b : List (Bool × Nat)) : LeL (a ++ b) (b ++ a) := by
  refine ⟨fun n => ?_, fun p hp => ?_⟩
  · rw [List.nodup_append] at n ⊢
    exact ⟨n.2.1, n.1, fun x hx y hy e => n.2.2 y hy x hx e.symm⟩
  · rcases List.mem_append.1 hp with hp | hp
    · exact List.mem_append_right _ hp
    · exact List.mem_append_left _ hp
theorem LeL.left (a b : List (Bool × Nat)) : LeL a (a ++ b) := ⟨fun n => (List.nodup_append.1 n).1, fun _ h => List.mem_append_left _ h⟩
theorem LeL.right (a b : List (Bool × Nat)) : LeL b (a ++ b) := ⟨fun n => (List.nodup_append.1 n).2.1, fun _ h => List.mem_append_right _ h⟩
theorem LeL.swap (a b c : List (Bool × Nat)) : LeL (a ++ (b ++ c)) (b ++ (a ++ c)) := by
  rw [← List.append_assoc, ← List.append_assoc]
  exact (LeL.comm a b).app (LeL.refl c)
/-! ### Values in memory of one's own, of known capacity -/
mutual
inductive Ow (s : S) : V → V → List (Bool × Nat) → Prop
  | scal {v} : v.scal = true → Ow s v v []
  | slm0 : Ow s (.slm (.is 0) 0 0 0) (.sl 0 []) []
  | slc {l n c sz us ds rest ls} : s.vars l = some (V.flat us ++ rest) → us.length = n → (∀ u ∈ us, u.cells.length = sz) → rest.length = (c - n) * sz → n ≤ c → us ≠ [] → OwL s us ds ls → Ow s (.slm (.is c) l 0 n) (.sl 0 ds) (ls ++ [(true, l)])
  | agg {cs ds ls} : OwL s cs ds ls → Ow s (.agg cs) (.agg ds) ls
inductive OwL (s : S) : List V → List V → List (Bool × Nat) → Prop
  | nil : OwL s [] [] []
  | cons {v vs d ds a b} : Ow s v d a → OwL s vs ds b → OwL s (v :: vs) (d :: ds) (a ++ b)
end
theorem OwL.len {s : S} : ∀ {vs ds : List V} {ls : List (Bool × Nat)}, OwL s vs ds ls → ds.length = vs.length
  | _, _, _, .nil => rfl
  | _, _, _, .cons _ t => by simp [OwL.len t]
mutual
theorem Ow.congr {s s' : S} : ∀ {v d : V} {ls : List (Bool × Nat)}, Ow s v d ls → (∀ p ∈ ls, SameOn s s' p) → Ow s' v d ls
  | _, _, _, .scal h, _ => .scal h
  | _, _, _, .slm0, _ => .slm0
  | _, _, _, .slc (l := l) h1 h2 h3 h4 h5 h0 h6, h => .slc (by rw [(h (true, l) (by simp)).1 rfl]; exact h1) h2 h3 h4 h5 h0 (h6.congr fun p hp => h p (List.mem_append_left _ hp))
  | _, _, _, .agg h1, h => .agg (h1.congr h)
theorem OwL.congr {s s' : S} : ∀ {vs ds : List V} {ls : List (Bool × Nat)}, OwL s vs ds ls → (∀ p ∈ ls, SameOn s s' p) → OwL s' vs ds ls
  | _, _, _, .nil, _ => .nil
  | _, _, _, .cons h1 t, h => .cons (h1.congr fun p hp => h p (List.mem_append_left _ hp)) (t.congr fun p hp => h p (List.mem_append_right _ hp))
end
mutual
theorem Ow.rd {s : S} : ∀ {v d : V} {ls : List (Bool × Nat)}, Ow s v d ls → Rd s v d
  | _, _, _, .scal h => .scal h
  | _, _, _, .slm0 => .slm0
  | _, _, _, .slc h1 h2 h3 _ _ _ h6 => .slm h1 h2 h3 h6.rd
  | _, _, _, .agg h => .agg h.rd
theorem OwL.rd {s : S} : ∀ {vs ds : List V} {ls : List (Bool × Nat)}, OwL s vs ds ls → RdL s vs ds
  | _, _, _, .nil => .nil
  | _, _, _, .cons h t => .cons h.rd t.rd
end
theorem OwL.append {s : S} : ∀ {vs ds : List V} {ls : List (Bool × Nat)} {ws es : List V} {ms : List (Bool × Nat)}, OwL s vs ds ls → OwL s ws es ms → OwL s (vs ++ ws) (ds ++ es) (ls ++ ms)
  | _, _, _, _, _, _, .nil, k => k
  | _, _, _, _, _, _, .cons h t, k => by rw [List.append_assoc]; exact .cons h (t.append k)
theorem OwL.split {s : S} : ∀ {ds es vs : List V} {ls : List (Bool × Nat)}, OwL s vs (ds ++ es) ls → ∃ a b la lb, vs = a ++ b ∧ ls = la ++ lb ∧ OwL s a ds la ∧ OwL s b es lb
  | [], es, vs, ls, h => ⟨[], vs, [], ls, rfl, rfl, .nil, h⟩
  | d :: ds, es, vs, ls, h => by
    cases h with
    | @cons v vs _ _ a b h1 h2 =>
      obtain ⟨a', b', la, lb, rfl, rfl, k1, k2⟩ := h2.split
      exact ⟨v :: a', b', a ++ la, lb, rfl, by rw [List.append_assoc], .cons h1 k1, k2⟩
mutual
theorem Ow.vars {s : S} : ∀ {v d : V} {ls : List (Bool × Nat)}, Ow s v d ls → ∀ p ∈ ls, p.1 = true ∧ (s.vars p.2).isSome = true
  | _, _, _, .scal h => fun p hp => by cases hp
  | _, _, _, .slm0 => fun p hp => by cases hp
  | _, _, _, .slc h1 _ _ _ _ _ h6 => fun p hp => by
    rcases List.mem_append.1 hp with hp | hp
    · exact h6.vars p hp
    · rw [List.mem_singleton] at hp
      subst hp
      exact ⟨rfl, by rw [h1]; rfl⟩
  | _, _, _, .agg h => h.vars
theorem OwL.vars {s : S} : ∀ {vs ds : List V} {ls : List (Bool × Nat)}, OwL s vs ds ls → ∀ p ∈ ls, p.1 = true ∧ (s.vars p.2).isSome = true
  | _, _, _, .nil => fun p hp => by cases hp
  | _, _, _, .cons h t => fun p hp => by
    rcases List.mem_append.1 hp with hp | hp
    · exact h.vars p hp
    · exact t.vars p hp
end
/-! ### The books -/
inductive BE where
  | blk (n : Nat) (d : V)
  | cell (l : Nat) (cs : List V)
  | acc (id sz : Nat) (us ds : List V)
  | fac (id sz : Nat) (us : List V)
  | own (v d : V)
def BOk (s : S) : BE → List (Bool × Nat) → Prop
  | .blk n d, ls => ls = vl n (cv d) ∧ d.plain = true ∧ HasV s n (thw n d).2 ∧ n + cv d ≤ s.next
  | .cell l cs, ls => ls = [(true, l)] ∧ s.vars l = some cs
  | .acc id sz us ds, ls => ∃ l1, ls = l1 ++ [(false, id)] ∧ PcL s us ds l1 ∧ s.fams id = some (us.length, sz) ∧ ∀ d ∈ ds, d.cells.length = sz
  | .fac id sz us, ls => ls = [(false, id)] ∧ s.fams id = some (us.length, sz)
  | .own v d, ls => Ow s v d ls
inductive HoldL (s : S) : List BE → List (Bool × Nat) → Prop
  | nil : HoldL s [] []
  | cons {e a H b} : BOk s e a → HoldL s H b → HoldL s (e :: H) (a ++ b)
structure Hold (s : S) (b : Nat) (H : List BE) : Prop where
  ex : ∃ ls, HoldL s H ls ∧ ls.Nodup ∧ ∀ p ∈ ls, p.2 < b
theorem Hold.start (s : S) (b : Nat) : Hold s b [] := ⟨[], .nil, List.nodup_nil, fun p hp => by cases hp⟩
theorem BOk.congr {s s' : S} (hn : s.next ≤ s'.next) : ∀ {e : BE} {ls : List (Bool × Nat)}, BOk s e ls → (∀ p ∈ ls, SameOn s s' p) → BOk s' e ls
  | .blk n d, ls, ⟨h1, h2, h3, h4⟩, h => by
    subst h1
    refine ⟨rfl, h2, fun j p hj => ?_, by omega⟩
    have hlt := (List.getElem?_eq_some_iff.1 hj).1
    rw [thw_cv] at hlt
    rw [(h (true, n + j) (by rw [mem_vl]; exact ⟨rfl, by simp only; omega, by simp only; omega⟩)).1 rfl]
    exact h3 j p hj
  | .cell l cs, ls, ⟨h1, h2⟩, h => by
    subst h1
    exact ⟨rfl, by rw [(h (true, l) (by simp)).1 rfl]; exact h2⟩
  | .acc id sz us ds, ls, ⟨l1, h1, h2, h3, h4⟩, h => by
    subst h1
    exact ⟨l1, rfl, h2.congr fun p hp => h p (List.mem_append_left _ hp), by rw [(h (false, id) (by simp)).2 rfl]; exact h3, h4⟩
  | .fac id sz us, ls, ⟨h1, h2⟩, h => by
    subst h1
    exact ⟨rfl, by rw [(h (false, id) (by simp)).2 rfl]; exact h2⟩
  | .own v d, ls, h1, h => Ow.congr h1 h
theorem HoldL.congr {s s' : S} (hn : s.next ≤ s'.next) : ∀ {H : List BE} {ls : List (Bool × Nat)}, HoldL s H ls → (∀ p ∈ ls, SameOn s s' p) → HoldL s' H ls
  | _, _, .nil, _ => .nil
  | _, _, .cons h1 t, h => .cons (h1.congr hn fun p hp => h p (List.mem_append_left _ hp)) (t.congr hn fun p hp => h p (List.mem_append_right _ hp))
def eraO {α : Type} : List α → Nat → Option (List α)
  | [], _ => none
  | _ :: l, 0 => some l
  | x :: l, n + 1 => match eraO l n with
    | some r => some (x :: r)
    | none => none
inductive Pick : List BE → BE → List BE → Prop
  | here {e H} : Pick (e :: H) e H
  | there {x e H H'} : Pick H e H' → Pick (x :: H) e (x :: H')
theorem Pick.idx : ∀ {H H' : List BE} {e : BE}, Pick H e H' → ∃ i, nthO H i = some e ∧ eraO H i = some H'
  | _, _, _, .here => ⟨0, rfl, rfl⟩
  | _, _, _, .there h => by
    obtain ⟨i, h1, h2⟩ := h.idx
    exact ⟨i + 1, h1, by simp only [eraO, h2]⟩
theorem HoldL.take {s : S} : ∀ {H : List BE} {ls : List (Bool × Nat)} {i : Nat} {e : BE} {H' : List BE}, HoldL s H ls → nthO H i = some e → eraO H i = some H' → ∃ a l', BOk s e a ∧ HoldL s H' l' ∧ LeL (a ++ l') ls
  | _ :: _, _, 0, e, H', .cons h1 t, hi, he => by
    cases hi
    cases he
    exact ⟨_, _, h1, t, LeL.refl _⟩
  | x :: H, _, i + 1, e, H', .cons (a := a0) (b := b0) h1 t, hi, he => by
    simp only [eraO] at he
    cases hq : eraO H i with
    | none => rw [hq] at he; cases he
    | some r =>
      rw [hq] at he
      cases he
      obtain ⟨a, l', k1, k2, k3⟩ := HoldL.take t (show nthO H i = some e from hi) hq
      exact ⟨a, a0 ++ l', k1, .cons h1 k2, (LeL.swap a a0 l').trans ((LeL.refl a0).app k3)⟩
theorem HoldL.put {s : S} : ∀ {H : List BE} {i : Nat} {e' : BE} {H' H2 : List BE} {a l' : List (Bool × Nat)}, eraO H i = some H' → setO H i e' = some H2 → HoldL s H' l' → BOk s e' a → ∃ q, HoldL s H2 q ∧ LeL q (a ++ l')
  | _ :: _, 0, e', H', H2, a, l', he, hs, h, hb => by
    cases he
    cases hs
    exact ⟨_, .cons hb h, LeL.refl _⟩
  | x :: H, i + 1, e', H', H2, a, l', he, hs, h, hb => by
    simp only [eraO] at he
    simp only [setO] at hs
    cases hq : eraO H i with
    | none => rw [hq] at he; cases he
    | some r =>
      rw [hq] at he
      cases he
      cases hq2 : setO H i e' with
      | none => rw [hq2] at hs; cases hs
      | some r2 =>
        rw [hq2] at hs
        cases hs
        cases h with
        | cons h1 t =>
          rename_i a0 b0
          obtain ⟨q, k1, k2⟩ := HoldL.put hq hq2 t hb
          exact ⟨a0 ++ q, .cons h1 k1, ((LeL.refl a0).app k2).trans (LeL.swap a0 a b0)⟩
theorem eraO_of : ∀ {H : List BE} {i : Nat} {e : BE}, nthO H i = some e → ∃ H', eraO H i = some H'
  | _ :: H, 0, _, _ => ⟨H, rfl⟩
  | x :: H, i + 1, e, h => by
    obtain ⟨r, hr⟩ := eraO_of (H := H) (i := i) (e := e) h
    exact ⟨x :: r, by simp only [eraO, hr]⟩
theorem nthO_of : ∀ {H : List BE} {e : BE}, e ∈ H → ∃ i, nthO H i = some e
  | x :: H, e, h => by
    rcases List.mem_cons.1 h with rfl | h
    · exact ⟨0, rfl⟩
    · obtain ⟨i, hi⟩ := nthO_of h
      exact ⟨i + 1, hi⟩
theorem Hold.at {s : S} {b : Nat} {H : List BE} {e : BE} (h : Hold s b H) (hm : e ∈ H) : ∃ a, BOk s e a ∧ ∀ p ∈ a, p.2 < b := by
  obtain ⟨ls, h1, h2, h3⟩ := h.ex
  obtain ⟨i, hi⟩ := nthO_of hm
  obtain ⟨H', he⟩ := eraO_of hi
  obtain ⟨a, l', k1, k2, k3⟩ := h1.take hi he
  exact ⟨a, k1, fun p hp => h3 p (k3.2 p (List.mem_append_left _ hp))⟩
theorem Hold.get {s : S} {H : List BE} {b n : Nat} {d : V} (h : Hold s b H) (hm : BE.blk n d ∈ H) : n + cv d ≤ s.next ∧ d.plain = true ∧ HasV s n (thw n d).2 := by
  obtain ⟨a, ⟨h1, h2, h3, h4⟩, h5⟩ := h.at hm
  exact ⟨h4, h2, h3⟩
theorem Hold.cell {s : S} {H : List BE} {b l : Nat} {cs : List V} (h : Hold s b H) (hm : BE.cell l cs ∈ H) : l + 1 ≤ b ∧ s.vars l = some cs := by
  obtain ⟨a, ⟨h1, h2⟩, h5⟩ := h.at hm
  exact ⟨h5 (true, l) (by rw [h1]; simp), h2⟩
theorem Hold.accOk {s : S} {H : List BE} {b id sz : Nat} {us ds : List V} (h : Hold s b H) (hm : BE.acc id sz us ds ∈ H) : id < b ∧ s.fams id = some (us.length, sz) ∧ us.length = ds.length ∧ RdL s us ds := by
  obtain ⟨a, ⟨l1, h1, h2, h3, h4⟩, h5⟩ := h.at hm
  exact ⟨h5 (false, id) (by rw [h1]; simp), h3, h2.len.symm, h2.rd⟩
theorem Hold.ext {s : S} {H : List BE} (h : Hold s s.next H) (xs : List Own) : Hold (s.ext xs) (s.ext xs).next H := by
  obtain ⟨ls, h1, h2, h3⟩ := h.ex
  exact ⟨ls, h1.congr (by rw [ext_next]; omega) fun p hp => .lt (h3 p hp), h2, fun p hp => by have := h3 p hp; rw [ext_next]; omega⟩
/-- One more, in what was made just now. -/
theorem Hold.more {s : S} {H : List BE} (h : Hold s s.next H) {e : BE} {a : List (Bool × Nat)} {xs : List Own} (he : BOk (s.ext xs) e a) (hn : a.Nodup) (hlo : ∀ p ∈ a, s.next ≤ p.2 ∧ p.2 < s.next + xs.length) : Hold (s.ext xs) (s.ext xs).next (e :: H) := by
  obtain ⟨ls, h1, h2, h3⟩ := h.ex
  refine ⟨a ++ ls, .cons he (h1.congr (by rw [ext_next]; omega) fun p hp => .lt (h3 p hp)), ?_, fun p hp => ?_⟩
  · rw [List.nodup_append]
    exact ⟨hn, h2, fun x hx y hy e => by have h4 := (hlo x hx).1; have h5 := h3 y hy; rw [e] at h4; omega⟩
  · rw [ext_next]
    rcases List.mem_append.1 hp with hp | hp
    · exact (hlo p hp).2
    · have := h3 p hp; omega
theorem Hold.push {s : S} {H : List BE} {d : V} (h : Hold s s.next H) (hd : d.plain = true) : Hold (s.ext (thawed s.next d)) (s.ext (thawed s.next d)).next (.blk s.next d :: H) := by
  refine h.more (e := .blk s.next d) (a := vl s.next (cv d)) ⟨rfl, hd, ?_, by rw [ext_next, thawed_length]; exact Nat.le_refl _⟩ (vl_nodup _ _) fun p hp => ?_
  · exact HasV.extC (s := s) [] (d := d) (m := s.next) (by simp)
  · rw [mem_vl] at hp
    rw [thawed_length]
    exact ⟨hp.2.1, hp.2.2⟩
theorem Hold.new {s : S} {H : List BE} (h : Hold s s.next H) (cs : List V) : Hold (s.ext [.var cs]) (s.ext [.var cs]).next (.cell s.next cs :: H) := by
  refine h.more (e := .cell s.next cs) (a := [(true, s.next)]) ⟨rfl, by rw [ext_vars0]; rfl⟩ (by simp) fun p hp => ?_
  simp only [List.mem_singleton] at hp
  subst hp
  simp
/-- What holds at one place may change. -/
theorem Hold.turn {s s' : S} {b i : Nat} {H H' : List BE} {e e' : BE} (h : Hold s b H) (hi : nthO H i = some e) (hs : setO H i e' = some H') (hn : s.next ≤ s'.next)
    (hf : ∀ a, BOk s e a → BOk s' e' a ∧ ∀ p, p ∉ a → SameOn s s' p) : Hold s' b H' := by
  obtain ⟨ls, h1, h2, h3⟩ := h.ex
  obtain ⟨H1, he⟩ := eraO_of hi
  obtain ⟨a, l', k1, k2, k3⟩ := h1.take hi he
  obtain ⟨k4, k5⟩ := hf a k1
  have hnd := k3.1 h2
  rw [List.nodup_append] at hnd
  have k6 := k2.congr hn fun p hp => k5 p fun hpa => hnd.2.2 p hpa p hp rfl
  obtain ⟨q, k7, k8⟩ := k6.put he hs k4
  exact ⟨q, k7, (k8.trans k3).1 h2, fun p hp => h3 p ((k8.trans k3).2 p hp)⟩
theorem blk_out {s : S} {n : Nat} {B : List (Nat × List V)} {l : Nat} (h : l < n ∨ n + B.length ≤ l) : (s.blk n B).vars l = s.vars l := by
  show (if n ≤ l ∧ l < n + B.length then _ else _) = _
  rw [if_neg (by omega)]
theorem blk_in {s : S} {n : Nat} {B : List (Nat × List V)} : HasV (s.blk n B) n B := fun j p hj => by
  have hlt := (List.getElem?_eq_some_iff.1 hj).1
  show (if n ≤ n + j ∧ n + j < n + B.length then _ else _) = _
  rw [if_pos (by omega), Nat.add_sub_cancel_left, hj]
  rfl
theorem Hold.blk {s : S} {H : List BE} {b i n : Nat} {d d' : V} (h : Hold s b H) (hi : nthO H i = some (.blk n d)) (hc : cv d' = cv d) (hp : d'.plain = true) {H' : List BE} (hs : setO H i (.blk n d') = some H') : Hold (s.blk n (thw n d').2) b H' := by
  refine h.turn (s' := s.blk n (thw n d').2) hi hs (Nat.le_refl s.next) ?_
  rintro a ⟨rfl, h2, h3, h4⟩
  refine ⟨⟨by rw [hc], hp, blk_in, by rw [hc]; exact h4⟩, fun p hpn => ⟨fun e => blk_out ?_, fun _ => rfl⟩⟩
  rw [thw_cv, hc]
  have : ¬ (n ≤ p.2 ∧ p.2 < n + cv d) := fun k => hpn (by rw [mem_vl]; exact ⟨e, k⟩)
  omega
theorem Hold.set {s : S} {H : List BE} {b i k : Nat} {cs cs' : List V} (h : Hold s b H) (hi : nthO H i = some (.cell k cs)) {H' : List BE} (hs : setO H i (.cell k cs') = some H') : Hold (s.setVar k cs') b H' := by
  refine h.turn (s' := s.setVar k cs') hi hs (Nat.le_refl s.next) ?_
  rintro a ⟨rfl, h2⟩
  refine ⟨⟨rfl, by simp [S.setVar]⟩, fun p hpn => ⟨fun e => ?_, fun _ => rfl⟩⟩
  obtain ⟨p1, p2⟩ := p
  simp only at e
  subst e
  simp only [List.mem_singleton, Prod.mk.injEq, true_and] at hpn
  simp [S.setVar, hpn]
/-! ### What a value is made of, taken out of the books -/
mutual
inductive Cons : List BE → V → V → List BE → Prop
  | pl {H v} : v.plain = true → cv v = 0 → Cons H v v H
  | blk {H H' n d v} (i : Nat) : nthO H i = some (.blk n d) → v = (thw n d).1 → eraO H i = some H' → Cons H v d H'
  | acc {H H' id sz us ds} (i : Nat) : nthO H i = some (.acc id sz us ds) → eraO H i = some H' → Cons H (.sl id us) (.sl 0 ds) H'
  | zsl {H} : Cons H .zsl (.sl 0 []) H
  | nilsl {H} : Cons H .nilsl (.sl 0 []) H
  | agg {H H' vs ds} : ConsL H vs ds H' → Cons H (.agg vs) (.agg ds) H'
inductive ConsL : List BE → List V → List V → List BE → Prop
  | nil {H} : ConsL H [] [] H
  | pls {H vs} : V.plainL vs = true → cvL vs = 0 → ConsL H vs vs H
  | cons {H H1 H2 v d vs ds} : Cons H v d H1 → ConsL H1 vs ds H2 → ConsL H (v :: vs) (d :: ds) H2
end
theorem Cons.bp {H H' : List BE} {n : Nat} {d : V} (h : Pick H (.blk n d) H') : Cons H (thw n d).1 d H' := by
  obtain ⟨i, h1, h2⟩ := h.idx
  exact .blk i h1 rfl h2
theorem Cons.ap {H H' : List BE} {id sz : Nat} {us ds : List V} (h : Pick H (.acc id sz us ds) H') : Cons H (.sl id us) (.sl 0 ds) H' := by
  obtain ⟨i, h1, h2⟩ := h.idx
  exact .acc i h1 h2
mutual
theorem Cons.sound {s : S} : ∀ {H H' : List BE} {v d : V}, Cons H v d H' → ∀ {ls : List (Bool × Nat)}, HoldL s H ls → ∃ a l', Pc s v d a ∧ HoldL s H' l' ∧ LeL (a ++ l') ls
  | _, _, _, _, .pl h1 h2, ls, h => ⟨[], ls, .pl h1 h2, h, LeL.refl _⟩
  | _, _, _, _, .blk i h1 h2 h3, ls, h => by
    obtain ⟨a, l', ⟨k1, k2, k3, k4⟩, k5, k6⟩ := h.take h1 h3
    subst k1
    exact ⟨_, l', .thw h2 k2 k3, k5, k6⟩
  | _, _, _, _, .acc (us := us) (ds := ds) i h1 h3, ls, h => by
    obtain ⟨a, l', ⟨l1, k1, k2, k3, k4⟩, k5, k6⟩ := h.take h1 h3
    cases hu : us.isEmpty with
    | true =>
      have e : us = [] := by simpa using hu
      subst e
      have e2 : ds = [] := List.length_eq_zero_iff.1 k2.len
      subst e2
      exact ⟨[], l', .emp, k5, (LeL.right a l').trans k6⟩
    | false =>
      subst k1
      exact ⟨_, l', .sl hu k4 k3 k2, k5, k6⟩
  | _, _, _, _, .zsl, ls, h => ⟨[], ls, .zsl, h, LeL.refl _⟩
  | _, _, _, _, .nilsl, ls, h => ⟨[], ls, .nilsl, h, LeL.refl _⟩
  | _, _, _, _, .agg h1, ls, h => by
    obtain ⟨a, l', k1, k2, k3⟩ := h1.sound h
    exact ⟨a, l', .agg k1, k2, k3⟩
theorem ConsL.sound {s : S} : ∀ {H H' : List BE} {vs ds : List V}, ConsL H vs ds H' → ∀ {ls : List (Bool × Nat)}, HoldL s H ls → ∃ a l', PcL s vs ds a ∧ HoldL s H' l' ∧ LeL (a ++ l') ls
  | _, _, _, _, .nil, ls, h => ⟨[], ls, .nil, h, LeL.refl _⟩
  | _, _, _, _, .pls h1 h2, ls, h => ⟨[], ls, .pl h1 h2, h, LeL.refl _⟩
  | _, _, _, _, .cons h1 h2, ls, h => by
    obtain ⟨a1, l1, k1, k2, k3⟩ := h1.sound h
    obtain ⟨a2, l2, m1, m2, m3⟩ := h2.sound k2
    exact ⟨a1 ++ a2, l2, .cons k1 m1, m2, by rw [List.append_assoc]; exact ((LeL.refl a1).app m3).trans k3⟩
end
theorem Hold.ext0 {s : S} {H : List BE} (h : Hold s s.next H) : Hold (s.ext []) (s.ext []).next H := h.ext []
theorem Own2.ofH {s : S} {H H' : List BE} {v d : V} (h : Hold s s.next H) (hc : Cons H v d H') : Own2 d v (s.ext []) := by
  obtain ⟨ls, h1, h2, h3⟩ := h.ext0.ex
  obtain ⟨a, l', k1, k2, k3⟩ := hc.sound h1
  exact ⟨a, k1.tr.1, ((LeL.left a l').trans k3).1 h2⟩
/-- Some of the books, in another order. -/
inductive Sel : List BE → List BE → Prop
  | nil {H} : Sel H []
  | cons {H H1 e H'} (i : Nat) : nthO H i = some e → eraO H i = some H1 → Sel H1 H' → Sel H (e :: H')
theorem Sel.p {H H1 H' : List BE} {e : BE} (h : Pick H e H1) (t : Sel H1 H') : Sel H (e :: H') := by
  obtain ⟨i, h1, h2⟩ := h.idx
  exact .cons i h1 h2 t
theorem Sel.sound {s : S} : ∀ {H H' : List BE}, Sel H H' → ∀ {ls : List (Bool × Nat)}, HoldL s H ls → ∃ l', HoldL s H' l' ∧ LeL l' ls
  | _, _, .nil, ls, h => ⟨[], .nil, fun _ => List.nodup_nil, fun p hp => by cases hp⟩
  | _, _, .cons i h1 h2 h3, ls, h => by
    obtain ⟨a, l', k1, k2, k3⟩ := h.take h1 h2
    obtain ⟨q, m1, m2⟩ := h3.sound k2
    exact ⟨a ++ q, .cons k1 m1, ((LeL.refl a).app m2).trans k3⟩
theorem Hold.sel {s : S} {b : Nat} {H H' : List BE} (h : Hold s b H) (hs : Sel H H') : Hold s b H' := by
  obtain ⟨ls, h1, h2, h3⟩ := h.ex
  obtain ⟨l', k1, k2⟩ := hs.sound h1
  exact ⟨l', k1, k2.1 h2, fun p hp => h3 p (k2.2 p hp)⟩
/-- What is spread into an append. -/
inductive ConsSp : List BE → V → List V → List V → List BE → Prop
  | acc {H H' id sz us ds} (i : Nat) : nthO H i = some (.acc id sz us ds) → eraO H i = some H' → ConsSp H (.sl id us) us ds H'
  | pl {H H' id us ds} : ConsL H us ds H' → ConsSp H (.sl id us) us ds H'
  | zsl {H} : ConsSp H .zsl [] [] H
  | nilsl {H} : ConsSp H .nilsl [] [] H
theorem ConsSp.ap {H H' : List BE} {id sz : Nat} {us ds : List V} (h : Pick H (.acc id sz us ds) H') : ConsSp H (.sl id us) us ds H' := by
  obtain ⟨i, h1, h2⟩ := h.idx
  exact .acc i h1 h2
theorem ConsSp.sound {s : S} {H H' : List BE} {w : V} {vs ds : List V} (hc : ConsSp H w vs ds H') {ls : List (Bool × Nat)} (h : HoldL s H ls) : spreadO w = some vs ∧ ∃ a l', PcL s vs ds a ∧ HoldL s H' l' ∧ LeL (a ++ l') ls := by
  cases hc with
  | acc i h1 h3 =>
    obtain ⟨a, l', ⟨l1, k1, k2, k3, k4⟩, k5, k6⟩ := h.take h1 h3
    subst k1
    exact ⟨rfl, l1, l', k2, k5, ((LeL.left l1 _).app (LeL.refl l')).trans k6⟩
  | pl h1 => exact ⟨rfl, h1.sound h⟩
  | zsl => exact ⟨rfl, [], ls, .nil, h, LeL.refl _⟩
  | nilsl => exact ⟨rfl, [], ls, .nil, h, LeL.refl _⟩
/-! ### Arguments: plain data, or data in the books -/
mutual
inductive RdV (H : List BE) : V → V → Prop
  | pl {v} : v.plain = true → RdV H v v
  | th {n d v} : BE.blk n d ∈ H → v = (thw n d).1 → RdV H v d
  | mk {n d k v} : BE.blk n (mkT d k) ∈ H → v = (thw n d).1 → RdV H v (mkT d k)
  | acc {id sz us ds} : BE.acc id sz us ds ∈ H → RdV H (.sl id us) (.sl 0 ds)
  | own {v d} : BE.own v d ∈ H → RdV H v d
  | slm0 : RdV H (.slm (.is 0) 0 0 0) (.sl 0 [])
  | accE {id sz : Nat} {us ds : List V} {k : Nat} {v d : V} : BE.acc id sz us ds ∈ H → us[k]? = some v → ds[k]? = some d → RdV H v d
  | zsl : RdV H .zsl (.sl 0 [])
  | nilsl : RdV H .nilsl (.sl 0 [])
  | agg {vs ds} : RdH H vs ds → RdV H (.agg vs) (.agg ds)
  | ptr {l k cs ds} : BE.cell l cs ∈ H → RdH H cs ds → RdV H (.ptr l k) (.eptr ds k)
  | fn {f cs ds} : RdH H cs ds → RdV H (.fn f cs) (.fn f ds)
  | eptr {cs k} : RdV H (.eptr cs k) (.eptr cs k)
inductive RdH (H : List BE) : List V → List V → Prop
  | nil : RdH H [] []
  | cons {v vs d ds} : RdV H v d → RdH H vs ds → RdH H (v :: vs) (d :: ds)
end
theorem RdV.th' {H : List BE} {n : Nat} {d : V} (h : BE.blk n d ∈ H) : RdV H (thw n d).1 d := .th h rfl
theorem RdV.mk' {H : List BE} {n : Nat} {d : V} {k : Int} (h : BE.blk n (mkT d k) ∈ H) : RdV H (thw n d).1 (mkT d k) := .mk h rfl
theorem RdV.th2 {H : List BE} {n : Nat} {d v : V} (e : v = (thw n d).1) (h : BE.blk n d ∈ H) : RdV H v d := .th h e
theorem RdV.ptr2 {H : List BE} {l k : Nat} {cs ds : List V} (h : BE.cell l cs ∈ H) (r : RdH H cs ds) : RdV H (.ptr l k) (.eptr ds k) := .ptr h r
theorem RdL.get {s : S} : ∀ {vs ds : List V}, RdL s vs ds → ∀ {k : Nat} {v d : V}, vs[k]? = some v → ds[k]? = some d → Rd s v d
  | _, _, .nil, k, v, d, h, _ => by simp at h
  | _, _, .cons h _, 0, v, d, h1, h2 => by simp at h1 h2; subst h1; subst h2; exact h
  | _, _, .cons _ t, k + 1, v, d, h1, h2 => RdL.get t (k := k) (by simpa using h1) (by simpa using h2)
theorem Rd.cellsO_sl {s : S} {v : V} {i : Nat} {l : List V} (h : Rd s v (.sl i l)) : cellsO v = some [v] := by
  cases h with
  | scal h => cases h
  | _ => rfl
theorem HasV.ext0d {s : S} {n : Nat} {d : V} (h : HasV s n (thw n d).2) (hb : n + cv d ≤ s.next) : HasV (s.ext []) n (thw n d).2 := fun j p hj => by
  have hlt := (List.getElem?_eq_some_iff.1 hj).1
  rw [thw_cv] at hlt
  rw [ext_vars_lt _ _ (by omega)]
  exact h j p hj
mutual
theorem RdV.rd {s : S} {b : Nat} {H : List BE} (hh : Hold s b H) : ∀ {v d : V}, RdV H v d → Rd s v d
  | _, _, .pl h => Rd.plain _ h
  | _, _, .th h e => by
    obtain ⟨h1, h2, h3⟩ := hh.get h
    rw [e]
    exact Rd_thw _ _ h2 h3
  | _, _, .mk (n := n) (d := d) (k := k) h e => by
    obtain ⟨h1, h2, h3⟩ := hh.get h
    rw [e, ← thw_mkT d n k]
    exact Rd_thw _ _ h2 h3
  | _, _, .acc h => .sl (hh.accOk h).2.2.2
  | _, _, .own h => by
    obtain ⟨a, h1, _⟩ := hh.at h
    exact Ow.rd h1
  | _, _, .slm0 => .slm0
  | _, _, .accE h h1 h2 => (hh.accOk h).2.2.2.get h1 h2
  | _, _, .zsl => .zsl
  | _, _, .nilsl => .nilsl
  | _, _, .agg h => .agg (RdH.rd' hh h)
  | _, _, .ptr h k => .ptr (hh.cell h).2 (RdH.rd' hh k)
  | _, _, .fn h => .fn (RdH.rd' hh h)
  | _, _, .eptr => .eptr
theorem RdH.rd' {s : S} {b : Nat} {H : List BE} (hh : Hold s b H) : ∀ {vs ds : List V}, RdH H vs ds → RdL s vs ds
  | _, _, .nil => .nil
  | _, _, .cons h t => .cons (RdV.rd hh h) (RdH.rd' hh t)
end
theorem RdH.rd {s : S} {H : List BE} (hh : Hold s s.next H) {vs ds : List V} (h : RdH H vs ds) : RdL (s.ext []) vs ds := h.rd' hh.ext0
theorem ext_ext_nil (s : S) (xs : List Own) : (s.ext xs).ext [] = s.ext xs := by
  refine S.ext_eq (fun x => ?_) (fun x => ?_) rfl
  · show (if x < (s.ext xs).next then (s.ext xs).vars x else Own.cells? _) = _
    split
    · rfl
    · rename_i h
      rw [ext_next] at h
      show _ = (if x < s.next then s.vars x else Own.cells? xs[x - s.next]?)
      rw [if_neg (by omega), List.getElem?_nil, List.getElem?_eq_none (show xs.length ≤ x - s.next by omega)]
  · show (if x < (s.ext xs).next then (s.ext xs).fams x else Own.fam? _) = _
    split
    · rfl
    · rename_i h
      rw [ext_next] at h
      show _ = (if x < s.next then s.fams x else Own.fam? xs[x - s.next]?)
      rw [if_neg (by omega), List.getElem?_nil, List.getElem?_eq_none (show xs.length ≤ x - s.next by omega)]
/-- What marks what is held by value. -/
def MarkT (P : Program) (f : FuncId) (d : V) : Prop := ∀ (t : S) (n : Nat) (k : Int), HasV t n (thw n d).2 → n + cv d ≤ t.next → 0 ≤ k → nkT d k ≤ 4000000000000 →
  VCalls P f [(thw n d).1, .int .i64 k] t (fun v t' => v = .int .i64 (nkT d k) ∧ t' = t.blk n (thw n (mkT d k)).2)
def HeldT (P : Program) (f : FuncId) (d : V) : Prop := ∀ (k : Int) (s : S), 0 ≤ k → nkT d k ≤ 4000000000000 → VCalls P f [mkT d k, .int .i64 k] s (fun v s' => v = .int .i64 (nkT d k) ∧ s' = s)
theorem MarkC.toT {P : Program} {f : FuncId} {id : Nat} {xs : List V} (h : MarkC P f (.sl id xs)) : MarkT P f (.sl id xs) := fun t n k hv _ h0 hb => h t n k hv h0 hb
theorem appO_nil {α : Type} : ∀ (l : List α), appO l [] = some l
  | [] => rfl
  | x :: l => by simp only [appO, appO_nil l]
section
variable {P : Program} {N : Nat} {ops : Array Oper} {l : List Oper} {K : Kn → S → Prop} {L : Kn} {s : S} {d : Nat} {ty : TypeId} {p : String} {a : Array Edge} {H : List BE}
theorem lend_at {s : S} {dv : V} : (s.ext []).ext (thawed (s.ext []).next dv) = (s.ext (thawed s.next dv)).ext [] := by
  rw [ext_ext, ext_ext_nil]
  rfl
/-- A call that answers new memory. -/
theorem LOps.lendC {f : Operand} {g : FuncId} {args : Array Operand} {B : Array TypeId} {caps us vs ds : List V} {dv : V} (hf : opd L f = some (.fn g caps)) (ha : opdL L args.toList = some us) (hap : appO us caps = some vs) (hok : CallOk P g) (hh : Hold s s.next H) (hrd : RdH H vs ds)
    (hc : ∀ t, VCalls P g ds t (fun v t' => Own2 dv v t')) (hp : dv.plain = true) (hk : ∀ (s' : S) (n : Nat), Hold s' s'.next (.blk n dv :: H) → LOps P N ops l K ((d, (thw n dv).1) :: L) (s'.ext [])) :
    LOps P N ops (⟨some d, .call ⟨.value f, args, B⟩, ty, p, a, none⟩ :: l) K L (s.ext []) := by
  refine .call hf ha hap hok (VCalls.lend2 (hrd.rd hh) hc) fun v s' hv => ?_
  obtain ⟨rfl, rfl⟩ := hv
  rw [lend_at]
  exact hk _ _ (hh.push hp)
theorem LOps.lendH {f : Operand} {g : FuncId} {args : Array Operand} {B : Array TypeId} {vs ds : List V} {dv : V} (hf : opd L f = some (.fn g [])) (ha : opdL L args.toList = some vs) (hok : CallOk P g) (hh : Hold s s.next H) (hrd : RdH H vs ds)
    (hc : ∀ t, VCalls P g ds t (fun v t' => Own2 dv v t')) (hp : dv.plain = true) (hk : ∀ (s' : S) (n : Nat), Hold s' s'.next (.blk n dv :: H) → LOps P N ops l K ((d, (thw n dv).1) :: L) (s'.ext [])) :
    LOps P N ops (⟨some d, .call ⟨.value f, args, B⟩, ty, p, a, none⟩ :: l) K L (s.ext []) := .lendC hf ha (appO_nil _) hok hh hrd hc hp hk
theorem scal_thwL : ∀ {us : List V}, us.all V.scal = true → ∀ n, thwL n us = (us, [])
  | [], _, n => rfl
  | u :: us, h, n => by
    rw [List.all_cons, Bool.and_eq_true] at h
    have h1 : thw n u = (u, []) := by cases u <;> first | rfl | cases h.1
    unfold thwL
    rw [h1]
    simp only [List.length_nil, Nat.add_zero, scal_thwL h.2, List.nil_append]
/-- The same, with scalars behind it. -/
theorem LOps.lendHT {f : Operand} {g : FuncId} {args : Array Operand} {B : Array TypeId} {vs ds us : List V} {dv : V} (hf : opd L f = some (.fn g [])) (ha : opdL L args.toList = some vs) (hok : CallOk P g) (hh : Hold s s.next H) (hrd : RdH H vs ds)
    (hc : ∀ t, VCalls P g ds t (fun v t' => Own2 (.tup (dv :: us)) v t')) (hp : dv.plain = true) (hu : us.all V.scal = true) (hk : ∀ (s' : S) (n : Nat), Hold s' s'.next (.blk n dv :: H) → LOps P N ops l K ((d, .tup ((thw n dv).1 :: us)) :: L) (s'.ext [])) :
    LOps P N ops (⟨some d, .call ⟨.value f, args, B⟩, ty, p, a, none⟩ :: l) K L (s.ext []) := by
  refine .call hf ha (appO_nil _) hok (VCalls.lend2 (hrd.rd hh) hc) fun v s' hv => ?_
  obtain ⟨rfl, rfl⟩ := hv
  rw [lend_at]
  have e : thw s.next (.tup (dv :: us)) = (.tup ((thw s.next dv).1 :: us), (thw s.next dv).2) := by
    show ((V.tup (thwL s.next (dv :: us)).1, (thwL s.next (dv :: us)).2) : V × _) = _
    unfold thwL
    simp only [scal_thwL hu, List.append_nil]
  have e2 : thawed s.next (.tup (dv :: us)) = thawed s.next dv := by unfold thawed; rw [e]
  show LOps P N ops l K ((d, (thw s.next (.tup (dv :: us))).1) :: L) _
  rw [e2, e]
  exact hk _ _ (hh.push hp)
/-- A call that marks. -/
theorem LOps.markH {f : Operand} {g : FuncId} {args : Array Operand} {B : Array TypeId} {dv v : V} {kk : Int} {m : Nat} {H' : List BE} (i : Nat) (hf : opd L f = some (.fn g [])) (ha : opdL L args.toList = some [v, .int .i64 kk]) (hok : CallOk P g)
    (hh : Hold s s.next H) (hv : v = (thw m dv).1) (hi : nthO H i = some (.blk m dv)) (hc : MarkT P g dv) (hs : setO H i (.blk m (mkT dv kk)) = some H') (h0 : 0 ≤ kk) (hb : nkT dv kk ≤ 4000000000000)
    (hk : ∀ s' : S, Hold s' s'.next H' → LOps P N ops l K ((d, .int .i64 (nkT dv kk)) :: L) (s'.ext [])) :
    LOps P N ops (⟨some d, .call ⟨.value f, args, B⟩, ty, p, a, none⟩ :: l) K L (s.ext []) := by
  subst hv
  obtain ⟨h1, h2, h3⟩ := hh.get (List.mem_of_getElem? (nthO_eq hi))
  refine .call hf ha (appO_nil _) hok (hc (s.ext []) m kk (h3.ext0d h1) h1 h0 hb) fun v s' hv => ?_
  obtain ⟨rfl, rfl⟩ := hv
  rw [ext_blk (by rw [thw_cv, mkT_cv]; exact h1)]
  exact hk _ (hh.blk hi (mkT_cv _ _) (mkT_plain _ _ h2) hs)
variable {tt : BT}
theorem ext0_setVar {s : S} {k : Nat} (h : k < s.next) (cs : List V) : (s.ext []).setVar k cs = (s.setVar k cs).ext [] := ext_setVar_lt s [] h cs
theorem ext0_setFam {s : S} {k : Nat} (h : k < s.next) (n sz : Nat) : (s.ext []).setFam k n sz = (s.setFam k n sz).ext [] := by
  refine S.ext_eq (fun x => rfl) (fun x => ?_) rfl
  simp only [S.setFam, S.ext]
  by_cases h1 : x = k
  · simp [h1, h]
  · simp [h1]
theorem LOps.boxH {T : TypeId} {x : Operand} {v : V} {cs : List V} (hh : Hold s s.next H) (hx : opd L x = some v) (hc : cellsO v = some cs) (hk : ∀ (s' : S) (n : Nat), Hold s' s'.next (.cell n cs :: H) → LOps P N ops l K ((d, .ptr n 0) :: L) (s'.ext [])) :
    LOps P N ops (⟨some d, .box T x, ty, p, a, none⟩ :: l) K L (s.ext []) := by
  refine .st (v := .ptr s.next 0) (s' := (s.ext [.var cs]).ext []) (fun σ hσ => ?_) (hk _ _ (hh.new cs))
  simp only [vop, opd_eq hσ hx, Option.map_some, cellsO_eq hc, ext_newVar, ext_ext_nil]
  rfl
theorem LOps.allocH (ht : tt.ok P) {T : TypeId} {t : Ty} (hh : Hold s s.next H) (hT : tt.get T = some t) (hz : (Nat.beq t.zero.length t.size && Nat.blt 0 t.size) = true) (hk : ∀ (s' : S) (n : Nat), Hold s' s'.next (.cell n t.zero :: H) → LOps P N ops l K ((d, .ptr n 0) :: L) (s'.ext [])) :
    LOps P N ops (⟨some d, .alloc T, ty, p, a, none⟩ :: l) K L (s.ext []) := by
  refine .st (v := .ptr s.next 0) (s' := (s.ext [.var t.zero]).ext []) (fun σ hσ => ?_) (hk _ _ (hh.new t.zero))
  simp only [vop, valloc, ht.get hT, Option.bind_some, ext_newVar, ext_ext_nil]
  simp only [Bool.and_eq_true] at hz
  first
    | rfl
    | (rw [if_pos ⟨Nat.eq_of_beq_eq_true hz.1, by simpa using hz.2⟩]; rfl)
theorem LOps.storeH (ht : tt.ok P) {T : TypeId} {u : Ty} {x y : Operand} {k off : Nat} {cs cs' vs : List V} {v : V} {H' : List BE} (i : Nat) (hh : Hold s s.next H) (hx : opd L x = some (.ptr k off)) (hi : nthO H i = some (.cell k cs)) (hy : opd L y = some v) (hT : tt.get T = some u)
    (hc : cellsO v = some vs) (ho : onesO vs = true) (hn : Nat.beq vs.length u.size = true) (hsp : splO cs off vs = some cs') (hs : setO H i (.cell k cs') = some H') (hk : ∀ s' : S, Hold s' s'.next H' → LOps P N ops l K L (s'.ext [])) :
    LOps P N ops (⟨none, .store T x y, ty, p, a, none⟩ :: l) K L (s.ext []) := by
  obtain ⟨h1, h2⟩ := hh.cell (List.mem_of_getElem? (nthO_eq hi))
  refine .stN (v := .und) (s' := (s.setVar k cs').ext []) (fun σ hσ => ?_) (hk _ (hh.set hi hs))
  obtain ⟨h3, h4⟩ := splO_eq hsp
  have h5 : vs.length = u.size := Nat.eq_of_beq_eq_true hn
  simp only [vop, opd_eq hσ hx, opd_eq hσ hy, vstore, ht.get hT, ext_vars_lt s [] (show k < s.next by omega), h2, cellsO_eq hc, Option.bind_some]
  rw [if_pos ⟨h5, by omega, onesO_eq ho⟩, Option.map_some, ext0_setVar (by omega), h3]
/-- A value in variables, stored whole. -/
theorem LOps.storeHW (ht : tt.ok P) {T : TypeId} {u : Ty} {x y : Operand} {k n : Nat} {cs : List V} {v dv : V} {H' : List BE} (i : Nat) (hh : Hold s s.next H) (hx : opd L x = some (.ptr k 0)) (hi : nthO H i = some (.cell k cs)) (hy : opd L y = some v) (hT : tt.get T = some u)
    (hv : v = (thw n dv).1) (h1 : (dv.cells.all V.one && Nat.beq dv.cells.length u.size && Nat.beq cs.length dv.cells.length) = true) (hs : setO H i (.cell k (thw n dv).1.cells) = some H') (hk : ∀ s' : S, Hold s' s'.next H' → LOps P N ops l K L (s'.ext [])) :
    LOps P N ops (⟨none, .store T x y, ty, p, a, none⟩ :: l) K L (s.ext []) := by
  subst hv
  simp only [Bool.and_eq_true] at h1
  obtain ⟨⟨h1, hn⟩, hl⟩ := h1
  have hn := Nat.eq_of_beq_eq_true hn
  have hl := Nat.eq_of_beq_eq_true hl
  obtain ⟨h3, h2⟩ := hh.cell (List.mem_of_getElem? (nthO_eq hi))
  have hc1 := thw_cells_len dv n
  refine .stN (v := .und) (s' := (s.setVar k (thw n dv).1.cells).ext []) (fun σ hσ => ?_) (hk _ (hh.set hi hs))
  simp only [vop, opd_eq hσ hx, opd_eq hσ hy, vstore, ht.get hT, ext_vars_lt s [] (show k < s.next by omega), h2, Option.bind_some]
  rw [if_pos ⟨by omega, by omega, thw_cells_ones n h1⟩, Option.map_some, ext0_setVar (by omega)]
  have e : splice cs 0 (thw n dv).1.cells = (thw n dv).1.cells := by
    unfold splice
    simp only [List.take_zero, List.nil_append, Nat.zero_add]
    rw [List.drop_of_length_le (by omega), List.append_nil]
  rw [e]
theorem AnsL.loadH (ht : tt.ok P) {T : TypeId} {u : Ty} {x : Operand} {k off : Nat} {cs : List V} {v : V} (i : Nat) (hh : Hold s s.next H) (hx : opd L x = some (.ptr k off)) (hi : nthO H i = some (.cell k cs)) (hT : tt.get T = some u) (hr : takeO cs off u.size u.agg = some v) :
    AnsL P (.load T x) L (s.ext []) v := by
  obtain ⟨h1, h2⟩ := hh.cell (List.mem_of_getElem? (nthO_eq hi))
  exact AnsL.loadO ht hx (by omega) h2 hT hr
def V.isAgg : V → Bool
  | .agg _ => true
  | _ => false
theorem AnsL.loadHW (ht : tt.ok P) {T : TypeId} {u : Ty} {x : Operand} {k n : Nat} {dv : V} (i : Nat) (hh : Hold s s.next H) (hx : opd L x = some (.ptr k 0)) (hi : nthO H i = some (.cell k (thw n dv).1.cells)) (hT : tt.get T = some u)
    (hg : (dv.isAgg && u.agg && Nat.beq dv.cells.length u.size) = true) : AnsL P (.load T x) L (s.ext []) (thw n dv).1 := by
  obtain ⟨h1, h2⟩ := hh.cell (List.mem_of_getElem? (nthO_eq hi))
  simp only [Bool.and_eq_true] at hg
  obtain ⟨⟨hg1, hg2⟩, hg3⟩ := hg
  have hg3 := Nat.eq_of_beq_eq_true hg3
  have hc1 := thw_cells_len dv n
  cases dv with
  | agg cs =>
    have e : (thw n (.agg cs)).1 = .agg (thw n (.agg cs)).1.cells := rfl
    refine .of fun σ hσ _ _ _ _ _ => ?_
    simp only [vop, opd_eq hσ hx, vload, ht.get hT, ext_vars_lt s [] (show k < s.next by omega), h2, Option.bind_some, hg2]
    have e2 : takeV (thw n (.agg cs)).1.cells 0 u.size true = some (thw n (.agg cs)).1 := by
      unfold takeV
      simp only [List.drop_zero, if_true]
      first
        | (rw [if_pos (by omega), List.take_of_length_le (by omega), ← e])
        | (rw [List.take_of_length_le (by omega), ← e])
        | (rw [if_pos (by omega), ← hg3, ← hc1, List.take_length, ← e])
    rw [e2]
    rfl
  | _ => cases hg1
/-! ### Slices that are appended to -/
def ElsH (te : Ty) (vs : List V) : Prop := ∀ v ∈ vs, v.cells.length = te.size ∧ v.fits te.agg = true
theorem ElsH.of {te : Ty} {vs : List V} (h : elemsO te vs = true) : ElsH te vs := fun v hv => elemO_eq (elemsO_eq h v hv)
theorem ElsH.nil {te : Ty} : ElsH te [] := fun v hv => by cases hv
theorem ElsH.map {α : Type} {f : α → V} {te : Ty} {l : List α} (h : ∀ x, elemO te (f x) = true) : ElsH te (l.map f) := fun v hv => by
  obtain ⟨x, _, rfl⟩ := List.mem_map.1 hv
  exact elemO_eq (h x)
theorem ElsH.c1 {te : Ty} {v : V} {vs : List V} (h : elemO te v = true) (t : ElsH te vs) : ElsH te (v :: vs) := fun x hx => by
  rcases List.mem_cons.1 hx with rfl | hx
  · exact elemO_eq h
  · exact t x hx
theorem fits_ones {v : V} (h : v.fits false = true) : v.cells.all V.one = true := by
  cases v <;> simp_all [V.fits, V.cells, V.one]
theorem Elems.nil {te : Ty} : Elems te [] := rfl
theorem PcL.sizes {s : S} {vs ds : List V} {ls : List (Bool × Nat)} {k : Nat} (h : PcL s vs ds ls) (hv : ∀ v ∈ vs, v.cells.length = k) : ∀ d ∈ ds, d.cells.length = k := RdL.cells_all h.rd hv
/-- A slice literal. -/
theorem LOps.bslH (ht : tt.ok P) {T e : TypeId} {t te : Ty} {m : Nat} {parts : Array (Nat × Operand)} {ps : List (Nat × V)} {vs ds : List V} {H' : List BE} (hp : opdP L parts.toList = some ps) (hT : tt.get T = some t) (hkd : t.kd = .slice e) (hte : tt.get e = some te)
    (hz : (Nat.beq te.zero.length te.size && Nat.blt 0 te.size && Nat.ble (m * te.size) 16777216) = true) (hsq : seqO 0 ps = some vs) (hlen : Nat.beq vs.length m = true) (hm : Nat.beq m 0 = false) (hh : Hold s s.next H) (hc : ConsL H vs ds H') (hel : ElsH te vs)
    (hk : ∀ (s' : S) (n : Nat), Hold s' s'.next (.acc n te.size vs ds :: H') → LOps P N ops l K ((d, .sl n vs) :: L) (s'.ext [])) : LOps P N ops (⟨some d, .buildSlice T m parts, ty, p, a, none⟩ :: l) K L (s.ext []) := by
  simp only [Bool.and_eq_true] at hz
  have hm' : vs.length = m := Nat.eq_of_beq_eq_true hlen
  have h0 : ¬ m = 0 := fun e => by rw [e] at hm; cases hm
  have hz1 : te.zero.length = te.size := Nat.eq_of_beq_eq_true hz.1.1
  have hz2 : 0 < te.size := by simpa using hz.1.2
  have hz3 : m * te.size ≤ 16777216 := Nat.le_of_ble_eq_true hz.2
  have hcl : ∀ v ∈ vs, v.cells.length = te.size := fun v hv => (hel v hv).1
  have hf : ∀ v ∈ vs, v.fits te.agg = true := fun v hv => (hel v hv).2
  have hfill := vfill_seq (n := m) hz1 (us := []) (by simpa using hsq) (by simpa using hcl) (by simp; omega)
  rw [List.nil_append, filled_full hm', filled_nil] at hfill
  have hsz1 : te.agg = false → te.size = 1 := fun hag => by
    cases vs with
    | nil => exact absurd hm'.symm h0
    | cons v r =>
      obtain ⟨h1, h2⟩ := hel v (by simp)
      rw [← h1]
      rw [hag] at h2
      cases v <;> simp_all [V.fits, V.cells, V.one]
  have hnew : Hold (s.ext [.fam m te.size]) (s.ext [.fam m te.size]).next (.acc s.next te.size vs ds :: H') := by
    obtain ⟨ls, h1, h2, h3⟩ := hh.ex
    obtain ⟨b, l', k1, k2, k3⟩ := hc.sound h1
    have hnd := k3.1 h2
    have hlt : ∀ p ∈ b ++ l', p.2 < s.next := fun p hp => h3 p (k3.2 p hp)
    refine ⟨(b ++ [(false, s.next)]) ++ l', .cons ⟨b, rfl, k1.congr fun p hp => .lt (hlt p (List.mem_append_left _ hp)), by rw [ext_fams0, hm']; rfl, k1.sizes hcl⟩ (k2.congr (by rw [ext_next]; omega) fun p hp => .lt (hlt p (List.mem_append_right _ hp))), ?_, fun p hp => ?_⟩
    · have hr : LeL ((b ++ [(false, s.next)]) ++ l') ([(false, s.next)] ++ (b ++ l')) := by
        rw [← List.append_assoc]
        exact (LeL.comm b _).app (LeL.refl l')
      refine hr.1 ?_
      rw [List.singleton_append, List.nodup_cons]
      exact ⟨fun hm => by have := hlt _ hm; simp at this, hnd⟩
    · rw [ext_next]
      simp only [List.mem_append, List.mem_singleton] at hp
      rcases hp with (hp | rfl) | hp
      · have := hlt p (List.mem_append_left _ hp); simp only [List.length_singleton]; omega
      · simp
      · have := hlt p (List.mem_append_right _ hp); simp only [List.length_singleton]; omega
  refine .st (v := .sl s.next vs) (s' := (s.ext [.fam m te.size]).ext []) (fun σ hσ => ?_) (hk _ _ hnew)
  simp only [vop, opdP_eq hσ hp, vbuildSlice, ht.get hT, hkd, ht.get hte, Option.bind_some]
  rw [if_pos ⟨hz1, hz2, hz3⟩, hfill]
  simp only [Option.bind_some]
  have hck := chunk_flat hz2 hcl hf
  rw [hm'] at hck
  rw [if_neg h0, if_pos (chunkOk_flat hf hsz1), hck, ext_newFam, List.nil_append, ext_ext_nil]
  rfl
/-- An append to a slice of the books. -/
theorem LOps.appH (ht : tt.ok P) {T U e : TypeId} {t te : Ty} {x y : Operand} {id sz : Nat} {us ds vs ds2 : List V} {w : V} {H1 H2 : List BE} (i : Nat) (hx : opd L x = some (.sl id us)) (hi : nthO H i = some (.acc id sz us ds)) (he : eraO H i = some H1) (hy : opd L y = some w)
    (hT : tt.get T = some t) (hkd : t.kd = .slice e) (hte : tt.get e = some te) (hz : (Nat.beq te.zero.length te.size && Nat.blt 0 te.size) = true) (hsz : Nat.beq sz te.size = true) (hU : Nat.beq U T = true) (hh : Hold s s.next H)
    (hc : ConsSp H1 w vs ds2 H2) (hall : Elems te vs) (hb : AppB (us.length + vs.length) te.bytes)
    (hk : ∀ s' : S, Hold s' s'.next (.acc id te.size (us ++ vs) (ds ++ ds2) :: H2) → LOps P N ops l K ((d, .sl id (us ++ vs)) :: L) (s'.ext [])) : LOps P N ops (⟨some d, appCall x y #[T, U], ty, p, a, none⟩ :: l) K L (s.ext []) := by
  simp only [Bool.and_eq_true] at hz
  have hU' := Nat.eq_of_beq_eq_true hU
  subst hU'
  have hsz' := Nat.eq_of_beq_eq_true hsz
  subst hsz'
  have hels : ∀ v ∈ vs, v.cells.length = te.size := fun v hv => by
    unfold Elems at hall
    have := List.all_eq_true.1 hall v hv
    rw [Bool.and_eq_true, decide_eq_true_eq] at this
    exact this.1
  obtain ⟨ls, h1, h2, h3⟩ := hh.ex
  obtain ⟨b, l', ⟨l1, rfl, k2, k3, k4⟩, k5, k6⟩ := h1.take hi he
  obtain ⟨hw, b2, l2, m1, m2, m3⟩ := hc.sound k5
  have hid : id < s.next := h3 (false, id) (k6.2 _ (by simp))
  have hall2 : LeL ((l1 ++ [(false, id)]) ++ (b2 ++ l2)) ls := ((LeL.refl _).app m3).trans k6
  have hnd := hall2.1 h2
  have hne : ∀ p, p ∈ l1 ++ (b2 ++ l2) → SameOn s (s.setFam id (us.length + vs.length) te.size) p := by
    intro p hp
    refine ⟨fun _ => rfl, fun e => ?_⟩
    have : p.2 ≠ id := fun e2 => by
      have e3 : p = (false, id) := by obtain ⟨p1, p2⟩ := p; simp only at e e2; rw [e, e2]
      subst e3
      rw [List.nodup_append, List.nodup_append] at hnd
      rcases List.mem_append.1 hp with hp | hp
      · exact hnd.1.2.2 _ hp _ (by simp) rfl
      · exact hnd.2.2 (false, id) (by simp) _ hp rfl
    simp [S.setFam, this]
  have hnew : Hold (s.setFam id (us.length + vs.length) te.size) (s.setFam id (us.length + vs.length) te.size).next (.acc id te.size (us ++ vs) (ds ++ ds2) :: H2) := by
    refine ⟨((l1 ++ b2) ++ [(false, id)]) ++ l2, .cons ⟨l1 ++ b2, rfl, (k2.congr fun p hp => hne p (List.mem_append_left _ hp)).append (m1.congr fun p hp => hne p (List.mem_append_right _ (List.mem_append_left _ hp))), by simp [S.setFam], fun x hx => ?_⟩
      (m2.congr (s' := s.setFam id (us.length + vs.length) te.size) (Nat.le_refl s.next) fun p hp => hne p (List.mem_append_right _ (List.mem_append_right _ hp))), ?_, fun p hp => ?_⟩
    · rcases List.mem_append.1 hx with hx | hx
      · exact k4 x hx
      · exact m1.sizes hels x hx
    · have hr : LeL (((l1 ++ b2) ++ [(false, id)]) ++ l2) ((l1 ++ [(false, id)]) ++ (b2 ++ l2)) := by
        rw [List.append_assoc l1 b2, List.append_assoc l1, List.append_assoc l1]
        refine (LeL.refl l1).app ?_
        rw [← List.append_assoc]
        exact (LeL.comm b2 _).app (LeL.refl l2)
      exact hr.1 hnd
    · have hp' : p ∈ (l1 ++ [(false, id)]) ++ (b2 ++ l2) := by
        simp only [List.mem_append] at hp ⊢
        rcases hp with ((hp | hp) | hp) | hp
        · exact .inl (.inl hp)
        · exact .inr (.inl hp)
        · exact .inl (.inr hp)
        · exact .inr (.inr hp)
      exact h3 p (hall2.2 p hp')
  refine .st (v := .sl id (us ++ vs)) (s' := (s.setFam id (us.length + vs.length) te.size).ext []) (fun σ hσ => ?_) (hk _ hnew)
  simp only [appCall, vop, vevL, opd_eq hσ hx, opd_eq hσ hy, vbuiltin, vappend, ht.get hT, hkd, ht.get hte, spreadO_eq hw, Option.bind_some, Option.map_some, if_true]
  rw [if_pos ⟨Nat.eq_of_beq_eq_true hz.1, by simpa using hz.2, hall⟩, ext_fams_lt s [] hid, k3]
  simp only [Option.bind_some]
  rw [if_pos ⟨trivial, trivial, hb.1, hb.2⟩, ext0_setFam hid]
end
theorem Res1.cellH {P : Program} {tt : BT} {s : S} {L : Kn} {H : List BE} (i : Nat) (ht : tt.ok P) {x : Nat} {T : TypeId} {t : Ty} {k off : Nat} {cs : List V} {v : V} (hh : Hold s s.next H) (hx : lk L x = some (.ptr k off)) (hi : nthO H i = some (.cell k cs)) (hT : tt.get T = some t)
    (hr : takeO cs off t.size t.agg = some v) : Res1 P (.cell x T) L (s.ext []) v := fun σ hσ => by
  obtain ⟨h1, h2⟩ := hh.cell (List.mem_of_getElem? (nthO_eq hi))
  simp only [vres1, hσ x _ hx, vload, ht.get hT, ext_vars_lt s [] (show k < s.next by omega), h2, takeO_eq hr, Option.bind_some]
/-- A call that answers a scalar, its arguments in the books. -/
theorem VCalls.lookH {P : Program} {f : FuncId} {vs ds : List V} {r : V} {s : S} {H : List BE} (hr : r.scal = true) (hh : Hold s s.next H) (hrd : RdH H vs ds) (h : ∀ t, VCalls P f ds t (fun v t' => v = r ∧ t' = t)) :
    VCalls P f vs (s.ext []) (fun v s' => v = r ∧ s' = s.ext []) := VCalls.lendP hr (hrd.rd hh) h
theorem Own2.tup1 {d v : V} {t : S} {us : List V} (h : Own2 d v t) (hu : us.all V.scal = true) : Own2 (.tup (d :: us)) (.tup (v :: us)) t := by
  obtain ⟨ls, h1, h2⟩ := h
  exact ⟨ls ++ [], .tup (.cons h1 (TrL.scal hu)), by rw [List.append_nil]; exact h2⟩
/-! ### A field that is nil, taken for a slice that is appended to -/
/-! ### Loops -/
section
variable {P : Program} {N : Nat} {L : Kn} {s : S} {H : List BE}
/-- A slice of nothing may be taken for one that is appended to. -/
theorem WL.zfamH {c : Code} {Q : Exit → Kn → S → Prop} {t : Nat} {v : V} (sz : Nat) (hx : lk L t = some v) (hv : nilO v = true) (hh : Hold s s.next H) (h : ∀ (s' : S) (n : Nat), Hold s' s'.next (.acc n sz [] [] :: H) → WL P N c Q ((t, .sl n []) :: L) (s'.ext [])) : WL P N c Q L (s.ext []) := by
  refine WL.zfam sz hx hv rfl rfl ?_
  have := h (s.ext [.fam 0 sz]) s.next (hh.more (e := .acc s.next sz [] []) (a := [(false, s.next)]) ⟨[], rfl, .nil, by rw [ext_fams0]; rfl, fun d hd => by cases hd⟩ (by simp) fun p hp => by
    simp only [List.mem_singleton] at hp
    subst hp
    simp)
  rw [ext_ext_nil] at this
  exact this
def lbackHO {α : Type} (M : α → Nat) (LI : α → Kn) (HI : α → List BE) (I : α → Prop) (x : α) (Q : Exit → Kn → S → Prop) : Exit → Kn → S → Prop
  | .normal, L', s' => ∃ y t, I y ∧ M y < M x ∧ SubL (LI y) L' ∧ s' = t.ext [] ∧ Hold t t.next (HI y)
  | e, L', s' => Q e L' s'
structure lbackH {α : Type} (M : α → Nat) (LI : α → Kn) (HI : α → List BE) (I : α → Prop) (x : α) (Q : Exit → Kn → S → Prop) (e : Exit) (L : Kn) (s' : S) : Prop where
  h : lbackHO M LI HI I x Q e L s'
theorem WL.loopH {α : Type} {c : Code} {Q : Exit → Kn → S → Prop} (M : α → Nat) (LI : α → Kn) (HI : α → List BE) (I : α → Prop) (x0 : α) (h0 : I x0) (hL : SubL (LI x0) L) (hh : Hold s s.next H) (hH : Sel H (HI x0))
    (round : ∀ (x : α) (s : S), I x → Hold s s.next (HI x) → WL P N c (lbackH M LI HI I x Q) (LI x) (s.ext [])) : WL P N (.loop c) Q L (s.ext []) := by
  refine ⟨fun σ hσ => VWp.loop (fun n σ s => ∃ x t, M x = n ∧ I x ∧ At (LI x) σ ∧ s = t.ext [] ∧ Hold t t.next (HI x)) (M x0) ⟨x0, s, rfl, h0, hL.at hσ, rfl, hh.sel hH⟩ ?_⟩
  rintro n σ s ⟨x, t, rfl, hI, hat, rfl, hx⟩
  refine ((round x t hI hx).run σ hat).mono ?_
  rintro e σ' s' ⟨L', hat', ⟨q⟩⟩
  cases e with
  | normal =>
    obtain ⟨y, t', hy, hlt, hsub, rfl, hy2⟩ := q
    exact ⟨M y, hlt, y, t', rfl, hy, hsub.at hat', rfl, hy2⟩
  | _ => exact ⟨L', hat', q⟩
variable {α : Type} {M : α → Nat} {LI : α → Kn} {HI : α → List BE} {I : α → Prop} {x : α} {Q : Exit → Kn → S → Prop}
theorem lbackH.of (y : α) (hL : SubL (LI y) L) (hh : Hold s s.next H) (hS : Sel H (HI y)) (hI : I y) (hM : M y < M x) : lbackH M LI HI I x Q .normal L (s.ext []) := ⟨⟨y, s, hI, hM, hL, rfl, hh.sel hS⟩⟩
theorem lbackH_r (h : Q .ret L s) : lbackH M LI HI I x Q .ret L s := ⟨h⟩
theorem lbackH_e {i : Nat} (h : Q (.exit i) L s) : lbackH M LI HI I x Q (.exit i) L s := ⟨h⟩
end
end Go.Proofs.YtbnbmcplmipgdaaGreatDoor
