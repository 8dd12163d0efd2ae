/-
  Sorting what is held in memory of one's own: a slice of pairs of numbers, by their first ones. Own work; no condition.
-/
import Derived.Test.YtkkifdgnebbghaaVCap2
import Derived.Test.YtkkifdgnebbghaaVGrow
import Derived.Sort.Row
namespace Go.Proofs.Ytkkifdgnebbghaa
open Go
set_option linter.unusedSimpArgs false
set_option linter.unusedVariables false

def pairV (p : Int × Int) : V := .sl 0 [.int .i64 p.1, .int .i64 p.2]

/-- What the library's sort does with a slice of slices whose first numbers are the keys (gc: the comparison). -/
def SortsBy (P : Program) (gs gc : Nat) : Prop :=
  (∀ (p : Option Addr) (cap : Nat) (w : World), Calls P gs #[.slice p 0 cap, .func (.func gc) #[] #[]] w fun e w' => e = .returned (.tuple #[]) ∧ w' = w) ∧
  ∀ (n : Nat) (enc : Fin n → Value) (key : Fin n → Int) (blk cap : Nat) (arr : Array Value) (e : TypeId) (fr : Nat × Nat) (w : World), 0 < n → n < 4611686018427387904 → w.heap[blk]? = some (.cells arr e fr) → (∀ o, o < n → ¬ (fr.1 ≤ o ∧ o < fr.2)) → (∀ i : Fin n, arr[i.val]? = some (enc i)) →
    (∀ i, ∃ b c, enc i = .slice (some ⟨b, 0, none⟩) 2 c ∧ b ≠ blk ∧ w.cell? ⟨b, 0, none⟩ = some (.int .i64 (key i))) →
    Calls P gs #[.slice (some ⟨blk, 0, none⟩) n cap, .func (.func gc) #[] #[]] w fun e w' => e = .returned (.tuple #[]) ∧
      ∃ (ks : List (Fin n)) (arr' : Array Value) (m : Nat) (os : Array Obj), ks.Perm (List.finRange n) ∧ ks.Pairwise (fun a b => key a ≤ key b) ∧ arr'.size = arr.size ∧ (∀ (j : Nat) (k : Fin n), ks[j]? = some k → arr'[j]? = some (enc k)) ∧ (∀ j : Nat, n ≤ j → arr'[j]? = arr[j]?) ∧
        w' = Sort.grow ((w.setRow blk arr').drewN m) os

theorem OwL.permZ {s : S} {ps qs : List (V × V)} (h : ps.Perm qs) : ∀ {ls : List (Bool × Nat)}, OwL s (ps.map (·.1)) (ps.map (·.2)) ls → ∃ ms, OwL s (qs.map (·.1)) (qs.map (·.2)) ms ∧ ms.Perm ls := by
  induction h with
  | nil => intro ls h; exact ⟨ls, h, .refl _⟩
  | cons x h ih =>
    intro ls hl
    cases hl with
    | cons a b =>
      obtain ⟨ms, c, d⟩ := ih b
      exact ⟨_, .cons a c, d.append_left _⟩
  | swap x y l =>
    intro ls hl
    cases hl with
    | cons a b => cases b with
      | cons c d => exact ⟨_, .cons c (.cons a d), List.perm_iff_count.2 fun x => by simp only [List.count_append]; omega⟩
  | trans h1 h2 ih1 ih2 =>
    intro ls hl
    obtain ⟨ms, a, b⟩ := ih1 hl
    obtain ⟨ns, c, d⟩ := ih2 a
    exact ⟨ns, c, d.trans b⟩
theorem OwL.at {s : S} : ∀ {vs ds : List V} {ls : List (Bool × Nat)}, OwL s vs ds ls → ∀ {i : Nat} {v d : V}, vs[i]? = some v → ds[i]? = some d → ∃ a, Ow s v d a ∧ ∀ p ∈ a, p ∈ ls
  | _, _, _, .nil, i, v, d, h, _ => by simp at h
  | _, _, _, .cons (a := a) h1 t, 0, v, d, hv, hd => by
    simp at hv hd; subst hv; subst hd
    exact ⟨a, h1, fun p hp => List.mem_append_left _ hp⟩
  | _, _, _, .cons h1 t, i + 1, v, d, hv, hd => by
    obtain ⟨a, h2, h3⟩ := t.at (i := i) (by simpa using hv) (by simpa using hd)
    exact ⟨a, h2, fun p hp => List.mem_append_right _ (h3 p hp)⟩
/-- A pair in memory of its own. -/
theorem Ow.pair {s : S} {v : V} {p : Int × Int} {ls : List (Bool × Nat)} (h : Ow s v (pairV p) ls) : ∃ c l rest, v = .slm (.is c) l 0 2 ∧ s.vars l = some (.int .i64 p.1 :: .int .i64 p.2 :: rest) ∧ (true, l) ∈ ls := by
  unfold pairV at h
  cases h with
  | scal h => simp [V.scal] at h
  | @slc l n c sz us ds rest la h1 h2 h3 h4 h5 h0 h6 =>
    cases h6 with
    | @cons v1 vs1 _ _ a b g1 g2 => cases g2 with
      | @cons v2 vs2 _ _ a' b' g3 g4 =>
        cases g4
        cases g1 with
        | scal _ =>
          cases g3 with
          | scal _ =>
            subst h2
            refine ⟨c, l, rest, rfl, ?_, by simp⟩
            rw [h1]; rfl

theorem OwL.pairs {s : S} : ∀ {xs : List (Int × Int)} {us : List V} {la : List (Bool × Nat)}, OwL s us (xs.map pairV) la → V.flat us = us ∧ us.length = xs.length ∧
    ∀ (i : Nat) (x : Int × Int), xs[i]? = some x → ∃ c l rest, us[i]? = some (.slm (.is c) l 0 2) ∧ s.vars l = some (.int .i64 x.1 :: .int .i64 x.2 :: rest) ∧ (true, l) ∈ la
  | [], us, la, h => by
    cases h
    exact ⟨rfl, rfl, fun i x h => by simp at h⟩
  | x :: xs, us, la, h => by
    cases h with
    | @cons v vs _ _ a b h1 h2 =>
      obtain ⟨c, l, rest, rfl, e1, e2⟩ := h1.pair
      obtain ⟨f1, f2, f3⟩ := OwL.pairs h2
      refine ⟨by rw [flat_cons, f1]; rfl, by simp [f2], fun i y hi => ?_⟩
      cases i with
      | zero =>
        simp at hi; subst hi
        exact ⟨c, l, rest, rfl, e1, List.mem_append_left _ e2⟩
      | succ i =>
        obtain ⟨c, l, rest, g1, g2, g3⟩ := f3 i y (by simpa using hi)
        exact ⟨c, l, rest, by simpa using g1, g2, List.mem_append_right _ g3⟩
theorem RepL.ofGet {E : Env} : ∀ {vs : List V} {vals : List Value}, vs.length = vals.length → (∀ (i : Nat) (v : V) (val : Value), vs[i]? = some v → vals[i]? = some val → RepV E v val) → RepL E vs vals
  | [], [], _, _ => .nil
  | v :: vs, val :: vals, h, k => .cons (k 0 v val rfl rfl) (RepL.ofGet (by simpa using h) fun i v val a b => k (i + 1) v val (by simpa using a) (by simpa using b))
  | [], _ :: _, h, _ => by simp at h
  | _ :: _, [], h, _ => by simp at h

theorem sortPairs_c {P : Program} {gs gc : Nat} (hsort : SortsBy P gs gc) {s : S} {H : List BE} {c l n : Nat} {xs : List (Int × Int)} (hlim : n < 4611686018427387904) (hh : Hold s s.next (.own (.slm (.is c) l 0 n) (.sl 0 (xs.map pairV)) :: H)) :
    VCalls P gs [.slm (.is c) l 0 n, .fn gc []] (s.ext []) (fun v t => v = .tup [] ∧ ∃ (ys : List (Int × Int)) (s' : S), ys.Perm xs ∧ ys.Pairwise (fun a b => a.1 ≤ b.1) ∧ t = s'.ext [] ∧ Hold s' s'.next (.own (.slm (.is c) l 0 n) (.sl 0 (ys.map pairV)) :: H)) := by
  intro E vals hr hv
  have hh0 := hh.ext0
  generalize s.ext [] = t at hr hh0 ⊢
  clear hh
  cases hv with
  | @cons _ _ va _ hva hv => cases hv with
    | @cons _ _ vf _ hvf hv =>
      cases hv
      cases hvf with
      | @fn _ _ cvals hc =>
        cases hc
        obtain ⟨ls, h1, h2, h3⟩ := hh0.ex
        cases h1 with
        | @cons _ a0 _ b0 k1 k2 =>
          have k1' : Ow t (.slm (.is c) l 0 n) (.sl 0 (xs.map pairV)) a0 := k1
          by_cases hx : xs = []
          · subst hx
            have hn : n = 0 ∧ ∃ p cap, va = .slice p 0 cap := by
              cases k1' with
              | slm0 =>
                cases hva with
                | slm h5 h6 h7 h8 => exact ⟨rfl, _, _, rfl⟩
                | slm0 => exact ⟨rfl, _, _, rfl⟩
              | slc g1 g2 g3 g4 g5 g0 g6 =>
                have := g6.len
                simp at this
                exact absurd this.symm (by simpa using g0)
            obtain ⟨rfl, p, cap, rfl⟩ := hn
            refine (hsort.1 p cap E.w).mono ?_
            rintro e w' ⟨rfl, rfl⟩
            exact ⟨E, _, _, t, rfl, rfl, ⟨rfl, [], t, .refl _, .nil, (ext_nil hr).symm, hh0⟩, hr, .tup .nil, .refl _ _⟩
          · generalize hds : xs.map pairV = ds at k1'
            cases k1' with
            | slm0 => simp at hds; exact absurd hds hx
            | @slc _ _ _ sz us _ rest la g1 g2 g3 g4 g5 g0 g6 =>
              subst hds
              obtain ⟨hfl, hul, hps⟩ := g6.pairs
              rw [hfl] at g1
              have hn : xs.length = n := by omega
              have hpos : 0 < n := by
                rcases Nat.eq_zero_or_pos n with h | h
                · exact absurd (List.length_eq_zero_iff.1 (by omega)) g0
                · exact h
              have hnd := h2
              rw [List.nodup_append] at hnd
              have hnl : (true, l) ∉ la := fun hm => by
                have := hnd.1
                rw [List.nodup_append] at this
                exact this.2.2 _ hm _ (by simp) rfl
              have hnb : (true, l) ∉ b0 := fun hm => hnd.2.2 _ (by simp) _ hm rfl
              cases hva with
              | slm0 => omega
              | @slm _ _ _ _ cap g q1 q2 q3 q4 =>
                obtain ⟨g', arr, e, fr, m1, m2⟩ := hr.var l _ g1
                rw [q1] at m1
                cases m1
                have hcl : (us ++ rest).length = n + rest.length := by rw [List.length_append]; omega
                have hsz : n ≤ arr.size := by have := m2.le; omega
                have info : ∀ (i : Nat) (x : Int × Int), xs[i]? = some x → ∃ b cp, arr[i]? = some (.slice (some ⟨b, 0, none⟩) 2 cp) ∧ b ≠ g ∧ E.w.cell? ⟨b, 0, none⟩ = some (.int .i64 x.1) := by
                  intro i x hi
                  have hin : i < n := by have := (List.getElem?_eq_some_iff.1 hi).1; omega
                  obtain ⟨ci, li, ri, u1, u2, u3⟩ := hps i x hi
                  obtain ⟨val, w1, w2⟩ := m2.rep.get (i := i) (v := .slm (.is ci) li 0 2) (by rw [List.getElem?_append_left (by omega)]; exact u1)
                  have hne : li ≠ l := fun e => hnl (e ▸ u3)
                  cases w2 with
                  | @slm _ _ _ _ cp b r1 r2 r3 r4 =>
                    obtain ⟨b', arri, ei, fri, y1, y2⟩ := hr.var li _ u2
                    rw [r1] at y1
                    cases y1
                    refine ⟨b, cp, ?_, fun e => ?_, ?_⟩
                    · rw [List.getElem?_take] at w1
                      split at w1
                      · simpa using w1
                      · cases w1
                    · subst e
                      exact hne (hr.varinj li l b (by rw [u2]; rfl) (by rw [g1]; rfl) r1 q1)
                    · obtain ⟨v0, z1, z2⟩ := y2.rep.get (i := 0) (v := .int .i64 x.1) rfl
                      cases z2
                      rw [cell_of_row E.w _ _ arri ei fri y2.heap]
                      rw [List.getElem?_take] at z1
                      split at z1
                      · simpa using z1
                      · cases z1
                have hu' : ∀ k : Fin n, k.val < us.length := fun k => by have := k.isLt; omega
                have hx' : ∀ k : Fin n, k.val < xs.length := fun k => by have := k.isLt; omega
                let fu : Fin n → V := fun k => us[k.val]'(hu' k)
                let fx : Fin n → Int × Int := fun k => xs[k.val]'(hx' k)
                let enc : Fin n → Value := fun i => arr[i.val]'(by omega)
                let key : Fin n → Int := fun i => (xs[i.val]'(by omega)).1
                have hS := hsort.2 n enc key g cap arr e fr E.w hpos hlim m2.heap (fun o ho => m2.free o (by omega)) (fun i => by simp [enc]) (fun i => by
                  obtain ⟨b, cp, a1, a2, a3⟩ := info i.val (xs[i.val]'(by omega)) (by simp)
                  refine ⟨b, cp, ?_, a2, a3⟩
                  have : arr[i.val]? = some (enc i) := by simp [enc]
                  rw [this] at a1
                  exact Option.some.inj a1)
                refine hS.mono ?_
                rintro e' w' ⟨rfl, ks, arr', m, os, hp, hs, hsz', ha, hb, rfl⟩
                have hkl : ks.length = n := by rw [hp.length_eq, List.length_finRange]
                have hue : us = (List.finRange n).map fu := by
                  apply List.ext_getElem
                  · simp; omega
                  · intro i a b; simp [fu]
                have hxe : xs = (List.finRange n).map fx := by
                  apply List.ext_getElem
                  · simp; omega
                  · intro i a b; simp [fx]
                obtain ⟨us', hus'⟩ : ∃ us' : List V, us' = ks.map fu := ⟨_, rfl⟩
                obtain ⟨ys, hys⟩ : ∃ ys : List (Int × Int), ys = ks.map fx := ⟨_, rfl⟩
                have hul' : us'.length = n := by rw [hus', List.length_map, hkl]
                have o0 : OwL t (((List.finRange n).map fun k => (fu k, pairV (fx k))).map (·.1)) (((List.finRange n).map fun k => (fu k, pairV (fx k))).map (·.2)) la := by
                  have ea : ((List.finRange n).map fun k => (fu k, pairV (fx k))).map (·.1) = us := by rw [List.map_map]; exact hue.symm
                  have eb : ((List.finRange n).map fun k => (fu k, pairV (fx k))).map (·.2) = xs.map pairV := by
                    rw [List.map_map, hxe, List.map_map]; rfl
                  rw [ea, eb]; exact g6
                obtain ⟨ms, o1, o2⟩ := OwL.permZ (hp.symm.map fun k => (fu k, pairV (fx k))) o0
                have o1' : OwL t us' (ys.map pairV) ms := by
                  rw [List.map_map, List.map_map] at o1
                  rw [hus', hys, List.map_map]; exact o1
                have hfl' := o1'.pairs.1
                have hrep : RepL E (us' ++ rest) (arr'.toList.take (us' ++ rest).length) := by
                  refine RepL.ofGet (by have h1 := m2.le; have h2 : arr'.toList.length = arr.size := hsz'; rw [List.length_take, h2]; rw [List.length_append] at h1 ⊢; omega) fun i v val e1 e2 => ?_
                  rw [List.getElem?_take] at e2
                  split at e2
                  · rcases Nat.lt_or_ge i n with hlt | hge
                    · rw [List.getElem?_append_left (by omega), hus', List.getElem?_map] at e1
                      obtain ⟨k, k1, k2⟩ := Option.map_eq_some_iff.1 e1
                      have k3 := ha i k k1
                      rw [Array.getElem?_toList, k3] at e2
                      cases e2
                      have hk := k.isLt
                      obtain ⟨val, w1, w2⟩ := m2.rep.get (i := k.val) (v := v) (by rw [List.getElem?_append_left (by omega), List.getElem?_eq_getElem (by omega)]; exact congrArg some k2)
                      rw [List.getElem?_take] at w1
                      split at w1
                      · have : arr[k.val]? = some (enc k) := by simp [enc]
                        rw [Array.getElem?_toList, this] at w1
                        cases w1
                        exact w2
                      · cases w1
                    · rw [List.getElem?_append_right (by omega), hul'] at e1
                      obtain ⟨val', w1, w2⟩ := m2.rep.get (i := i) (v := v) (by rw [List.getElem?_append_right (by omega), g2]; exact e1)
                      rw [List.getElem?_take] at w1
                      split at w1
                      · rw [Array.getElem?_toList, hb i hge] at e2
                        rw [Array.getElem?_toList, e2] at w1
                        cases w1
                        exact w2
                      · cases w1
                  · cases e2
                obtain ⟨a1, b1⟩ := step_setVar hr (cs := us' ++ rest) (arr1 := arr') g1 q1 m2 (by simp; omega) hrep (by rw [hsz', List.length_append]; have := m2.le; omega)
                obtain ⟨E1, e1, a2, b2⟩ := b1.drewN m
                obtain ⟨E2, e2, a3, b3⟩ := b2.grown os.toList
                have same : ∀ p : Bool × Nat, p ≠ (true, l) → SameOn t (t.setVar l (us' ++ rest)) p := fun p hp => ⟨fun h1 => by
                  have : p.2 ≠ l := fun e => hp (by rw [← h1, ← e])
                  exact vars_setVar_ne this _, fun _ => rfl⟩
                have hmem : ∀ p ∈ ms, p ≠ (true, l) := fun p hp e => hnl (e ▸ o2.mem_iff.1 hp)
                have hle2 : LeL ((ms ++ [(true, l)]) ++ b0) ((la ++ [(true, l)]) ++ b0) := LeL.perm ((o2.append_right _).append_right _)
                refine ⟨E2, _, _, t.setVar l (us' ++ rest), rfl, by rw [e2, e1]; simp; rfl, ⟨rfl, ys, t.setVar l (us' ++ rest), ?_, ?_, (ext_nil b3).symm, ⟨(ms ++ [(true, l)]) ++ b0, .cons (show BOk (t.setVar l (us' ++ rest)) (.own _ _) _ from .slc (us := us') (rest := rest) (sz := sz) ?_ hul' ?_ g4 g5 ?_ (o1'.congr fun p hp => same p (hmem p hp))) (HoldL.congr (s := t) (s' := t.setVar l (us' ++ rest)) (Nat.le_refl _) k2 fun p hp => same p fun e => hnb (e ▸ hp)), hle2.1 h2, fun p hp => h3 p (hle2.2 p hp)⟩⟩, b3, .tup .nil, (a1.trans a2).trans a3⟩
                · rw [hys]
                  have := hp.map fx
                  rw [← hxe] at this; exact this
                · rw [hys, List.pairwise_map]; exact hs
                · rw [hfl', vars_setVar]
                · intro u hu
                  rw [hus'] at hu
                  obtain ⟨k, _, rfl⟩ := List.mem_map.1 hu
                  exact g3 _ (List.getElem_mem _)
                · intro e
                  rw [e] at hul'
                  simp at hul'
                  omega

end Go.Proofs.Ytkkifdgnebbghaa
