/-
  An element of an owned slice, taken out and put back.
  An append to a slice whose variable is open in the books, whatever its elements own; owned memory given up at a function's end, read off the books.
  Own work; no condition.
-/
import Derived.Test.YtbnbmcplmipgdaaGreatDoorVCap
import Derived.Test.YtbnbmcplmipgdaaGreatDoorMg15
namespace Go.Proofs.YtbnbmcplmipgdaaGreatDoor
open Go

theorem OwL.sizes {s : S} {sz : Nat} : ∀ {vs ds : List V} {ls : List (Bool × Nat)}, OwL s vs ds ls → (∀ d ∈ ds, d.cells.length = sz) → ∀ v ∈ vs, v.cells.length = sz
  | _, _, _, .nil, _ => fun v hv => by cases hv
  | _, _, _, .cons h t, hd => fun v hv => by
    rcases List.mem_cons.1 hv with rfl | hv
    · rw [← h.rd.cells_len]; exact hd _ (by simp)
    · exact t.sizes (fun d h => hd d (by simp [h])) v hv
theorem flat_app (a b : List V) : V.flat (a ++ b) = V.flat a ++ V.flat b := by simp [V.flat]

theorem LeL.perm {a b : List (Bool × Nat)} (h : a.Perm b) : LeL a b := ⟨fun n => h.nodup_iff.2 n, fun _ hp => h.mem_iff.1 hp⟩
/-- An element of an owned slice, by itself. -/
theorem Hold.openO {s : S} {b : Nat} {H : List BE} {c l n : Nat} {dA dZ : List V} {d : V} (sz : Nat) (h : Hold s b (.own (.slm (.is c) l 0 n) (.sl 0 (dA ++ d :: dZ)) :: H)) (hsz : ∀ x ∈ dA ++ d :: dZ, x.cells.length = sz) :
    ∃ (A Z : List V) (u : V) (rest : List V), (V.flat A).length = dA.length * sz ∧ rest.length = (c - n) * sz ∧ n ≤ c ∧ n = (dA ++ d :: dZ).length ∧
      Hold s b (.cell l (V.flat A ++ (u.cells ++ (V.flat Z ++ rest))) :: .own u d :: .own (.agg A) (.agg dA) :: .own (.agg Z) (.agg dZ) :: H) := by
  obtain ⟨ls, h1, h2, h3⟩ := h.ex
  cases h1 with
  | @cons _ a0 _ b0 k1 k2 =>
    have k1' : Ow s (.slm (.is c) l 0 n) (.sl 0 (dA ++ d :: dZ)) a0 := k1
    generalize hds : dA ++ d :: dZ = ds at k1' hsz
    cases k1' with
    | slm0 => simp at hds
    | @slc _ _ _ sz0 us _ rest la q1 q2 q3 q4 q5 q0 q6 =>
      subst hds
      obtain ⟨A, R, la1, la2, rfl, rfl, w1, w2⟩ := q6.split
      cases w2 with
      | @cons u Z _ _ lu lz w3 w4 =>
        have hus := q6.sizes hsz
        have hu : u.cells.length = sz := hus u (by simp)
        have hsz0 : sz0 = sz := by rw [← q3 u (by simp), hu]
        subst hsz0
        have hp : LeL ([(true, l)] ++ (lu ++ (la1 ++ (lz ++ b0)))) (((la1 ++ (lu ++ lz)) ++ [(true, l)]) ++ b0) := LeL.perm (List.perm_iff_count.2 fun x => by simp only [List.count_append]; omega)
        refine ⟨A, Z, u, rest, ?_, q4, q5, by rw [q6.len, q2], [(true, l)] ++ (lu ++ (la1 ++ (lz ++ b0))), .cons ⟨rfl, ?_⟩ (.cons w3 (.cons (show BOk s (.own (.agg A) (.agg dA)) la1 from .agg w1) (.cons (show BOk s (.own (.agg Z) (.agg dZ)) lz from .agg w4) k2))), hp.1 h2, fun p hp' => h3 p (hp.2 p hp')⟩
        · rw [flat_uniform (fun x hx => q3 x (by simp [hx])), w1.len]
        · rw [q1, flat_app, flat_cons]
          simp only [List.append_assoc]
theorem Hold.shutO {s : S} {b : Nat} {H : List BE} {c l n : Nat} {dA dZ A Z rest ce : List V} {u d : V} (sz : Nat) (h : Hold s b (.cell l (V.flat A ++ (ce ++ (V.flat Z ++ rest))) :: .own u d :: .own (.agg A) (.agg dA) :: .own (.agg Z) (.agg dZ) :: H)) (hce : ce = u.cells)
    (hsz : ∀ x ∈ dA ++ d :: dZ, x.cells.length = sz) (hr : rest.length = (c - n) * sz) (hnc : n ≤ c) (hn : n = (dA ++ d :: dZ).length) : Hold s b (.own (.slm (.is c) l 0 n) (.sl 0 (dA ++ d :: dZ)) :: H) := by
  subst hce
  obtain ⟨ls, h1, h2, h3⟩ := h.ex
  cases h1 with
  | @cons _ a0 _ b0 k1 h1 => cases h1 with
    | @cons _ a1 _ b1 k2 h1 => cases h1 with
      | @cons _ a2 _ b2 k3 h1 => cases h1 with
        | @cons _ a3 _ b3 k4 h1 =>
          obtain ⟨e1, e2⟩ := k1
          have k2' : Ow s u d a1 := k2
          have k3' : OwL s A dA a2 := by
            have k : Ow s (.agg A) (.agg dA) a2 := k3
            cases k with
            | scal h => simp [V.scal] at h
            | agg h => exact h
          have k4' : OwL s Z dZ a3 := by
            have k : Ow s (.agg Z) (.agg dZ) a3 := k4
            cases k with
            | scal h => simp [V.scal] at h
            | agg h => exact h
          have hw : OwL s (A ++ u :: Z) (dA ++ d :: dZ) (a2 ++ (a1 ++ a3)) := k3'.append (.cons k2' k4')
          have hp : LeL (((a2 ++ (a1 ++ a3)) ++ [(true, l)]) ++ b3) (a0 ++ (a1 ++ (a2 ++ (a3 ++ b3)))) := by
            rw [e1]
            exact LeL.perm (List.perm_iff_count.2 fun x => by simp only [List.count_append]; omega)
          refine ⟨_, .cons (show BOk s (.own _ _) _ from .slc (us := A ++ u :: Z) (rest := rest) ?_ (by rw [hn, hw.len]) (hw.sizes hsz) hr hnc (by simp) hw) h1, hp.1 h2, fun p hp' => h3 p (hp.2 p hp')⟩
          rw [e2, flat_app, flat_cons]
          simp only [List.append_assoc]
theorem Hold.unscal {s : S} {b : Nat} {H : List BE} {v d : V} {vs ds : List V} (h : Hold s b (.own (.agg (v :: vs)) (.agg (d :: ds)) :: H)) (hd : d.scal = true) : v = d ∧ Hold s b (.own (.agg vs) (.agg ds) :: H) :=
  ⟨h.unagg.scalOk hd, h.unagg.drop1⟩

theorem AnsL.idxO {P : Program} {L : Kn} {s : S} {tt : BT} (ht : tt.ok P) {T e : TypeId} {t te : Ty} {x i : Operand} {ex : Cp} {b off len j : Nat} {k : IntKind} (hx : opd L x = some (.slm ex b off len)) (hi : opd L i = some (.int k (j : Int))) (hT : tt.get T = some t) (hkd : t.kd = .slice e)
    (hte : tt.get e = some te) (hj : j < len) : AnsL P (.indexAddr T x i) L s (.ptr b (off + j * te.size)) := .idxM ht hx hi hT hkd hte hj

end Go.Proofs.YtbnbmcplmipgdaaGreatDoor

namespace Go.Proofs.YtbnbmcplmipgdaaGreatDoor
open Go
section
variable {P : Program} {N : Nat} {ops : Array Oper} {l : List Oper} {K : Kn → S → Prop} {L : Kn} {s : S} {tt : BT} {d : Nat} {ty : TypeId} {p : String} {a : Array Edge} {H H1 : List BE}
end
/-! ### Memory of one's own, given up, read off the books -/
theorem frzR {s : S} {v d : V} {ls : List (Bool × Nat)} (hrd : ∀ s' : S, s'.next = s.next → (∀ p ∈ ls, SameOn s s' p) → Rd s' v d) (hvs : ∀ p ∈ ls, p.1 = true ∧ (s.vars p.2).isSome = true) : VTurn v s d (s.lose ls) := by
  intro E val hr hv
  let so : S := { vars := fun x => if (true, x) ∈ ls then s.vars x else none, fams := fun _ => none, next := s.next }
  have hsov : ∀ l cs, so.vars l = some cs → (true, l) ∈ ls ∧ s.vars l = some cs := fun l cs hl => by
    by_cases e : (true, l) ∈ ls
    · have : so.vars l = s.vars l := if_pos e
      exact ⟨e, by rw [← this]; exact hl⟩
    · have : so.vars l = none := if_neg e
      rw [this] at hl; cases hl
  have hro : RelS E so := hr.weaken (fun l cs hl => (hsov l cs hl).2) (fun _ _ h => by cases h) (Nat.le_refl _)
  have hrd : Rd so v d := hrd so rfl fun p hp => ⟨fun e => by
    have e2 : p = (true, p.2) := by rw [← e]
    have : so.vars p.2 = s.vars p.2 := if_pos (by rw [← e2]; exact hp)
    exact this, fun e => by rw [(hvs p hp).1] at e; cases e⟩
  have hls : ∀ l cs, (s.lose ls).vars l = some cs → (true, l) ∉ ls ∧ s.vars l = some cs := fun l cs hl => by
    by_cases e : (true, l) ∈ ls
    · have : (s.lose ls).vars l = none := if_pos e
      rw [this] at hl; cases hl
    · have : (s.lose ls).vars l = s.vars l := if_neg e
      exact ⟨e, by rw [← this]; exact hl⟩
  have hlss : ∀ l, ((s.lose ls).vars l).isSome = true → (true, l) ∉ ls ∧ (s.vars l).isSome = true := fun l hl => by
    obtain ⟨cs, hcs⟩ := Option.isSome_iff_exists.1 hl
    obtain ⟨a, b⟩ := hls l cs hcs
    exact ⟨a, by rw [b]; rfl⟩
  have ev : Evolve E (lentEnv E so) := ⟨fun _ _ i => .inl i, fun _ _ _ => rfl, fun _ _ h => h, fun id F hF => ⟨F, hF, Nat.le_refl _, fun _ => rfl⟩⟩
  refine ⟨lentEnv E so, rfl, hr.fin3 ⟨ev, rfl, rfl, rfl, Nat.le_refl _, fun _ _ _ => rfl, fun k _ ht => ?_, Nat.le_refl _⟩ ⟨fun l cs hl => ?_, fun l l' g hl hl' => hr.varinj l l' g (hlss l hl).2 (hlss l' hl').2, fun id n sz hid => ?_, hr.faminj, fun l g id F hl => hr.famvar l g id F (hlss l hl).2, hr.fresh, hr.pos, fun g o i => ?_⟩ (Rd.rep hro hrd hv)⟩
  · rcases ht with ⟨l, hl, hg⟩ | ht
    · exact .inl ⟨l, (hlss l hl).2, hg⟩
    · exact .inr ht
  · obtain ⟨hn, hv0⟩ := hls l cs hl
    obtain ⟨g, arr, e, fr, h1, h2⟩ := hr.var l cs hv0
    refine ⟨g, arr, e, fr, h1, h2.heap, h2.rep.evolve ev, h2.le, h2.free, fun o i => ?_⟩
    rcases i with i | ⟨l2, cs2, k1, k2, _⟩
    · exact h2.imm o i
    · obtain ⟨k3, k4⟩ := hsov l2 cs2 k1
      have := hr.varinj l l2 g (by rw [hv0]; rfl) (by rw [k4]; rfl) h1 k2
      exact hn (this ▸ k3)
  · obtain ⟨h00, F, h1, h2, h3, h4, h5, h6⟩ := hr.fam id n sz hid
    refine ⟨h00, F, h1, h2, h3, h4, h5, fun g hg => ?_⟩
    obtain ⟨arr, e, fr, h7, h8, h9, h10⟩ := h6 g hg
    refine ⟨arr, e, fr, h7, h8, h9, fun o ho i => ?_⟩
    rcases i with i | ⟨l2, cs2, k1, k2, _⟩
    · exact h10 o ho i
    · obtain ⟨k3, k4⟩ := hsov l2 cs2 k1
      exact hr.famvar l2 g id F (by rw [k4]; rfl) k2 (by rw [show s.fams id = some (n, sz) from hid]; rfl) h1 hg
  · rcases i with i | ⟨l, cs, k1, k2, ho⟩
    · exact hr.imm g o i
    · obtain ⟨g', arr, e, fr, m1, m2⟩ := hro.var l cs k1
      rw [k2] at m1
      cases m1
      have := m2.le
      exact ⟨arr[o]'(by omega), by show E.w.cell? _ = _; rw [cell_of_row E.w _ _ arr e fr m2.heap]; simp⟩
/-- Entries that are variables alone. -/
def BE.co : BE → Bool
  | .cell _ _ => true
  | .own _ _ => true
  | _ => false
theorem HoldL.split {s : S} : ∀ {A B : List BE} {ls : List (Bool × Nat)}, HoldL s (A ++ B) ls → ∃ a b, ls = a ++ b ∧ HoldL s A a ∧ HoldL s B b
  | [], B, ls, h => ⟨[], ls, rfl, .nil, h⟩
  | e :: A, B, ls, h => by
    cases h with
    | cons h1 t =>
      obtain ⟨a, b, rfl, k1, k2⟩ := HoldL.split t
      exact ⟨_ ++ a, b, by rw [List.append_assoc], .cons h1 k1, k2⟩
theorem HoldL.co {s : S} : ∀ {A : List BE} {ls : List (Bool × Nat)}, HoldL s A ls → A.all BE.co = true → ∀ p ∈ ls, p.1 = true ∧ (s.vars p.2).isSome = true
  | _, _, .nil, _ => fun p hp => by cases hp
  | e :: A, _, .cons h1 t, h => fun p hp => by
    rw [List.all_cons, Bool.and_eq_true] at h
    rcases List.mem_append.1 hp with hp | hp
    · cases e with
      | cell l cs =>
        obtain ⟨rfl, h1⟩ := h1
        rw [List.mem_singleton] at hp
        subst hp
        exact ⟨rfl, by rw [h1]; rfl⟩
      | own v d => exact Ow.vars h1 p hp
      | blk => cases h.1
      | acc => cases h.1
      | fac => cases h.1
    · exact HoldL.co t h.2 p hp
/-- What is answered at a function's end, read off entries that are given up. -/
structure FinS (s : S) (v d : V) (H : List BE) : Prop where
  ex : ∃ es, Hold s s.next (es ++ H) ∧ es.all BE.co = true ∧ ∀ (s' : S) ls, HoldL s' es ls → Rd s' v d
theorem FinS.turn {s : S} {v d : V} {H : List BE} (h : FinS s v d H) : ∃ s' : S, VTurn v (s.ext []) d (s'.ext []) ∧ Hold s' s'.next H := by
  obtain ⟨es, h1, h2, h3⟩ := h.ex
  obtain ⟨ls, k1, k2, k3⟩ := h1.ex
  obtain ⟨a, b, rfl, m1, m2⟩ := k1.split
  have hlt : ∀ p ∈ a, p.2 < s.next := fun p hp => k3 p (List.mem_append_left _ hp)
  have e : (s.ext []).lose a = (s.lose a).ext [] := by
    refine S.ext_eq (fun x => ?_) (fun x => rfl) rfl
    show (if (true, x) ∈ a then none else (s.ext []).vars x) = (if x < s.next then (if (true, x) ∈ a then none else s.vars x) else Own.cells? ([][x - s.next]?))
    by_cases hx : x < s.next
    · rw [if_pos hx, ext_vars_lt s [] hx]
    · rw [if_neg hx]
      by_cases hm : (true, x) ∈ a
      · exact absurd (hlt _ hm) hx
      · rw [if_neg hm]
        show (if x < s.next then s.vars x else Own.cells? ([][x - s.next]?)) = _
        rw [if_neg hx]
  have m0 : HoldL (s.ext []) es a := m1.congr (by rw [ext_next]; omega) fun p hp => .lt (hlt p hp)
  refine ⟨s.lose a, by rw [← e]; exact frzR (fun s' hn hs => h3 s' a (m0.congr (by rw [hn]; exact Nat.le_refl _) hs)) (m0.co h2), b, HoldL.congr (s := s) (s' := s.lose a) (show s.next ≤ s.next from Nat.le_refl _) m2 fun p hp => ⟨fun ep => ?_, fun _ => rfl⟩, (List.nodup_append.1 k2).2.1, fun p hp => k3 p (List.mem_append_right _ hp)⟩
  show (if (true, p.2) ∈ a then none else s.vars p.2) = s.vars p.2
  refine if_neg fun hm => (List.nodup_append.1 k2).2.2 _ hm p hp ?_
  obtain ⟨p1, p2⟩ := p
  simp only at ep ⊢
  rw [ep]
theorem RdL.app {s : S} : ∀ {vs ds ws es : List V}, RdL s vs ds → RdL s ws es → RdL s (vs ++ ws) (ds ++ es)
  | _, _, _, _, .nil, k => k
  | _, _, _, _, .cons h t, k => .cons h (t.app k)
/-- Plain values, and behind them one that is given up. -/
theorem FinS.pl {s : S} {H H' H2 : List BE} {v d : V} (ps : List V) (hh : Hold s s.next H') (hc : ConsO H' v d H2) (hs : Sel H2 H) (hp : V.plainL ps = true) : FinS s (.agg (ps ++ [v])) (.agg (ps ++ [d])) H :=
  ⟨[.own v d], (hh.pack hc).sel (.cons 0 rfl rfl hs), rfl, fun s' ls h => by
    cases h with
    | cons h1 t => exact .agg ((RdL.plain ps hp).app (.cons (Ow.rd h1) .nil))⟩
theorem VCalls.frzST {P : Program} {g : FuncId} {args : List V} {t0 : S} {α : Type} {f : α → List V} {p : α → Prop} {H : List BE} (h : VCalls P g args t0 (fun v t => ∃ (x : α) (s' : S) (vs : List V), p x ∧ v = .tup vs ∧ t = s'.ext [] ∧ FinS s' (.agg vs) (.agg (f x)) H)) :
    VCalls P g args t0 (fun v t => ∃ (x : α) (s' : S), p x ∧ v = .tup (f x) ∧ t = s'.ext [] ∧ Hold s' s'.next H) := by
  refine VCalls.turn h fun v t _ ⟨x, s', vs, h1, h0, h2, h3⟩ => ?_
  subst h2 h0
  obtain ⟨s2, k1, k2⟩ := h3.turn
  exact ⟨.tup (f x), s2.ext [], k1.tup, x, s2, h1, rfl, rfl, k2⟩
end Go.Proofs.YtbnbmcplmipgdaaGreatDoor
