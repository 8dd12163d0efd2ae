/-
  What is free and what is lifted, plainly. Own work; no condition.
-/
import Derived.Test.YtolhegocbkckdaaDPFree
import Derived.Test.YtolhegocbkckdaaDLiftDef
import Derived.Test.YtolhegocbkckdaaDPSame
import Derived.Test.YtolhegocbkckdaaVDraw
namespace Go.Proofs.Ytolhegocbkckdaa
open Go
set_option linter.unusedSimpArgs false
set_option linter.unusedVariables false

theorem VCalls.wfR {P : Program} {f : FuncId} {args : List V} {s : S} {R : V → S → Prop} (h : VCalls P f args s R) : VCalls P f args s (fun v t => R v t ∧ v.wf = true) :=
  fun E vals h1 h2 => (h E vals h1 h2).mono fun _ _ ⟨E', v, val, s', a, b, c, d⟩ => ⟨E', v, val, s', a, b, ⟨c, RepV.wf (by first | exact a | exact b | exact d | exact d.1 | exact d.2 | exact d.2.1 | exact b.1)⟩, d⟩
theorem DrwAll.wf {P : Program} {g : FuncId} {b : V} {α : Type} {f : α → V} {p : α → Prop} (h : DrwAll P g b f p) : DrwAll P g b f (fun x => p x ∧ (f x).wf = true) := fun s H hh =>
  (h s H hh).wfR.mono fun v t ⟨⟨x, s', h1, h2, h3⟩, h4⟩ => ⟨x, s', ⟨h1, h2 ▸ h4⟩, h2, h3⟩

theorem fm_flat {α β γ : Type} (g : β → Option γ) (f : α → List β) : ∀ l : List α, (l.flatMap f).filterMap g = l.flatMap (fun x => (f x).filterMap g)
  | [] => rfl
  | x :: l => by rw [List.flatMap_cons, List.filterMap_append, fm_flat g f l, List.flatMap_cons]
theorem flatF_congr {α β : Type} {f g : α → List β} : ∀ {l : List α}, (∀ x ∈ l, f x = g x) → l.flatMap f = l.flatMap g
  | [], _ => rfl
  | x :: l, h => by rw [List.flatMap_cons, List.flatMap_cons, h x (by simp), flatF_congr fun y hy => h y (by simp [hy])]
theorem flatF_map {α β γ : Type} (h : β → γ) (f : α → List β) : ∀ l : List α, (l.flatMap f).map h = l.flatMap (fun x => (f x).map h)
  | [] => rfl
  | x :: l => by rw [List.flatMap_cons, List.map_append, flatF_map h f l, List.flatMap_cons]
theorem flatF_of_map {α β γ : Type} (h : α → β) (f : β → List γ) : ∀ l : List α, (l.map h).flatMap f = l.flatMap (fun x => f (h x))
  | [] => rfl
  | x :: l => by rw [List.map_cons, List.flatMap_cons, flatF_of_map h f l, List.flatMap_cons]
theorem flatF_nil {α β : Type} {f : α → List β} {l : List α} (h : l.flatMap f = []) : ∀ x ∈ l, f x = [] := List.flatMap_eq_nil_iff.1 h

/-- What remains of a free column seen from one further out. -/
def dnB (b : Bind) : Option Bind := if 0 < b.up then some ⟨b.up - 1, b.pos, 0⟩ else none
theorem freeAt_dn (u k up pos : Int) : (freeAt u k up pos).filterMap dnB = freeAt (u + 1) k up pos := by
  unfold freeAt
  by_cases h : k = 2 ∧ u ≤ up
  · rw [if_pos h]
    by_cases h2 : u + 1 ≤ up
    · rw [if_pos ⟨h.1, h2⟩]
      have h3 : 0 < up - u := by omega
      have h4 : up - u - 1 = up - (u + 1) := by omega
      have e : dnB ⟨up - u, pos, 0⟩ = some ⟨up - (u + 1), pos, 0⟩ := by
        unfold dnB
        dsimp only
        rw [if_pos h3, h4]
      simp only [List.filterMap_cons, e, List.filterMap_nil]
    · rw [if_neg (fun h5 => h2 h5.2)]
      have h3 : ¬ 0 < up - u := by omega
      have e : dnB ⟨up - u, pos, 0⟩ = none := by
        unfold dnB
        dsimp only
        rw [if_neg h3]
      simp only [List.filterMap_cons, e, List.filterMap_nil]
  · rw [if_neg h, if_neg (fun h5 => h ⟨h5.1, by omega⟩)]
    rfl
theorem free_dn (e : PE) : ∀ u, (e.col freeAt u).filterMap dnB = e.col freeAt (u + 1) := by
  induction e using PE.ind with
  | h e ih1 ih2 =>
    intro u
    rw [PE.col_eq, PE.col_eq, List.filterMap_append, List.filterMap_append, freeAt_dn, fm_flat, fm_flat]
    congr 2
    · exact flatF_congr fun x hx => ih1 x hx u
    · refine flatF_congr fun p hp => ?_
      rw [PE.colP_eq, PE.colP_eq, fm_flat]
      exact flatF_congr fun k hk => ih2 p hp k hk (u + 1)

theorem mapF_id' {α : Type} {g : α → α} : ∀ {l : List α}, (∀ x ∈ l, g x = x) → l.map g = l
  | [], _ => rfl
  | x :: l, h => by rw [List.map_cons, h x (by simp), mapF_id' fun y hy => h y (by simp [hy])]
theorem PL.map_idF (g : PE → PE) (p : PL) (h : ∀ k ∈ p.parts, g k = k) : PL.map g p = p := by
  obtain ⟨t, on, w, o, i, n, d, l⟩ := p
  have a1 : on.map (List.map g) = on := mapF_id' fun l hl => mapF_id' fun x hx => h x (PlanOf.mem_on (p := ⟨t, on, w, o, i, n, d, _⟩) hl hx)
  have a2 : w.map g = w := mapF_id' fun x hx => h x (PlanOf.mem_wher (p := ⟨t, on, w, o, i, n, d, _⟩) hx)
  have a3 : o.map (fun x => (g x.1, x.2)) = o := mapF_id' fun x hx => by rw [h x.1 (PlanOf.mem_order (p := ⟨t, on, w, o, i, n, d, _⟩) hx)]
  have a4 : i.map g = i := mapF_id' fun x hx => h x (PlanOf.mem_items (p := ⟨t, on, w, o, i, n, d, _⟩) hx)
  simp only [PL.map, a1, a2, a3, a4]
theorem PE.etaF (x : PE) : PE.mk x.kind x.op x.nt x.value x.up x.pos x.kids x.sub = x := by cases x; rfl
theorem lf_none (b : Int) (e : PE) : ∀ u, e.col freeAt u = [] → e.lf b u = e := by
  induction e using PE.ind with
  | h e ih1 ih2 =>
    intro u h
    rw [PE.col_eq, List.append_eq_nil_iff, List.append_eq_nil_iff] at h
    obtain ⟨h1, h2, h3⟩ := h
    rw [PE.lf_eq]
    have a1 : upBy b u e.kind e.up = e.up := by
      unfold freeAt at h1
      unfold upBy
      by_cases hk : e.kind = 2 ∧ u ≤ e.up
      · rw [if_pos hk] at h1; cases h1
      · rw [if_neg hk]
    have a2 : e.kids.map (PE.lf b u) = e.kids := mapF_id' fun x hx => ih1 x hx u (flatF_nil h2 x hx)
    have a3 : e.sub.map (PL.map (PE.lf b (u + 1))) = e.sub := mapF_id' fun p hp => PL.map_idF _ p fun k hk => ih2 p hp k hk (u + 1) (by
      have h4 := flatF_nil h3 p hp
      rw [PE.colP_eq] at h4
      exact flatF_nil h4 k hk)
    rw [a1, a2, a3]
    exact PE.etaF e
theorem freeAt_lf {b : Int} (hb : 0 ≤ b) (u k up pos : Int) : freeAt u k (upBy b u k up) pos = (freeAt u k up pos).map (fun x => ⟨x.up + b, x.pos, 0⟩) := by
  unfold freeAt upBy
  by_cases h : k = 2 ∧ u ≤ up
  · rw [if_pos h, if_pos h, if_pos ⟨h.1, by omega⟩]
    simp only [List.map_cons, List.map_nil]
    congr 2
    omega
  · rw [if_neg h, if_neg h]; rfl
theorem free_lf {b : Int} (hb : 0 ≤ b) (e : PE) : ∀ u, (e.lf b u).col freeAt u = (e.col freeAt u).map (fun x => ⟨x.up + b, x.pos, 0⟩) := by
  induction e using PE.ind with
  | h e ih1 ih2 =>
    intro u
    rw [PE.col_eq freeAt u e, PE.col_eq freeAt u (e.lf b u), PE.lf_eq, List.map_append, List.map_append, flatF_map, flatF_map]
    simp only [PE.kind, PE.up, PE.pos, PE.kids, PE.sub]
    rw [freeAt_lf hb, flatF_of_map, flatF_of_map]
    congr 2
    · exact flatF_congr fun x hx => ih1 x hx u
    · refine flatF_congr fun p hp => ?_
      rw [PE.colP_eq, PE.colP_eq, PL.map_parts, flatF_of_map, flatF_map]
      exact flatF_congr fun k hk => ih2 p hp k hk (u + 1)
theorem up_lf {a b : Int} (ha : 0 ≤ a) (u k up : Int) : upBy b u k (upBy a u k up) = upBy (a + b) u k up := by
  unfold upBy
  by_cases h : k = 2 ∧ u ≤ up
  · rw [if_pos h, if_pos h, if_pos ⟨h.1, by omega⟩]; omega
  · rw [if_neg h, if_neg h, if_neg h]
theorem PL.map_mapF (f g : PE → PE) (p : PL) : PL.map f (PL.map g p) = PL.map (fun x => f (g x)) p := by
  obtain ⟨t, on, w, o, i, n, d, l⟩ := p
  simp only [PL.map, List.map_map, Function.comp_def]
theorem mapF_congr' {α β : Type} {f g : α → β} : ∀ {l : List α}, (∀ x ∈ l, f x = g x) → l.map f = l.map g
  | [], _ => rfl
  | x :: l, h => by rw [List.map_cons, List.map_cons, h x (by simp), mapF_congr' fun y hy => h y (by simp [hy])]
theorem PL.map_congrF {f g : PE → PE} (p : PL) (h : ∀ k ∈ p.parts, f k = g k) : PL.map f p = PL.map g p := by
  obtain ⟨t, on, w, o, i, n, d, l⟩ := p
  have a1 : on.map (List.map f) = on.map (List.map g) := mapF_congr' fun l hl => mapF_congr' fun x hx => h x (PlanOf.mem_on (p := ⟨t, on, w, o, i, n, d, _⟩) hl hx)
  have a2 : w.map f = w.map g := mapF_congr' fun x hx => h x (PlanOf.mem_wher (p := ⟨t, on, w, o, i, n, d, _⟩) hx)
  have a3 : o.map (fun x => (f x.1, x.2)) = o.map (fun x => (g x.1, x.2)) := mapF_congr' fun x hx => by rw [h x.1 (PlanOf.mem_order (p := ⟨t, on, w, o, i, n, d, _⟩) hx)]
  have a4 : i.map f = i.map g := mapF_congr' fun x hx => h x (PlanOf.mem_items (p := ⟨t, on, w, o, i, n, d, _⟩) hx)
  simp only [PL.map, a1, a2, a3, a4]
theorem lf_lf {a : Int} (ha : 0 ≤ a) (b : Int) (e : PE) : ∀ u, (e.lf a u).lf b u = e.lf (a + b) u := by
  induction e using PE.ind with
  | h e ih1 ih2 =>
    intro u
    rw [PE.lf_eq b u (e.lf a u), PE.lf_eq a u e, PE.lf_eq (a + b) u e]
    simp only [PE.kind, PE.op, PE.nt, PE.value, PE.up, PE.pos, PE.kids, PE.sub, List.map_map, Function.comp_def]
    rw [up_lf ha]
    congr 1
    · exact mapF_congr' fun x hx => ih1 x hx u
    · refine mapF_congr' fun p hp => ?_
      rw [PL.map_mapF]
      exact PL.map_congrF p fun k hk => ih2 p hp k hk (u + 1)
theorem freeAt_var (u v k up pos : Int) : (freeAt u k up pos).length ≤ (varAt v k up pos).length := by
  unfold freeAt varAt
  by_cases h : k = 2
  · rw [if_pos h]; split <;> simp
  · rw [if_neg h, if_neg (fun h1 => h h1.1)]; simp
theorem flatF_len_le {α β γ : Type} {f : α → List β} {g : α → List γ} {l : List α} (h : ∀ x ∈ l, (f x).length ≤ (g x).length) : (l.flatMap f).length ≤ (l.flatMap g).length := by
  induction l with
  | nil => simp
  | cons x l ih =>
    have h1 := h x (by simp)
    have h2 := ih fun y hy => h y (by simp [hy])
    simp only [List.flatMap_cons, List.length_append]
    omega
theorem free_var (e : PE) : ∀ u v, (e.col freeAt u).length ≤ (e.col varAt v).length := by
  induction e using PE.ind with
  | h e ih1 ih2 =>
    intro u v
    rw [PE.col_eq, PE.col_eq]
    simp only [List.length_append]
    have h1 := freeAt_var u v e.kind e.up e.pos
    have h2 := flatF_len_le (f := PE.col freeAt u) (g := PE.col varAt v) (l := e.kids) fun x hx => ih1 x hx u v
    have h3 := flatF_len_le (f := PE.colP freeAt (u + 1)) (g := PE.colP varAt (v + 1)) (l := e.sub) fun p hp => by
      rw [PE.colP_eq, PE.colP_eq]
      exact flatF_len_le fun k hk => ih2 p hp k hk (u + 1) (v + 1)
    omega

theorem wfLF_mem {α : Type} {f : α → V} {l : List α} (h : V.wfL (l.map f) = true) {x : α} (hx : x ∈ l) : (f x).wf = true := by
  rw [V.wfL_eq, List.all_eq_true] at h
  exact h _ (List.mem_map.2 ⟨x, hx, rfl⟩)
theorem PE.wf_up {e : PE} (h : e.v.wf = true) : e.up ≤ 9223372036854775807 ∧ (∀ k ∈ e.kids, k.v.wf = true) ∧ ∀ p ∈ e.sub, p.v.wf = true := by
  simp only [PE.v, V.wf, V.wfL, Bool.and_true, Bool.and_eq_true, decide_eq_true_eq, min_i64, max_i64] at h
  obtain ⟨-, -, -, -, -, -, h6, -, h8, h9⟩ := h
  exact ⟨h6.2, fun k hk => by have := wfLF_mem h8.2 hk; rwa [PE.toV_eq] at this, fun k hk => by have := wfLF_mem h9.2 hk; rwa [PE.planV_eq] at this⟩
theorem PL.wf_parts {p : PL} (h : p.v.wf = true) : ∀ k ∈ p.parts, k.v.wf = true := by
  simp only [PL.v, V.wf, V.wfL, Bool.and_true, Bool.and_eq_true, decide_eq_true_eq, min_i64, max_i64] at h
  obtain ⟨-, h1, h2, h3, h4, -⟩ := h
  intro k hk
  simp only [PlanOf.parts, List.mem_append, List.mem_flatten, List.mem_map] at hk
  rcases hk with ((⟨l, hl, hk⟩ | hk) | ⟨x, hx, rfl⟩) | hk
  · have := wfLF_mem h1.2 hl
    simp only [PE.vS, V.wf, Bool.and_eq_true] at this
    have := wfLF_mem this.2 hk
    rwa [PE.toV_eq] at this
  · have := wfLF_mem h2.2 hk
    rwa [PE.toV_eq] at this
  · have := wfLF_mem h3.2 hx
    simp only [PE.sv, V.wf, V.wfL, Bool.and_true, Bool.and_eq_true, decide_eq_true_eq] at this
    simp only [PE.v, V.wf, V.wfL, Bool.and_true, Bool.and_eq_true, decide_eq_true_eq]
    exact this
  · have := wfLF_mem h4.2 hk
    rwa [PE.toV_eq] at this
theorem free_up (e : PE) : ∀ u, 0 ≤ u → e.v.wf = true → ∀ b ∈ e.col freeAt u, 0 ≤ b.up ∧ b.up ≤ 9223372036854775807 := by
  induction e using PE.ind with
  | h e ih1 ih2 =>
    intro u hu hw b hb
    obtain ⟨h1, h2, h3⟩ := PE.wf_up hw
    rw [PE.col_eq, List.mem_append, List.mem_append, List.mem_flatMap, List.mem_flatMap] at hb
    rcases hb with hb | ⟨x, hx, hb⟩ | ⟨p, hp, hb⟩
    · unfold freeAt at hb
      split at hb
      · rw [List.mem_singleton] at hb; subst hb; dsimp only; omega
      · cases hb
    · exact ih1 x hx u hu (h2 x hx) b hb
    · rw [PE.colP_eq, List.mem_flatMap] at hb
      obtain ⟨k, hk, hb⟩ := hb
      exact ih2 p hp k hk (u + 1) (by omega) (PL.wf_parts (h3 p hp) k hk) b hb
theorem free_ups (e : PE) : ∀ u, 0 ≤ u → e.ups = true → ∀ b ∈ e.col freeAt u, 0 ≤ b.up ∧ b.up ≤ 1000 := by
  induction e using PE.ind with
  | h e ih1 ih2 =>
    intro u hu hw b hb
    rw [PE.ups_eq] at hw
    simp only [Bool.and_eq_true, List.all_eq_true, upOk, decide_eq_true_eq] at hw
    obtain ⟨h1, h2, h3⟩ := hw
    rw [PE.col_eq, List.mem_append, List.mem_append, List.mem_flatMap, List.mem_flatMap] at hb
    rcases hb with hb | ⟨x, hx, hb⟩ | ⟨p, hp, hb⟩
    · unfold freeAt at hb
      split at hb
      · rw [List.mem_singleton] at hb; subst hb; dsimp only; omega
      · cases hb
    · exact ih1 x hx u hu (h2 x hx) b hb
    · rw [PE.colP_eq, List.mem_flatMap] at hb
      obtain ⟨k, hk, hb⟩ := hb
      exact ih2 p hp k hk (u + 1) (by omega) (h3 p hp k hk) b hb
theorem lift_none (e : PE) (b : Int) (h : e.col freeAt 0 = []) : liftTop e b = e := by
  unfold liftTop
  split
  · exact lf_none b e 0 h
  · rfl

end Go.Proofs.Ytolhegocbkckdaa
