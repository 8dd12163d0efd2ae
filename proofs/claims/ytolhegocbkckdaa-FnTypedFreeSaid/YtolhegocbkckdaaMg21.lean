/-
  Lifting of a plan's tree, plainly; maps over the parts of plans.
  What has a type: its free columns lead to rows that are there; more rows without, and rows within under what is lifted, leave the type. Plain Lean.
  Own work; no condition.
-/
import Derived.Test.YtolhegocbkckdaaDPSize
import Derived.Test.YtolhegocbkckdaaMg19
import Derived.Test.YtolhegocbkckdaaDPFree
namespace Go.Proofs.Ytolhegocbkckdaa
open Go
set_option linter.unusedSimpArgs false
set_option linter.unusedVariables false
def PL.map (g : PE → PE) (p : PL) : PL := ⟨p.tables, p.on.map (List.map g), p.wher.map g, p.order.map (fun x => (g x.1, x.2)), p.items.map g, p.names, p.distinct, p.limit⟩
def upBy (b u k up : Int) : Int := if k = 2 ∧ u ≤ up then up + b else up
mutual
def PE.lf (b u : Int) : PE → PE
 | .mk k op nt value up pos kids sub => .mk k op nt value (upBy b u k up) pos (PE.lfL b u kids) (PE.lfS b (u + 1) sub)
def PE.lfL (b u : Int) : List PE → List PE
 | [] => []
 | x :: xs => PE.lf b u x :: PE.lfL b u xs
def PE.lfS (b u : Int) : List (PlanOf PE) → List (PlanOf PE)
 | [] => []
 | x :: xs => PE.lfP b u x :: PE.lfS b u xs
def PE.lfP (b u : Int) : PlanOf PE → PlanOf PE
 | ⟨t, on, w, o, i, n, d, l⟩ => ⟨t, PE.lfLL b u on, PE.lfL b u w, PE.lfO b u o, PE.lfL b u i, n, d, l⟩
def PE.lfLL (b u : Int) : List (List PE) → List (List PE)
 | [] => []
 | x :: xs => PE.lfL b u x :: PE.lfLL b u xs
def PE.lfO (b u : Int) : List (PE × Bool) → List (PE × Bool)
 | [] => []
 | x :: xs => PE.lf1 b u x :: PE.lfO b u xs
def PE.lf1 (b u : Int) : PE × Bool → PE × Bool
 | (e, d) => (PE.lf b u e, d)
end
theorem PE.lfL_eq (b u : Int) : ∀ l : List PE, PE.lfL b u l = l.map (PE.lf b u)
 | [] => rfl
 | x :: l => by simp only [PE.lfL, PE.lfL_eq b u l, List.map_cons]
theorem PE.lfS_eq (b u : Int) : ∀ l : List PL, PE.lfS b u l = l.map (PE.lfP b u)
 | [] => rfl
 | x :: l => by simp only [PE.lfS, PE.lfS_eq b u l, List.map_cons]
theorem PE.lfLL_eq (b u : Int) : ∀ l : List (List PE), PE.lfLL b u l = l.map (List.map (PE.lf b u))
 | [] => rfl
 | x :: l => by simp only [PE.lfLL, PE.lfLL_eq b u l, List.map_cons, PE.lfL_eq]
theorem PE.lfO_eq (b u : Int) : ∀ l : List (PE × Bool), PE.lfO b u l = l.map (fun x => (PE.lf b u x.1, x.2))
 | [] => rfl
 | x :: l => by
   obtain ⟨e, d⟩ := x
   simp only [PE.lfO, PE.lfO_eq b u l, List.map_cons, PE.lf1]
theorem PE.lfP_eq (b u : Int) (p : PL) : PE.lfP b u p = PL.map (PE.lf b u) p := by
 obtain ⟨t, on, w, o, i, n, d, l⟩ := p
 simp only [PE.lfP, PL.map, PE.lfL_eq, PE.lfLL_eq, PE.lfO_eq]
theorem PE.lfP_fun (b u : Int) : PE.lfP b u = PL.map (PE.lf b u) := funext (PE.lfP_eq b u)
theorem PL.map_parts (g : PE → PE) (p : PL) : (PL.map g p).parts = p.parts.map g := by
 obtain ⟨t, on, w, o, i, n, d, l⟩ := p
 simp only [PL.map, PlanOf.parts, List.map_append, List.map_map, List.map_flatten]
 rfl
def upOk (k : Int) : Bool := decide (0 ≤ k) && decide (k ≤ 1000)
mutual
def PE.ups : PE → Bool
 | .mk _ _ _ _ up _ kids sub => upOk up && (PE.upsL kids && PE.upsS sub)
def PE.upsL : List PE → Bool
 | [] => true
 | x :: xs => PE.ups x && PE.upsL xs
def PE.upsS : List (PlanOf PE) → Bool
 | [] => true
 | x :: xs => PE.upsP x && PE.upsS xs
def PE.upsP : PlanOf PE → Bool
 | ⟨_, on, w, o, i, _, _, _⟩ => PE.upsLL on && PE.upsL w && PE.upsO o && PE.upsL i
def PE.upsLL : List (List PE) → Bool
 | [] => true
 | x :: xs => PE.upsL x && PE.upsLL xs
def PE.upsO : List (PE × Bool) → Bool
 | [] => true
 | x :: xs => PE.ups1 x && PE.upsO xs
def PE.ups1 : PE × Bool → Bool
 | (e, _) => PE.ups e
end
theorem PE.upsL_eq : ∀ l : List PE, PE.upsL l = l.all PE.ups
 | [] => rfl
 | x :: l => by simp only [PE.upsL, PE.upsL_eq l, List.all_cons]
theorem PE.upsS_eq : ∀ l : List PL, PE.upsS l = l.all PE.upsP
 | [] => rfl
 | x :: l => by simp only [PE.upsS, PE.upsS_eq l, List.all_cons]
theorem PE.upsLL_eq : ∀ l : List (List PE), PE.upsLL l = l.flatten.all PE.ups
 | [] => rfl
 | x :: l => by simp only [PE.upsLL, PE.upsLL_eq l, List.flatten_cons, List.all_append, PE.upsL_eq]
theorem PE.upsO_eq : ∀ l : List (PE × Bool), PE.upsO l = (l.map (·.1)).all PE.ups
 | [] => rfl
 | x :: l => by
   obtain ⟨e, b⟩ := x
   simp only [PE.upsO, PE.upsO_eq l, List.map_cons, List.all_cons, PE.ups1]
theorem PE.upsP_eq (p : PL) : PE.upsP p = p.parts.all PE.ups := by
 obtain ⟨t, on, w, o, i, n, d, l⟩ := p
 simp only [PE.upsP, PlanOf.parts, List.all_append, PE.upsL_eq, PE.upsLL_eq, PE.upsO_eq]
theorem PE.upsP_fun : PE.upsP = fun p : PL => p.parts.all PE.ups := funext PE.upsP_eq
def liftB (e : PE) (b : Int) : Bool := (decide (0 ≤ b) && decide (b ≤ 1000)) && e.ups
def liftTop (e : PE) (b : Int) : PE := if liftB e b then e.lf b 0 else e
end Go.Proofs.Ytolhegocbkckdaa

namespace Go.Proofs.Ytolhegocbkckdaa
open Go
set_option linter.unusedSimpArgs false
set_option linter.unusedVariables false
def InE (env : List (List Int)) (b : Bind) : Prop := 0 ≤ b.up ∧ ∃ r, env[b.up.toNat]? = some r ∧ 0 ≤ b.pos ∧ b.pos < r.length
section
variable {c : Cat} {env : List (List Int)}
theorem tyL_mem : ∀ {l : List PE} {ts : List Int}, PE.tyL c env l = some ts → ∀ x ∈ l, ∃ t, x.ty c env = some t
 | [], _, _, x, hx => by cases hx
 | y :: l, ts, h, x, hx => by
   simp only [PE.tyL] at h
   split at h
   · cases h
   · rename_i t ht
     split at h
     · cases h
     · rename_i us hus
       rcases List.mem_cons.1 hx with rfl | hx
       · exact ⟨t, ht⟩
       · exact tyL_mem hus x hx
theorem tyS_mem : ∀ {l : List PL} {ts : List (List Int)}, PE.tyS c env l = some ts → ∀ x ∈ l, ∃ t, PE.tyP c env x = some t
 | [], _, _, x, hx => by cases hx
 | y :: l, ts, h, x, hx => by
   simp only [PE.tyS] at h
   split at h
   · cases h
   · rename_i t ht
     split at h
     · cases h
     · rename_i us hus
       rcases List.mem_cons.1 hx with rfl | hx
       · exact ⟨t, ht⟩
       · exact tyS_mem hus x hx
theorem tyT_mem : ∀ {l : List PE}, PE.tyT c env l = true → ∀ x ∈ l, ∃ t, x.ty c env = some t
 | [], _, x, hx => by cases hx
 | y :: l, h, x, hx => by
   simp only [PE.tyT, Bool.and_eq_true] at h
   rcases List.mem_cons.1 hx with rfl | hx
   · cases ht : PE.ty c env x with
     | none => rw [ht] at h; cases h.1
     | some t => exact ⟨t, rfl⟩
   · exact tyT_mem h.2 x hx
theorem tyO_mem : ∀ {l : List (PE × Bool)}, PE.tyO c env l = true → ∀ x ∈ l, ∃ t, x.1.ty c env = some t
 | [], _, x, hx => by cases hx
 | (y, d) :: l, h, x, hx => by
   simp only [PE.tyO, PE.ty1, Bool.and_eq_true] at h
   rcases List.mem_cons.1 hx with rfl | hx
   · exact Option.isSome_iff_exists.1 h.1
   · exact tyO_mem h.2 x hx
theorem tyOn_mem {t : List Int} : ∀ {l : List (List PE)} {j : Nat}, PE.tyOn c env t j l = true → ∀ xs ∈ l, ∀ x ∈ xs, ∃ r u, x.ty c (r :: env) = some u
 | [], _, _, xs, hx => by cases hx
 | y :: l, j, h, xs, hxs => by
   simp only [PE.tyOn, Bool.and_eq_true] at h
   rcases List.mem_cons.1 hxs with rfl | hxs
   · intro x hx
     obtain ⟨u, hu⟩ := tyT_mem h.1 x hx
     exact ⟨_, u, hu⟩
   · exact tyOn_mem h.2 xs hxs
theorem tyP_some {p : PL} {ts : List Int} (h : PE.tyP c env p = some ts) : PL.ok c p = true ∧ PE.tyOn c env p.tables 1 p.on = true ∧ PE.tyT c (rowsOf c p.tables :: env) p.wher = true ∧ PE.tyO c (rowsOf c p.tables :: env) p.order = true ∧ PE.tyL c (rowsOf c p.tables :: env) p.items = some ts := by
 rw [PE.tyP_eq] at h
 split at h
 · rename_i h1
   split at h
   · rename_i h2
     split at h
     · rename_i h3
       split at h
       · rename_i h4
         exact ⟨h1, h2, h3, h4, h⟩
       · cases h
     · cases h
   · cases h
 · cases h
theorem tyP_mem {p : PL} {ts : List Int} (h : PE.tyP c env p = some ts) : ∀ k ∈ p.parts, ∃ r t, k.ty c (r :: env) = some t := by
 obtain ⟨_, h2, h3, h4, h5⟩ := tyP_some h
 intro k hk
 simp only [PlanOf.parts, List.mem_append, List.mem_flatten, List.mem_map] at hk
 rcases hk with ((⟨q, k1, k2⟩ | k1) | ⟨x, k1, rfl⟩) | k1
 · exact tyOn_mem h2 q k1 k k2
 · exact ⟨_, tyT_mem h3 k k1⟩
 · exact ⟨_, tyO_mem h4 x k1⟩
 · exact ⟨_, tyL_mem h5 k k1⟩
theorem ty_some {e : PE} {t : Int} (h : e.ty c env = some t) : e.shape = true ∧ ∃ ks ss, PE.tyL c env e.kids = some ks ∧ PE.tyS c env e.sub = some ss ∧ resT env e.kind e.op e.value e.up e.pos ks ss = some t := by
 rw [PE.ty_eq] at h
 split at h
 · rename_i h1
   split at h
   · cases h
   · rename_i ks h2
     split at h
     · cases h
     · rename_i ss h3
       exact ⟨h1, ks, ss, h2, h3, h⟩
 · cases h
theorem resT_col {op : Int} {v : Val} {up pos : Int} {ks : List Int} {ss : List (List Int)} : resT env 2 op v up pos ks ss = colTy env up pos := by
 unfold resT
 rw [if_neg (by decide), if_pos rfl]
end
section
variable {c : Cat}
theorem colTy_in {pre env : List (List Int)} {up pos t : Int} (h : colTy (pre ++ env) up pos = some t) (hu : (pre.length : Int) ≤ up) : InE env ⟨up - pre.length, pos, 0⟩ := by
 unfold colTy at h
 split at h
 · rename_i hh
   rw [List.getElem?_append_right (by omega)] at h
   cases hr : env[up.toNat - pre.length]? with
   | none => rw [hr] at h; cases h
   | some r =>
     rw [hr] at h
     have h2 : r[pos.toNat]? = some t := h
     have hl := (List.getElem?_eq_some_iff.1 h2).1
     refine ⟨by dsimp only; omega, r, ?_, by dsimp only; omega, by dsimp only; omega⟩
     dsimp only
     rw [show (up - pre.length).toNat = up.toNat - pre.length by omega]
     exact hr
 · cases h
theorem free_ty (e : PE) : ∀ (pre env : List (List Int)) (t : Int), e.ty c (pre ++ env) = some t → ∀ b ∈ e.col freeAt pre.length, InE env b := by
 induction e using PE.ind with
 | h e ih1 ih2 =>
   intro pre env t h b hb
   obtain ⟨_, ks, ss, h2, h3, h4⟩ := ty_some h
   rw [PE.col_eq, List.mem_append, List.mem_append, List.mem_flatMap, List.mem_flatMap] at hb
   rcases hb with hb | ⟨x, hx, hb⟩ | ⟨p, hp, hb⟩
   · unfold freeAt at hb
     split at hb
     · rename_i hk
       rw [List.mem_singleton] at hb
       subst hb
       rw [hk.1, resT_col] at h4
       exact colTy_in h4 hk.2
     · cases hb
   · obtain ⟨u, hu⟩ := tyL_mem h2 x hx
     exact ih1 x hx pre env u hu b hb
   · obtain ⟨u, hu⟩ := tyS_mem h3 p hp
     rw [PE.colP_eq, List.mem_flatMap] at hb
     obtain ⟨k, hk, hb⟩ := hb
     obtain ⟨r, w, hw⟩ := tyP_mem hu k hk
     refine ih2 p hp k hk (r :: pre) env w hw b ?_
     rw [show (((r :: pre).length : Nat) : Int) = (pre.length : Int) + 1 by simp]
     exact hb
theorem free_ty0 {e : PE} {env : List (List Int)} {t : Int} (h : e.ty c env = some t) : ∀ b ∈ e.col freeAt 0, InE env b := free_ty e [] env t h
theorem on_head {g : PE → PE} : ∀ on : List (List PE), ((on.map (List.map g)).headD []).length = (on.headD []).length
 | [] => rfl
 | x :: l => by simp
theorem ok_map (g : PE → PE) (p : PL) : PL.ok c (PL.map g p) = PL.ok c p := by
 unfold PL.ok PL.form
 simp only [PL.map, List.length_map, List.all_map, on_head, Function.comp_def]
end
end Go.Proofs.Ytolhegocbkckdaa
