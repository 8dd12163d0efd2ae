/-
 References that lead out of a plan's tree, and all references of plans, of the program and of the reference. Printed by a program of our own; no condition.
-/
import Derived.Test.YtolhegocbkckdaaMg19
import Derived.Test.YtolhegocbkckdaaDPSize
namespace Go.Proofs.Ytolhegocbkckdaa
open Go
set_option linter.unusedSimpArgs false
set_option linter.unusedVariables false
def freeAt (u k up pos : Int) : List Bind := if k = 2 ∧ u ≤ up then [⟨up - u, pos, 0⟩] else []
def varAt (_ k up pos : Int) : List Bind := if k = 2 then [⟨up, pos, 0⟩] else []
mutual
def PE.col (f : Int → Int → Int → Int → List Bind) (u : Int) : PE → List Bind
 | .mk k _ _ _ up pos kids sub => f u k up pos ++ (PE.colL f u kids ++ PE.colS f (u + 1) sub)
def PE.colL (f : Int → Int → Int → Int → List Bind) (u : Int) : List PE → List Bind
 | [] => []
 | x :: xs => PE.col f u x ++ PE.colL f u xs
def PE.colS (f : Int → Int → Int → Int → List Bind) (u : Int) : List (PlanOf PE) → List Bind
 | [] => []
 | x :: xs => PE.colP f u x ++ PE.colS f u xs
def PE.colP (f : Int → Int → Int → Int → List Bind) (u : Int) : PlanOf PE → List Bind
 | ⟨_, on, w, o, i, _, _, _⟩ => PE.colLL f u on ++ PE.colL f u w ++ PE.colO f u o ++ PE.colL f u i
def PE.colLL (f : Int → Int → Int → Int → List Bind) (u : Int) : List (List PE) → List Bind
 | [] => []
 | x :: xs => PE.colL f u x ++ PE.colLL f u xs
def PE.colO (f : Int → Int → Int → Int → List Bind) (u : Int) : List (PE × Bool) → List Bind
 | [] => []
 | x :: xs => PE.col1 f u x ++ PE.colO f u xs
def PE.col1 (f : Int → Int → Int → Int → List Bind) (u : Int) : PE × Bool → List Bind
 | (e, _) => PE.col f u e
end
section
variable (f : Int → Int → Int → Int → List Bind)
theorem PE.colL_eq (u : Int) : ∀ l : List PE, PE.colL f u l = l.flatMap (PE.col f u)
 | [] => rfl
 | x :: l => by simp only [PE.colL, PE.colL_eq u l, List.flatMap_cons]
theorem PE.colS_eq (u : Int) : ∀ l : List PL, PE.colS f u l = l.flatMap (PE.colP f u)
 | [] => rfl
 | x :: l => by simp only [PE.colS, PE.colS_eq u l, List.flatMap_cons]
theorem PE.colLL_eq (u : Int) : ∀ l : List (List PE), PE.colLL f u l = l.flatten.flatMap (PE.col f u)
 | [] => rfl
 | x :: l => by simp only [PE.colLL, PE.colLL_eq u l, List.flatten_cons, List.flatMap_append, PE.colL_eq]
theorem PE.colO_eq (u : Int) : ∀ l : List (PE × Bool), PE.colO f u l = (l.map (·.1)).flatMap (PE.col f u)
 | [] => rfl
 | x :: l => by
   obtain ⟨e, b⟩ := x
   simp only [PE.colO, PE.colO_eq u l, List.map_cons, List.flatMap_cons, PE.col1]
theorem PE.col_eq (u : Int) (x : PE) : x.col f u = f u x.kind x.up x.pos ++ (x.kids.flatMap (PE.col f u) ++ x.sub.flatMap (PE.colP f (u + 1))) := by
 cases x
 simp only [PE.col, PE.colL_eq, PE.colS_eq, PE.kids, PE.sub, PE.kind, PE.up, PE.pos]
theorem PE.colP_eq (u : Int) (p : PL) : PE.colP f u p = p.parts.flatMap (PE.col f u) := by
 obtain ⟨t, on, w, o, i, n, d, l⟩ := p
 simp only [PE.colP, PlanOf.parts, List.flatMap_append, PE.colL_eq, PE.colLL_eq, PE.colO_eq]
theorem flatMap_len {α β : Type} (g : α → List β) : ∀ l : List α, (l.flatMap g).length = sumW (fun x => (g x).length) l
 | [] => rfl
 | x :: l => by simp only [List.flatMap_cons, List.length_append, flatMap_len g l, sumW, List.map_cons, List.sum_cons]
theorem PE.col_len (hf : ∀ u k up pos, (f u k up pos).length ≤ 1) (x : PE) : ∀ u, (x.col f u).length ≤ 1 + wgt x.v := by
 induction x using PE.ind with
 | h e ih1 ih2 =>
   intro u
   have e1 := PE.wgt_eq2 e
   have e2 := kids_w e.kids
   have e3 : sumW (fun p : PL => wgt (PL.v p)) e.sub ≤ _ := sub_w e.sub
   have e4 := sumW_mono (f := fun k => (PE.col f u k).length) (g := fun k => 1 + wgt k.v) (l := e.kids) fun k hk => ih1 k hk u
   have e5 := sumW_mono (f := fun p => (PE.colP f (u + 1) p).length) (g := fun p : PL => wgt (PL.v p)) (l := e.sub) fun p hp => by
     rw [PE.colP_eq, flatMap_len]
     exact Nat.le_trans (sumW_mono fun k hk => ih2 p hp k hk (u + 1)) (PL.parts_w p)
   have e6 := hf u e.kind e.up e.pos
   rw [PE.col_eq, List.length_append, List.length_append, flatMap_len, flatMap_len]
   omega
end
theorem flatMap_take {α β : Type} (g : α → List β) {l : List α} {i : Nat} (h : i < l.length) : (l.take (i + 1)).flatMap g = (l.take i).flatMap g ++ g l[i] := by
 rw [List.take_succ_eq_append_getElem h, List.flatMap_append]
 simp
theorem flatMap_take_len {α β : Type} (g : α → List β) (l : List α) (i : Nat) : ((l.take i).flatMap g).length ≤ (l.flatMap g).length := by
 rw [flatMap_len, flatMap_len]; exact sumW_take_le _ l i
theorem freeAt_len (u k up pos : Int) : (freeAt u k up pos).length ≤ 1 := by unfold freeAt; split <;> simp
theorem varAt_len (u k up pos : Int) : (varAt u k up pos).length ≤ 1 := by unfold varAt; split <;> simp
def binds (l : List Bind) : V := .sl 0 (l.map Bind.toV)
theorem plain_binds (l : List Bind) : (binds l).plain = true := plain_BindS l
@[simp] theorem Bind.under (n : Nat) (b : Bind) : V.under n b.toV = true := rfl
@[simp] theorem Bind.underS (n : Nat) (l : List Bind) : V.underL n (l.map Bind.toV) = true := underL_dat (plainL_dat _ (plainL_of' (plain_BindS l)))
theorem underLA (n : Nat) (a b : List V) : V.underL n (a ++ b) = (V.underL n a && V.underL n b) := by
 rw [V.underL_eq, V.underL_eq, V.underL_eq, List.all_append]
def FreC (P : Program) (g : FuncId) (e : PE) : Prop := ∀ (u : Int) (s : S), 0 ≤ u → u + wgt e.v ≤ 3000000 → VCalls P g [e.v, .int .i64 u] s (fun v t => Own2 (binds (e.col freeAt u)) v t)
theorem FreC.pure {P : Program} {g : FuncId} {e : PE} (h : FreC P g e) (u : Int) (h0 : 0 ≤ u) (h1 : u + wgt e.v ≤ 3000000) (s : S) : VCalls P g [e.v, .int .i64 u] s (fun v s' => v = .sl 0 ((e.col freeAt u).map Bind.toV) ∧ s' = s) :=
 VCalls.pureOf (plainL_cons (PE.plainv e) (plainL_cons rfl rfl)) (plain_BindS _) (fun t => h u t h0 h1) s
set_option maxHeartbeats 2000000 in
theorem implFree_c (e : PE) : wgt e.v ≤ 1048576 → FreC Try.prog 39 e := by
 induction e using PE.ind with
 | h e ih1 ih2 =>
   intro hw u s h0 h1
   refine VCalls.wf fun hwf => ?_
   have hup : -9223372036854775808 ≤ e.up ∧ e.up ≤ 9223372036854775807 := by
     simp only [PE.v, List.all_cons, List.all_nil, V.wf, V.wfL, Bool.and_true, Bool.and_eq_true, decide_eq_true_eq, min_i64, max_i64] at hwf
     exact ⟨by omega, by omega⟩
   clear hwf
   have e1 := PE.wgt_eq2 e
   have hsl0 := wgt_len PE.planV e.sub
   have hkl0 := wgt_len PE.toV e.kids
   have hlen := PE.col_len freeAt freeAt_len e u
   rw [PE.col_eq] at hlen ⊢
   simp only [List.length_append] at hlen
   refine LCalls.body Try.func39 rfl (by kernel_rfl) ?_
   by_cases hk : e.kind = 2
   · by_cases hu : u ≤ e.up
     · have hfa : freeAt u e.kind e.up e.pos = [⟨e.up - u, e.pos, 0⟩] := by simp [freeAt, hk, hu]
       rw [hfa] at hlen ⊢
       repeat' first | (refine WL.zfam (t := 5) 3 rfl rfl rfl rfl ?_) | (refine kOps ?_; first | (refine LOps.nil ?_) | (refine kG ?_; first | (refine LOps.gT rfl rfl rfl ?_) | (refine LOps.gD true rfl rfl rfl ?_ ?_; (focus (first | (exact decide_eq_true (by assumption)))))) | (refine LOps.ev tT_ok rfl ?_) | (refine kBox ?_; refine LOps.box rfl rfl rfl rfl ?_) | (refine kBsl ?_; first | (refine LOps.bsl0 tT_ok rfl rfl rfl rfl rfl ?_) | (refine LOps.bsl tT_ok rfl rfl rfl rfl rfl rfl rfl rfl rfl rfl rfl ?_)) | (refine kApp ?_; first | (refine LOps.app tT_ok rfl rfl rfl rfl rfl rfl rfl rfl rfl rfl rfl ?_ ?_ (AppB.of ?_ rfl) ?_; (focus (first | rfl)); (focus (first | exact Elems.of rfl | exact Elems.map fun _ => rfl | exact PE.els _ (fun _ => rfl) _)); (focus (first | omega | (simp <;> fail))))) | (refine kLoad ?_; first | (refine LOps.ans (AnsL.loadP tT_ok rfl rfl rfl rfl) ?_)) | (refine kLen ?_; first | (refine LOps.ans (AnsL.lenM tT_ok rfl rfl rfl) ?_)) | (refine kBin ?_; first | (refine LOps.ans (AnsL.sub rfl rfl ?_) ?_; (focus (constructor <;> omega))))) | (refine kWL ?_; first | (refine WL.seq ?_) | (refine WL.region (by kernel_rfl) ?_) | (refine WL.block ?_) | (refine kCond ?_; first | (refine WL.condT' rfl ?_ ?_; (focus (first | (exact decide_eq_true (by assumption))))))) | (refine lthen_n ?_)
       have hkl := flatMap_len (PE.col freeAt u) e.kids
       have hsl := flatMap_len (PE.colP freeAt (u + 1)) e.sub
       refine WL.loopD (fun i : Nat => e.kids.length - i) (fun i => [(1, .int .i64 u), (2, .ptr (s.next + 0) 0), (5, .sl (s.next + 1) (([(⟨e.up - u, e.pos, 0⟩ : Bind)] ++ (e.kids.take i).flatMap (PE.col freeAt u)).map Bind.toV)), (33, .sl 0 (e.kids.map PE.toV)), (34, .int .i64 e.kids.length), (35, .int .i64 (i : Int))])
         (fun i => .var e.v.cells :: .fam ([(⟨e.up - u, e.pos, 0⟩ : Bind)] ++ (e.kids.take i).flatMap (PE.col freeAt u)).length 3 :: [.fam 1 3]) (fun i => i ≤ e.kids.length) 3 0 (by simp) (fun _ => rfl) ⟨rfl, rfl, by simp [lk]; try rfl, rfl, rfl, rfl, trivial⟩ (by simp; try rfl) (fun i hi => ?_) (fun i hi => ?_)
       · generalize (e.kids.take i).flatMap (PE.col freeAt u) = us
         simp [UnderK, UnderX, Own.under, V.under, V.underL, PE.v, V.cells, underLA]
       have hl := flatMap_take_len (PE.col freeAt u) e.kids i
       rcases Nat.lt_or_ge i e.kids.length with hlt | hge
       · have hl2 := flatMap_take_len (PE.col freeAt u) e.kids (i + 1)
         have hga : (e.kids.map PE.toV)[i]? = some (PE.v e.kids[i]) := by rw [List.getElem?_map, List.getElem?_eq_getElem hlt]; simp only [Option.map_some, PE.toV_eq]
         have hE := (ih1 e.kids[i] (List.getElem_mem hlt) (Nat.le_trans (PE.wgt_kid (List.getElem_mem hlt)) hw)).pure u h0 (by have := PE.wgt_kid (List.getElem_mem hlt); omega)
         have ht := flatMap_take (PE.col freeAt u) hlt
         rw [ht, List.length_append] at hl2
         generalize e.kids[i] = x at hga hE ht hl2
         generalize (e.kids.take i).flatMap (PE.col freeAt u) = us at hl hl2 ht ⊢
         repeat' first | (refine kOps ?_; first | (refine LOps.nil ?_) | (refine kStore ?_; refine LOps.storeP tT_ok rfl rfl rfl rfl rfl rfl rfl rfl rfl ?_) | (refine LOps.ev tT_ok rfl ?_) | (refine kAlloc ?_; refine LOps.alloc tT_ok rfl rfl rfl rfl ?_) | (refine kApp ?_; first | (refine LOps.app tT_ok rfl rfl rfl rfl rfl rfl rfl rfl rfl rfl rfl ?_ ?_ (AppB.of ?_ rfl) ?_; (focus (first | rfl | (simp <;> fail))); (focus (first | exact Elems.of rfl | exact Elems.map fun _ => rfl | exact PE.els _ (fun _ => rfl) _)); (focus (first | omega | (simp; omega))))) | (refine kLoad ?_; first | (refine LOps.ans (AnsL.loadP tT_ok rfl rfl rfl rfl) ?_)) | (refine kBin ?_; first | (refine LOps.ans (AnsL.add rfl rfl ?_) ?_; (focus (constructor <;> omega)))) | (refine kIdx ?_; first | (refine LOps.ans (AnsL.idx tT_ok rfl rfl rfl rfl rfl hga rfl rfl) ?_)) | (refine kCallN 39 ?_; first | (refine LOps.ans (AnsL.callP rfl rfl rfl (ok39) (hE _)) ?_))) | (refine kWL ?_; first | (refine WL.seq ?_) | (refine WL.region (by kernel_rfl) ?_) | (refine WL.block ?_) | (refine WL.skip ?_) | (refine kCond ?_; first | (refine WL.condT' rfl ?_ ?_; (focus (first | (simp <;> omega)))))) | (refine lthen_n ?_) | (refine lblock_n ?_)
         refine lbackD.of (i + 1) ?_ ?_ ?_ ?_
         · omega
         · omega
         · rw [ht]
           exact ⟨rfl, rfl, by simp [lk], rfl, rfl, rfl, trivial⟩
         · rw [ht]
           (simp [PE.v, V.cells] <;> omega)
       rw [List.take_of_length_le hge] at hl ⊢
       generalize e.kids.flatMap (PE.col freeAt u) = kk at hl hkl hlen ⊢
       repeat' first | (refine kOps ?_; first | (refine LOps.nil ?_) | (refine LOps.ev tT_ok rfl ?_) | (refine kLoad ?_; first | (refine LOps.ans (AnsL.loadP tT_ok rfl rfl rfl rfl) ?_)) | (refine kLen ?_; first | (refine LOps.ans (AnsL.lenM tT_ok rfl rfl rfl) ?_))) | (refine kWL ?_; first | (refine WL.seq ?_) | (refine WL.region (by kernel_rfl) ?_) | (refine WL.block ?_) | (refine WL.exit ?_) | (refine kCond ?_; first | (refine WL.condF' rfl ?_ ?_; (focus (first | (simp <;> omega)))))) | (refine lthen_n ?_) | (refine lthen_e ?_) | (refine lblock_e ?_) | (refine lbackD_e ?_)
       refine WL.loopD (fun i : Nat => e.sub.length - i) (fun i => [(1, .int .i64 u), (2, .ptr (s.next + 0) 0), (5, .sl (s.next + 1) (([(⟨e.up - u, e.pos, 0⟩ : Bind)] ++ kk ++ (e.sub.take i).flatMap (PE.colP freeAt (u + 1))).map Bind.toV)), (46, .sl 0 (e.sub.map PE.planV)), (47, .int .i64 e.sub.length), (48, .int .i64 (i : Int))])
         (fun i => .var e.v.cells :: .fam ([(⟨e.up - u, e.pos, 0⟩ : Bind)] ++ kk ++ (e.sub.take i).flatMap (PE.colP freeAt (u + 1))).length 3 :: [.fam 1 3]) (fun i => i ≤ e.sub.length) 3 0 (by simp) (fun _ => rfl) ⟨rfl, rfl, by simp [lk], rfl, rfl, rfl, trivial⟩ (by simp [PE.v, V.cells]) (fun i hi => ?_) (fun i hi => ?_)
       · generalize (e.sub.take i).flatMap (PE.colP freeAt (u + 1)) = us
         simp [UnderK, UnderX, Own.under, V.under, V.underL, PE.v, V.cells, underLA]
       have hm := flatMap_take_len (PE.colP freeAt (u + 1)) e.sub i
       rcases Nat.lt_or_ge i e.sub.length with hlt | hge
       · have hm2 := flatMap_take_len (PE.colP freeAt (u + 1)) e.sub (i + 1)
         have hga : (e.sub.map PE.planV)[i]? = some (PL.v e.sub[i]) := by rw [List.getElem?_map, List.getElem?_eq_getElem hlt]; simp only [Option.map_some, PE.planV_eq]
         have hpw := PE.wgt_sub (List.getElem_mem hlt)
         have hP := fun t => implParts_v e.sub[i] (Nat.le_trans hpw hw) t
         have hpl := PL.parts_len e.sub[i]
         have hI : ∀ k ∈ e.sub[i].parts, ∀ t, VCalls Try.prog 39 [k.v, .int .i64 (u + 1)] t (fun v s' => v = .sl 0 ((k.col freeAt (u + 1)).map Bind.toV) ∧ s' = t) := fun k hk t => by
           have h5 := PL.wgt_part2 hk
           have h6 := sumW_one (fun k : PE => wgt k.v) e.sub[i].parts
           have h7 := PL.parts_w e.sub[i]
           have h8 : 1 + wgt k.v ≤ sumW (fun k => 1 + wgt k.v) e.sub[i].parts := by
             obtain ⟨j, hj, rfl⟩ := List.getElem_of_mem hk
             exact sumW_mem (f := fun k : PE => 1 + wgt k.v) hj
           exact (ih2 _ (List.getElem_mem hlt) k hk (by omega)).pure (u + 1) (by omega) (by omega) t
         have ht := flatMap_take (PE.colP freeAt (u + 1)) hlt
         rw [PE.colP_eq] at ht
         rw [ht, List.length_append] at hm2
         generalize e.sub[i] = x at hga hP ht hm2 hI hpl hpw
         generalize x.parts = ps at hP ht hm2 hI hpl
         generalize (e.sub.take i).flatMap (PE.colP freeAt (u + 1)) = us at hm hm2 ht ⊢
         repeat' first | (refine kOps ?_; first | (refine LOps.nil ?_) | (refine kStore ?_; refine LOps.storeP tT_ok rfl rfl rfl rfl rfl rfl rfl rfl rfl ?_) | (refine LOps.ev tT_ok rfl ?_) | (refine kAlloc ?_; refine LOps.alloc tT_ok rfl rfl rfl rfl ?_) | (refine kLoad ?_; first | (refine LOps.ans (AnsL.loadP tT_ok rfl rfl rfl rfl) ?_)) | (refine kLen ?_; first | (refine LOps.ans (AnsL.lenM tT_ok rfl rfl rfl) ?_)) | (refine kIdx ?_; first | (refine LOps.ans (AnsL.idx tT_ok rfl rfl rfl rfl rfl hga rfl rfl) ?_)) | (refine kCallN 46 ?_; first | (refine LOps.ans (AnsL.callP rfl rfl rfl (ok46) (hP _)) ?_))) | (refine kWL ?_; first | (refine WL.seq ?_) | (refine WL.region (by kernel_rfl) ?_) | (refine WL.block ?_) | (refine WL.skip ?_) | (refine kCond ?_; first | (refine WL.condT' rfl ?_ ?_; (focus (first | (simp <;> omega)))))) | (refine lthen_n ?_)
         refine WL.loopD (fun j : Nat => ps.length - j) (fun j => [(1, .int .i64 u), (2, .ptr (s.next + 0) 0), (5, .sl (s.next + 1) (([(⟨e.up - u, e.pos, 0⟩ : Bind)] ++ kk ++ us ++ (ps.take j).flatMap (PE.col freeAt (u + 1))).map Bind.toV)), (46, .sl 0 (e.sub.map PE.planV)), (47, .int .i64 e.sub.length), (48, .int .i64 (i : Int)), (53, .sl 0 (ps.map PE.toV)), (54, .int .i64 ps.length), (55, .int .i64 (j : Int))])
           (fun j => .var e.v.cells :: .fam ([(⟨e.up - u, e.pos, 0⟩ : Bind)] ++ kk ++ us ++ (ps.take j).flatMap (PE.col freeAt (u + 1))).length 3 :: ([.fam 1 3] ++ [.var x.v.cells])) (fun j => j ≤ ps.length) 4 0 (by simp) (fun _ => rfl) ⟨rfl, rfl, by simp [lk], rfl, rfl, rfl, rfl, rfl, rfl, trivial⟩ (by simp [PE.v, PL.v, V.cells]) (fun j hj => ?_) (fun j hj => ?_)
         · generalize (ps.take j).flatMap (PE.col freeAt (u + 1)) = vs
           simp [UnderK, UnderX, Own.under, V.under, V.underL, PE.v, PL.v, V.cells, underLA]
         have hn := flatMap_take_len (PE.col freeAt (u + 1)) ps j
         rcases Nat.lt_or_ge j ps.length with hlt2 | hge2
         · have hn2 := flatMap_take_len (PE.col freeAt (u + 1)) ps (j + 1)
           have hgb : (ps.map PE.toV)[j]? = some (PE.v ps[j]) := by rw [List.getElem?_map, List.getElem?_eq_getElem hlt2]; simp only [Option.map_some, PE.toV_eq]
           have hE := hI ps[j] (List.getElem_mem hlt2)
           have ht2 := flatMap_take (PE.col freeAt (u + 1)) hlt2
           rw [ht2, List.length_append] at hn2
           generalize ps[j] = y at hgb hE ht2 hn2
           generalize (ps.take j).flatMap (PE.col freeAt (u + 1)) = vs at hn hn2 ht2 ⊢
           repeat' first | (refine kOps ?_; first | (refine LOps.nil ?_) | (refine kStore ?_; refine LOps.storeP tT_ok rfl rfl rfl rfl rfl rfl rfl rfl rfl ?_) | (refine LOps.ev tT_ok rfl ?_) | (refine kAlloc ?_; refine LOps.alloc tT_ok rfl rfl rfl rfl ?_) | (refine kApp ?_; first | (refine LOps.app tT_ok rfl rfl rfl rfl rfl rfl rfl rfl rfl rfl rfl ?_ ?_ (AppB.of ?_ rfl) ?_; (focus (first | rfl | (simp <;> fail))); (focus (first | exact Elems.of rfl | exact Elems.map fun _ => rfl | exact PE.els _ (fun _ => rfl) _)); (focus (first | omega | (simp; omega))))) | (refine kLoad ?_; first | (refine LOps.ans (AnsL.loadP tT_ok rfl rfl rfl rfl) ?_)) | (refine kBin ?_; first | (refine LOps.ans (AnsL.add rfl rfl ?_) ?_; (focus (constructor <;> omega)))) | (refine kIdx ?_; first | (refine LOps.ans (AnsL.idx tT_ok rfl rfl rfl rfl rfl hgb rfl rfl) ?_)) | (refine kCallN 39 ?_; first | (refine LOps.ans (AnsL.callP rfl rfl rfl (ok39) (hE _)) ?_))) | (refine kWL ?_; first | (refine WL.seq ?_) | (refine WL.region (by kernel_rfl) ?_) | (refine WL.block ?_) | (refine WL.skip ?_) | (refine kCond ?_; first | (refine WL.condT' rfl ?_ ?_; (focus (first | (simp <;> omega)))))) | (refine lthen_n ?_) | (refine lblock_n ?_)
           refine lbackD.of (j + 1) ?_ ?_ ?_ ?_
           · omega
           · omega
           · rw [ht2]
             exact ⟨rfl, rfl, by simp [lk], rfl, rfl, rfl, rfl, rfl, rfl, trivial⟩
           · rw [ht2]
             (simp [PE.v, PL.v, V.cells] <;> omega)
         · rw [List.take_of_length_le hge2]
           repeat' first | (refine kOps ?_; first | (refine LOps.nil ?_) | (refine LOps.ev tT_ok rfl ?_) | (refine kBin ?_; first | (refine LOps.ans (AnsL.add rfl rfl ?_) ?_; (focus (constructor <;> omega))))) | (refine kWL ?_; first | (refine WL.seq ?_) | (refine WL.region (by kernel_rfl) ?_) | (refine WL.exit ?_) | (refine kCond ?_; first | (refine WL.condF' rfl ?_ ?_; (focus (first | (simp <;> omega)))))) | (refine lthen_n ?_) | (refine lthen_e ?_) | (refine lblock_n ?_) | (refine lblock_e ?_) | (refine lbackD_e ?_)
           refine lbackD.of (i + 1) ?_ ?_ ?_ ?_
           · omega
           · omega
           · rw [ht]
             exact ⟨rfl, rfl, by simp [lk], rfl, rfl, rfl, trivial⟩
           · rw [ht]
             (simp [PE.v, V.cells] <;> omega)
       · rw [List.take_of_length_le hge]
         repeat' first | (refine kOps ?_; first | (refine LOps.nil ?_) | (refine LOps.ev tT_ok rfl ?_)) | (refine kWL ?_; first | (refine WL.seq ?_) | (refine WL.region (by kernel_rfl) ?_) | (refine WL.exit ?_) | (refine WL.ret ?_) | (refine kCond ?_; first | (refine WL.condF' rfl ?_ ?_; (focus (first | (simp <;> omega)))))) | (refine lthen_n ?_) | (refine lthen_e ?_) | (refine lblock_e ?_) | (refine lbackD_e ?_) | (refine LPost.r1 (r := .tmp 4) (.inl rfl) (Res1.tmp rfl) ?_)
         have hfin := Own2.famC (s := s) (f := Bind.toV) (cs := [(⟨e.up - u, e.pos, 0⟩ : Bind)] ++ kk ++ e.sub.flatMap (PE.colP freeAt (u + 1))) (k := 1) 3 (xs := .var e.v.cells :: .fam ([(⟨e.up - u, e.pos, 0⟩ : Bind)] ++ kk ++ e.sub.flatMap (PE.colP freeAt (u + 1))).length 3 :: [.fam 1 3]) rfl rfl (fun _ => rfl) (fun _ => rfl)
         unfold binds
         rw [← List.append_assoc]
         exact hfin
     · have hfa : freeAt u e.kind e.up e.pos = [] := by simp [freeAt, hu]
       rw [hfa] at hlen ⊢
       repeat' first | (refine WL.zfam (t := 5) 3 rfl rfl rfl rfl ?_) | (refine kOps ?_; first | (refine LOps.nil ?_) | (refine kG ?_; first | (refine LOps.gT rfl rfl rfl ?_) | (refine LOps.gD true rfl rfl rfl ?_ ?_; (focus (first | (exact decide_eq_true (by assumption)))))) | (refine LOps.ev tT_ok rfl ?_) | (refine kBox ?_; refine LOps.box rfl rfl rfl rfl ?_) | (refine kBsl ?_; first | (refine LOps.bsl0 tT_ok rfl rfl rfl rfl rfl ?_)) | (refine kLoad ?_; first | (refine LOps.ans (AnsL.loadP tT_ok rfl rfl rfl rfl) ?_)) | (refine kLen ?_; first | (refine LOps.ans (AnsL.lenM tT_ok rfl rfl rfl) ?_))) | (refine kWL ?_; first | (refine WL.seq ?_) | (refine WL.region (by kernel_rfl) ?_) | (refine WL.block ?_) | (refine WL.skip ?_) | (refine kCond ?_; first | (refine WL.condF' rfl ?_ ?_; (focus (first | (exact decide_eq_false (by assumption))))))) | (refine lthen_n ?_)
       have hkl := flatMap_len (PE.col freeAt u) e.kids
       have hsl := flatMap_len (PE.colP freeAt (u + 1)) e.sub
       refine WL.loopD (fun i : Nat => e.kids.length - i) (fun i => [(1, .int .i64 u), (2, .ptr (s.next + 0) 0), (5, .sl (s.next + 1) ((([] : List Bind) ++ (e.kids.take i).flatMap (PE.col freeAt u)).map Bind.toV)), (33, .sl 0 (e.kids.map PE.toV)), (34, .int .i64 e.kids.length), (35, .int .i64 (i : Int))])
         (fun i => .var e.v.cells :: .fam (([] : List Bind) ++ (e.kids.take i).flatMap (PE.col freeAt u)).length 3 :: []) (fun i => i ≤ e.kids.length) 2 0 (by simp) (fun _ => rfl) ⟨rfl, rfl, by simp [lk]; try rfl, rfl, rfl, rfl, trivial⟩ (by simp; try rfl) (fun i hi => ?_) (fun i hi => ?_)
       · generalize (e.kids.take i).flatMap (PE.col freeAt u) = us
         simp [UnderK, UnderX, Own.under, V.under, V.underL, PE.v, V.cells, underLA]
       have hl := flatMap_take_len (PE.col freeAt u) e.kids i
       rcases Nat.lt_or_ge i e.kids.length with hlt | hge
       · have hl2 := flatMap_take_len (PE.col freeAt u) e.kids (i + 1)
         have hga : (e.kids.map PE.toV)[i]? = some (PE.v e.kids[i]) := by rw [List.getElem?_map, List.getElem?_eq_getElem hlt]; simp only [Option.map_some, PE.toV_eq]
         have hE := (ih1 e.kids[i] (List.getElem_mem hlt) (Nat.le_trans (PE.wgt_kid (List.getElem_mem hlt)) hw)).pure u h0 (by have := PE.wgt_kid (List.getElem_mem hlt); omega)
         have ht := flatMap_take (PE.col freeAt u) hlt
         rw [ht, List.length_append] at hl2
         generalize e.kids[i] = x at hga hE ht hl2
         generalize (e.kids.take i).flatMap (PE.col freeAt u) = us at hl hl2 ht ⊢
         repeat' first | (refine kOps ?_; first | (refine LOps.nil ?_) | (refine kStore ?_; refine LOps.storeP tT_ok rfl rfl rfl rfl rfl rfl rfl rfl rfl ?_) | (refine LOps.ev tT_ok rfl ?_) | (refine kAlloc ?_; refine LOps.alloc tT_ok rfl rfl rfl rfl ?_) | (refine kApp ?_; first | (refine LOps.app tT_ok rfl rfl rfl rfl rfl rfl rfl rfl rfl rfl rfl ?_ ?_ (AppB.of ?_ rfl) ?_; (focus (first | rfl | (simp <;> fail))); (focus (first | exact Elems.of rfl | exact Elems.map fun _ => rfl | exact PE.els _ (fun _ => rfl) _)); (focus (first | omega | (simp; omega))))) | (refine kLoad ?_; first | (refine LOps.ans (AnsL.loadP tT_ok rfl rfl rfl rfl) ?_)) | (refine kBin ?_; first | (refine LOps.ans (AnsL.add rfl rfl ?_) ?_; (focus (constructor <;> omega)))) | (refine kIdx ?_; first | (refine LOps.ans (AnsL.idx tT_ok rfl rfl rfl rfl rfl hga rfl rfl) ?_)) | (refine kCallN 39 ?_; first | (refine LOps.ans (AnsL.callP rfl rfl rfl (ok39) (hE _)) ?_))) | (refine kWL ?_; first | (refine WL.seq ?_) | (refine WL.region (by kernel_rfl) ?_) | (refine WL.block ?_) | (refine WL.skip ?_) | (refine kCond ?_; first | (refine WL.condT' rfl ?_ ?_; (focus (first | (simp <;> omega)))))) | (refine lthen_n ?_) | (refine lblock_n ?_)
         refine lbackD.of (i + 1) ?_ ?_ ?_ ?_
         · omega
         · omega
         · rw [ht]
           exact ⟨rfl, rfl, by simp [lk], rfl, rfl, rfl, trivial⟩
         · rw [ht]
           (simp [PE.v, V.cells] <;> omega)
       rw [List.take_of_length_le hge] at hl ⊢
       generalize e.kids.flatMap (PE.col freeAt u) = kk at hl hkl hlen ⊢
       repeat' first | (refine kOps ?_; first | (refine LOps.nil ?_) | (refine LOps.ev tT_ok rfl ?_) | (refine kLoad ?_; first | (refine LOps.ans (AnsL.loadP tT_ok rfl rfl rfl rfl) ?_)) | (refine kLen ?_; first | (refine LOps.ans (AnsL.lenM tT_ok rfl rfl rfl) ?_))) | (refine kWL ?_; first | (refine WL.seq ?_) | (refine WL.region (by kernel_rfl) ?_) | (refine WL.block ?_) | (refine WL.exit ?_) | (refine kCond ?_; first | (refine WL.condF' rfl ?_ ?_; (focus (first | (simp <;> omega)))))) | (refine lthen_n ?_) | (refine lthen_e ?_) | (refine lblock_e ?_) | (refine lbackD_e ?_)
       refine WL.loopD (fun i : Nat => e.sub.length - i) (fun i => [(1, .int .i64 u), (2, .ptr (s.next + 0) 0), (5, .sl (s.next + 1) ((([] : List Bind) ++ kk ++ (e.sub.take i).flatMap (PE.colP freeAt (u + 1))).map Bind.toV)), (46, .sl 0 (e.sub.map PE.planV)), (47, .int .i64 e.sub.length), (48, .int .i64 (i : Int))])
         (fun i => .var e.v.cells :: .fam (([] : List Bind) ++ kk ++ (e.sub.take i).flatMap (PE.colP freeAt (u + 1))).length 3 :: []) (fun i => i ≤ e.sub.length) 2 0 (by simp) (fun _ => rfl) ⟨rfl, rfl, by simp [lk], rfl, rfl, rfl, trivial⟩ (by simp [PE.v, V.cells]) (fun i hi => ?_) (fun i hi => ?_)
       · generalize (e.sub.take i).flatMap (PE.colP freeAt (u + 1)) = us
         simp [UnderK, UnderX, Own.under, V.under, V.underL, PE.v, V.cells, underLA]
       have hm := flatMap_take_len (PE.colP freeAt (u + 1)) e.sub i
       rcases Nat.lt_or_ge i e.sub.length with hlt | hge
       · have hm2 := flatMap_take_len (PE.colP freeAt (u + 1)) e.sub (i + 1)
         have hga : (e.sub.map PE.planV)[i]? = some (PL.v e.sub[i]) := by rw [List.getElem?_map, List.getElem?_eq_getElem hlt]; simp only [Option.map_some, PE.planV_eq]
         have hpw := PE.wgt_sub (List.getElem_mem hlt)
         have hP := fun t => implParts_v e.sub[i] (Nat.le_trans hpw hw) t
         have hpl := PL.parts_len e.sub[i]
         have hI : ∀ k ∈ e.sub[i].parts, ∀ t, VCalls Try.prog 39 [k.v, .int .i64 (u + 1)] t (fun v s' => v = .sl 0 ((k.col freeAt (u + 1)).map Bind.toV) ∧ s' = t) := fun k hk t => by
           have h5 := PL.wgt_part2 hk
           have h6 := sumW_one (fun k : PE => wgt k.v) e.sub[i].parts
           have h7 := PL.parts_w e.sub[i]
           have h8 : 1 + wgt k.v ≤ sumW (fun k => 1 + wgt k.v) e.sub[i].parts := by
             obtain ⟨j, hj, rfl⟩ := List.getElem_of_mem hk
             exact sumW_mem (f := fun k : PE => 1 + wgt k.v) hj
           exact (ih2 _ (List.getElem_mem hlt) k hk (by omega)).pure (u + 1) (by omega) (by omega) t
         have ht := flatMap_take (PE.colP freeAt (u + 1)) hlt
         rw [PE.colP_eq] at ht
         rw [ht, List.length_append] at hm2
         generalize e.sub[i] = x at hga hP ht hm2 hI hpl hpw
         generalize x.parts = ps at hP ht hm2 hI hpl
         generalize (e.sub.take i).flatMap (PE.colP freeAt (u + 1)) = us at hm hm2 ht ⊢
         repeat' first | (refine kOps ?_; first | (refine LOps.nil ?_) | (refine kStore ?_; refine LOps.storeP tT_ok rfl rfl rfl rfl rfl rfl rfl rfl rfl ?_) | (refine LOps.ev tT_ok rfl ?_) | (refine kAlloc ?_; refine LOps.alloc tT_ok rfl rfl rfl rfl ?_) | (refine kLoad ?_; first | (refine LOps.ans (AnsL.loadP tT_ok rfl rfl rfl rfl) ?_)) | (refine kLen ?_; first | (refine LOps.ans (AnsL.lenM tT_ok rfl rfl rfl) ?_)) | (refine kIdx ?_; first | (refine LOps.ans (AnsL.idx tT_ok rfl rfl rfl rfl rfl hga rfl rfl) ?_)) | (refine kCallN 46 ?_; first | (refine LOps.ans (AnsL.callP rfl rfl rfl (ok46) (hP _)) ?_))) | (refine kWL ?_; first | (refine WL.seq ?_) | (refine WL.region (by kernel_rfl) ?_) | (refine WL.block ?_) | (refine WL.skip ?_) | (refine kCond ?_; first | (refine WL.condT' rfl ?_ ?_; (focus (first | (simp <;> omega)))))) | (refine lthen_n ?_)
         refine WL.loopD (fun j : Nat => ps.length - j) (fun j => [(1, .int .i64 u), (2, .ptr (s.next + 0) 0), (5, .sl (s.next + 1) ((([] : List Bind) ++ kk ++ us ++ (ps.take j).flatMap (PE.col freeAt (u + 1))).map Bind.toV)), (46, .sl 0 (e.sub.map PE.planV)), (47, .int .i64 e.sub.length), (48, .int .i64 (i : Int)), (53, .sl 0 (ps.map PE.toV)), (54, .int .i64 ps.length), (55, .int .i64 (j : Int))])
           (fun j => .var e.v.cells :: .fam (([] : List Bind) ++ kk ++ us ++ (ps.take j).flatMap (PE.col freeAt (u + 1))).length 3 :: ([] ++ [.var x.v.cells])) (fun j => j ≤ ps.length) 3 0 (by simp) (fun _ => rfl) ⟨rfl, rfl, by simp [lk], rfl, rfl, rfl, rfl, rfl, rfl, trivial⟩ (by simp [PE.v, PL.v, V.cells]) (fun j hj => ?_) (fun j hj => ?_)
         · generalize (ps.take j).flatMap (PE.col freeAt (u + 1)) = vs
           simp [UnderK, UnderX, Own.under, V.under, V.underL, PE.v, PL.v, V.cells, underLA]
         have hn := flatMap_take_len (PE.col freeAt (u + 1)) ps j
         rcases Nat.lt_or_ge j ps.length with hlt2 | hge2
         · have hn2 := flatMap_take_len (PE.col freeAt (u + 1)) ps (j + 1)
           have hgb : (ps.map PE.toV)[j]? = some (PE.v ps[j]) := by rw [List.getElem?_map, List.getElem?_eq_getElem hlt2]; simp only [Option.map_some, PE.toV_eq]
           have hE := hI ps[j] (List.getElem_mem hlt2)
           have ht2 := flatMap_take (PE.col freeAt (u + 1)) hlt2
           rw [ht2, List.length_append] at hn2
           generalize ps[j] = y at hgb hE ht2 hn2
           generalize (ps.take j).flatMap (PE.col freeAt (u + 1)) = vs at hn hn2 ht2 ⊢
           repeat' first | (refine kOps ?_; first | (refine LOps.nil ?_) | (refine kStore ?_; refine LOps.storeP tT_ok rfl rfl rfl rfl rfl rfl rfl rfl rfl ?_) | (refine LOps.ev tT_ok rfl ?_) | (refine kAlloc ?_; refine LOps.alloc tT_ok rfl rfl rfl rfl ?_) | (refine kApp ?_; first | (refine LOps.app tT_ok rfl rfl rfl rfl rfl rfl rfl rfl rfl rfl rfl ?_ ?_ (AppB.of ?_ rfl) ?_; (focus (first | rfl | (simp <;> fail))); (focus (first | exact Elems.of rfl | exact Elems.map fun _ => rfl | exact PE.els _ (fun _ => rfl) _)); (focus (first | omega | (simp; omega))))) | (refine kLoad ?_; first | (refine LOps.ans (AnsL.loadP tT_ok rfl rfl rfl rfl) ?_)) | (refine kBin ?_; first | (refine LOps.ans (AnsL.add rfl rfl ?_) ?_; (focus (constructor <;> omega)))) | (refine kIdx ?_; first | (refine LOps.ans (AnsL.idx tT_ok rfl rfl rfl rfl rfl hgb rfl rfl) ?_)) | (refine kCallN 39 ?_; first | (refine LOps.ans (AnsL.callP rfl rfl rfl (ok39) (hE _)) ?_))) | (refine kWL ?_; first | (refine WL.seq ?_) | (refine WL.region (by kernel_rfl) ?_) | (refine WL.block ?_) | (refine WL.skip ?_) | (refine kCond ?_; first | (refine WL.condT' rfl ?_ ?_; (focus (first | (simp <;> omega)))))) | (refine lthen_n ?_) | (refine lblock_n ?_)
           refine lbackD.of (j + 1) ?_ ?_ ?_ ?_
           · omega
           · omega
           · rw [ht2]
             exact ⟨rfl, rfl, by simp [lk], rfl, rfl, rfl, rfl, rfl, rfl, trivial⟩
           · rw [ht2]
             (simp [PE.v, PL.v, V.cells] <;> omega)
         · rw [List.take_of_length_le hge2]
           repeat' first | (refine kOps ?_; first | (refine LOps.nil ?_) | (refine LOps.ev tT_ok rfl ?_) | (refine kBin ?_; first | (refine LOps.ans (AnsL.add rfl rfl ?_) ?_; (focus (constructor <;> omega))))) | (refine kWL ?_; first | (refine WL.seq ?_) | (refine WL.region (by kernel_rfl) ?_) | (refine WL.exit ?_) | (refine kCond ?_; first | (refine WL.condF' rfl ?_ ?_; (focus (first | (simp <;> omega)))))) | (refine lthen_n ?_) | (refine lthen_e ?_) | (refine lblock_n ?_) | (refine lblock_e ?_) | (refine lbackD_e ?_)
           refine lbackD.of (i + 1) ?_ ?_ ?_ ?_
           · omega
           · omega
           · rw [ht]
             exact ⟨rfl, rfl, by simp [lk], rfl, rfl, rfl, trivial⟩
           · rw [ht]
             (simp [PE.v, V.cells] <;> omega)
       · rw [List.take_of_length_le hge]
         repeat' first | (refine kOps ?_; first | (refine LOps.nil ?_) | (refine LOps.ev tT_ok rfl ?_)) | (refine kWL ?_; first | (refine WL.seq ?_) | (refine WL.region (by kernel_rfl) ?_) | (refine WL.exit ?_) | (refine WL.ret ?_) | (refine kCond ?_; first | (refine WL.condF' rfl ?_ ?_; (focus (first | (simp <;> omega)))))) | (refine lthen_n ?_) | (refine lthen_e ?_) | (refine lblock_e ?_) | (refine lbackD_e ?_) | (refine LPost.r1 (r := .tmp 4) (.inl rfl) (Res1.tmp rfl) ?_)
         have hfin := Own2.famC (s := s) (f := Bind.toV) (cs := ([] : List Bind) ++ kk ++ e.sub.flatMap (PE.colP freeAt (u + 1))) (k := 1) 3 (xs := .var e.v.cells :: .fam (([] : List Bind) ++ kk ++ e.sub.flatMap (PE.colP freeAt (u + 1))).length 3 :: []) rfl rfl (fun _ => rfl) (fun _ => rfl)
         unfold binds
         rw [← List.append_assoc]
         exact hfin
   · have hfa : freeAt u e.kind e.up e.pos = [] := by simp [freeAt, hk]
     rw [hfa] at hlen ⊢
     repeat' first | (refine WL.zfam (t := 5) 3 rfl rfl rfl rfl ?_) | (refine kOps ?_; first | (refine LOps.nil ?_) | (refine kG ?_; first | (refine LOps.gF rfl rfl rfl ?_) | (refine LOps.gD false rfl rfl rfl ?_ ?_; (focus (first | (exact decide_eq_false (by assumption)))))) | (refine LOps.ev tT_ok rfl ?_) | (refine kBox ?_; refine LOps.box rfl rfl rfl rfl ?_) | (refine kBsl ?_; first | (refine LOps.bsl0 tT_ok rfl rfl rfl rfl rfl ?_)) | (refine kLoad ?_; first | (refine LOps.ans (AnsL.loadP tT_ok rfl rfl rfl rfl) ?_)) | (refine kLen ?_; first | (refine LOps.ans (AnsL.lenM tT_ok rfl rfl rfl) ?_))) | (refine kWL ?_; first | (refine WL.seq ?_) | (refine WL.region (by kernel_rfl) ?_) | (refine WL.block ?_) | (refine WL.skip ?_) | (refine kCond ?_; first | (refine WL.condF rfl ?_))) | (refine lthen_n ?_)
     have hkl := flatMap_len (PE.col freeAt u) e.kids
     have hsl := flatMap_len (PE.colP freeAt (u + 1)) e.sub
     refine WL.loopD (fun i : Nat => e.kids.length - i) (fun i => [(1, .int .i64 u), (2, .ptr (s.next + 0) 0), (5, .sl (s.next + 1) ((([] : List Bind) ++ (e.kids.take i).flatMap (PE.col freeAt u)).map Bind.toV)), (33, .sl 0 (e.kids.map PE.toV)), (34, .int .i64 e.kids.length), (35, .int .i64 (i : Int))])
       (fun i => .var e.v.cells :: .fam (([] : List Bind) ++ (e.kids.take i).flatMap (PE.col freeAt u)).length 3 :: []) (fun i => i ≤ e.kids.length) 2 0 (by simp) (fun _ => rfl) ⟨rfl, rfl, by simp [lk]; try rfl, rfl, rfl, rfl, trivial⟩ (by simp; try rfl) (fun i hi => ?_) (fun i hi => ?_)
     · generalize (e.kids.take i).flatMap (PE.col freeAt u) = us
       simp [UnderK, UnderX, Own.under, V.under, V.underL, PE.v, V.cells, underLA]
     have hl := flatMap_take_len (PE.col freeAt u) e.kids i
     rcases Nat.lt_or_ge i e.kids.length with hlt | hge
     · have hl2 := flatMap_take_len (PE.col freeAt u) e.kids (i + 1)
       have hga : (e.kids.map PE.toV)[i]? = some (PE.v e.kids[i]) := by rw [List.getElem?_map, List.getElem?_eq_getElem hlt]; simp only [Option.map_some, PE.toV_eq]
       have hE := (ih1 e.kids[i] (List.getElem_mem hlt) (Nat.le_trans (PE.wgt_kid (List.getElem_mem hlt)) hw)).pure u h0 (by have := PE.wgt_kid (List.getElem_mem hlt); omega)
       have ht := flatMap_take (PE.col freeAt u) hlt
       rw [ht, List.length_append] at hl2
       generalize e.kids[i] = x at hga hE ht hl2
       generalize (e.kids.take i).flatMap (PE.col freeAt u) = us at hl hl2 ht ⊢
       repeat' first | (refine kOps ?_; first | (refine LOps.nil ?_) | (refine kStore ?_; refine LOps.storeP tT_ok rfl rfl rfl rfl rfl rfl rfl rfl rfl ?_) | (refine LOps.ev tT_ok rfl ?_) | (refine kAlloc ?_; refine LOps.alloc tT_ok rfl rfl rfl rfl ?_) | (refine kApp ?_; first | (refine LOps.app tT_ok rfl rfl rfl rfl rfl rfl rfl rfl rfl rfl rfl ?_ ?_ (AppB.of ?_ rfl) ?_; (focus (first | rfl | (simp <;> fail))); (focus (first | exact Elems.of rfl | exact Elems.map fun _ => rfl | exact PE.els _ (fun _ => rfl) _)); (focus (first | omega | (simp; omega))))) | (refine kLoad ?_; first | (refine LOps.ans (AnsL.loadP tT_ok rfl rfl rfl rfl) ?_)) | (refine kBin ?_; first | (refine LOps.ans (AnsL.add rfl rfl ?_) ?_; (focus (constructor <;> omega)))) | (refine kIdx ?_; first | (refine LOps.ans (AnsL.idx tT_ok rfl rfl rfl rfl rfl hga rfl rfl) ?_)) | (refine kCallN 39 ?_; first | (refine LOps.ans (AnsL.callP rfl rfl rfl (ok39) (hE _)) ?_))) | (refine kWL ?_; first | (refine WL.seq ?_) | (refine WL.region (by kernel_rfl) ?_) | (refine WL.block ?_) | (refine WL.skip ?_) | (refine kCond ?_; first | (refine WL.condT' rfl ?_ ?_; (focus (first | (simp <;> omega)))))) | (refine lthen_n ?_) | (refine lblock_n ?_)
       refine lbackD.of (i + 1) ?_ ?_ ?_ ?_
       · omega
       · omega
       · rw [ht]
         exact ⟨rfl, rfl, by simp [lk], rfl, rfl, rfl, trivial⟩
       · rw [ht]
         (simp [PE.v, V.cells] <;> omega)
     rw [List.take_of_length_le hge] at hl ⊢
     generalize e.kids.flatMap (PE.col freeAt u) = kk at hl hkl hlen ⊢
     repeat' first | (refine kOps ?_; first | (refine LOps.nil ?_) | (refine LOps.ev tT_ok rfl ?_) | (refine kLoad ?_; first | (refine LOps.ans (AnsL.loadP tT_ok rfl rfl rfl rfl) ?_)) | (refine kLen ?_; first | (refine LOps.ans (AnsL.lenM tT_ok rfl rfl rfl) ?_))) | (refine kWL ?_; first | (refine WL.seq ?_) | (refine WL.region (by kernel_rfl) ?_) | (refine WL.block ?_) | (refine WL.exit ?_) | (refine kCond ?_; first | (refine WL.condF' rfl ?_ ?_; (focus (first | (simp <;> omega)))))) | (refine lthen_n ?_) | (refine lthen_e ?_) | (refine lblock_e ?_) | (refine lbackD_e ?_)
     refine WL.loopD (fun i : Nat => e.sub.length - i) (fun i => [(1, .int .i64 u), (2, .ptr (s.next + 0) 0), (5, .sl (s.next + 1) ((([] : List Bind) ++ kk ++ (e.sub.take i).flatMap (PE.colP freeAt (u + 1))).map Bind.toV)), (46, .sl 0 (e.sub.map PE.planV)), (47, .int .i64 e.sub.length), (48, .int .i64 (i : Int))])
       (fun i => .var e.v.cells :: .fam (([] : List Bind) ++ kk ++ (e.sub.take i).flatMap (PE.colP freeAt (u + 1))).length 3 :: []) (fun i => i ≤ e.sub.length) 2 0 (by simp) (fun _ => rfl) ⟨rfl, rfl, by simp [lk], rfl, rfl, rfl, trivial⟩ (by simp [PE.v, V.cells]) (fun i hi => ?_) (fun i hi => ?_)
     · generalize (e.sub.take i).flatMap (PE.colP freeAt (u + 1)) = us
       simp [UnderK, UnderX, Own.under, V.under, V.underL, PE.v, V.cells, underLA]
     have hm := flatMap_take_len (PE.colP freeAt (u + 1)) e.sub i
     rcases Nat.lt_or_ge i e.sub.length with hlt | hge
     · have hm2 := flatMap_take_len (PE.colP freeAt (u + 1)) e.sub (i + 1)
       have hga : (e.sub.map PE.planV)[i]? = some (PL.v e.sub[i]) := by rw [List.getElem?_map, List.getElem?_eq_getElem hlt]; simp only [Option.map_some, PE.planV_eq]
       have hpw := PE.wgt_sub (List.getElem_mem hlt)
       have hP := fun t => implParts_v e.sub[i] (Nat.le_trans hpw hw) t
       have hpl := PL.parts_len e.sub[i]
       have hI : ∀ k ∈ e.sub[i].parts, ∀ t, VCalls Try.prog 39 [k.v, .int .i64 (u + 1)] t (fun v s' => v = .sl 0 ((k.col freeAt (u + 1)).map Bind.toV) ∧ s' = t) := fun k hk t => by
         have h5 := PL.wgt_part2 hk
         have h6 := sumW_one (fun k : PE => wgt k.v) e.sub[i].parts
         have h7 := PL.parts_w e.sub[i]
         have h8 : 1 + wgt k.v ≤ sumW (fun k => 1 + wgt k.v) e.sub[i].parts := by
           obtain ⟨j, hj, rfl⟩ := List.getElem_of_mem hk
           exact sumW_mem (f := fun k : PE => 1 + wgt k.v) hj
         exact (ih2 _ (List.getElem_mem hlt) k hk (by omega)).pure (u + 1) (by omega) (by omega) t
       have ht := flatMap_take (PE.colP freeAt (u + 1)) hlt
       rw [PE.colP_eq] at ht
       rw [ht, List.length_append] at hm2
       generalize e.sub[i] = x at hga hP ht hm2 hI hpl hpw
       generalize x.parts = ps at hP ht hm2 hI hpl
       generalize (e.sub.take i).flatMap (PE.colP freeAt (u + 1)) = us at hm hm2 ht ⊢
       repeat' first | (refine kOps ?_; first | (refine LOps.nil ?_) | (refine kStore ?_; refine LOps.storeP tT_ok rfl rfl rfl rfl rfl rfl rfl rfl rfl ?_) | (refine LOps.ev tT_ok rfl ?_) | (refine kAlloc ?_; refine LOps.alloc tT_ok rfl rfl rfl rfl ?_) | (refine kLoad ?_; first | (refine LOps.ans (AnsL.loadP tT_ok rfl rfl rfl rfl) ?_)) | (refine kLen ?_; first | (refine LOps.ans (AnsL.lenM tT_ok rfl rfl rfl) ?_)) | (refine kIdx ?_; first | (refine LOps.ans (AnsL.idx tT_ok rfl rfl rfl rfl rfl hga rfl rfl) ?_)) | (refine kCallN 46 ?_; first | (refine LOps.ans (AnsL.callP rfl rfl rfl (ok46) (hP _)) ?_))) | (refine kWL ?_; first | (refine WL.seq ?_) | (refine WL.region (by kernel_rfl) ?_) | (refine WL.block ?_) | (refine WL.skip ?_) | (refine kCond ?_; first | (refine WL.condT' rfl ?_ ?_; (focus (first | (simp <;> omega)))))) | (refine lthen_n ?_)
       refine WL.loopD (fun j : Nat => ps.length - j) (fun j => [(1, .int .i64 u), (2, .ptr (s.next + 0) 0), (5, .sl (s.next + 1) ((([] : List Bind) ++ kk ++ us ++ (ps.take j).flatMap (PE.col freeAt (u + 1))).map Bind.toV)), (46, .sl 0 (e.sub.map PE.planV)), (47, .int .i64 e.sub.length), (48, .int .i64 (i : Int)), (53, .sl 0 (ps.map PE.toV)), (54, .int .i64 ps.length), (55, .int .i64 (j : Int))])
         (fun j => .var e.v.cells :: .fam (([] : List Bind) ++ kk ++ us ++ (ps.take j).flatMap (PE.col freeAt (u + 1))).length 3 :: ([] ++ [.var x.v.cells])) (fun j => j ≤ ps.length) 3 0 (by simp) (fun _ => rfl) ⟨rfl, rfl, by simp [lk], rfl, rfl, rfl, rfl, rfl, rfl, trivial⟩ (by simp [PE.v, PL.v, V.cells]) (fun j hj => ?_) (fun j hj => ?_)
       · generalize (ps.take j).flatMap (PE.col freeAt (u + 1)) = vs
         simp [UnderK, UnderX, Own.under, V.under, V.underL, PE.v, PL.v, V.cells, underLA]
       have hn := flatMap_take_len (PE.col freeAt (u + 1)) ps j
       rcases Nat.lt_or_ge j ps.length with hlt2 | hge2
       · have hn2 := flatMap_take_len (PE.col freeAt (u + 1)) ps (j + 1)
         have hgb : (ps.map PE.toV)[j]? = some (PE.v ps[j]) := by rw [List.getElem?_map, List.getElem?_eq_getElem hlt2]; simp only [Option.map_some, PE.toV_eq]
         have hE := hI ps[j] (List.getElem_mem hlt2)
         have ht2 := flatMap_take (PE.col freeAt (u + 1)) hlt2
         rw [ht2, List.length_append] at hn2
         generalize ps[j] = y at hgb hE ht2 hn2
         generalize (ps.take j).flatMap (PE.col freeAt (u + 1)) = vs at hn hn2 ht2 ⊢
         repeat' first | (refine kOps ?_; first | (refine LOps.nil ?_) | (refine kStore ?_; refine LOps.storeP tT_ok rfl rfl rfl rfl rfl rfl rfl rfl rfl ?_) | (refine LOps.ev tT_ok rfl ?_) | (refine kAlloc ?_; refine LOps.alloc tT_ok rfl rfl rfl rfl ?_) | (refine kApp ?_; first | (refine LOps.app tT_ok rfl rfl rfl rfl rfl rfl rfl rfl rfl rfl rfl ?_ ?_ (AppB.of ?_ rfl) ?_; (focus (first | rfl | (simp <;> fail))); (focus (first | exact Elems.of rfl | exact Elems.map fun _ => rfl | exact PE.els _ (fun _ => rfl) _)); (focus (first | omega | (simp; omega))))) | (refine kLoad ?_; first | (refine LOps.ans (AnsL.loadP tT_ok rfl rfl rfl rfl) ?_)) | (refine kBin ?_; first | (refine LOps.ans (AnsL.add rfl rfl ?_) ?_; (focus (constructor <;> omega)))) | (refine kIdx ?_; first | (refine LOps.ans (AnsL.idx tT_ok rfl rfl rfl rfl rfl hgb rfl rfl) ?_)) | (refine kCallN 39 ?_; first | (refine LOps.ans (AnsL.callP rfl rfl rfl (ok39) (hE _)) ?_))) | (refine kWL ?_; first | (refine WL.seq ?_) | (refine WL.region (by kernel_rfl) ?_) | (refine WL.block ?_) | (refine WL.skip ?_) | (refine kCond ?_; first | (refine WL.condT' rfl ?_ ?_; (focus (first | (simp <;> omega)))))) | (refine lthen_n ?_) | (refine lblock_n ?_)
         refine lbackD.of (j + 1) ?_ ?_ ?_ ?_
         · omega
         · omega
         · rw [ht2]
           exact ⟨rfl, rfl, by simp [lk], rfl, rfl, rfl, rfl, rfl, rfl, trivial⟩
         · rw [ht2]
           (simp [PE.v, PL.v, V.cells] <;> omega)
       · rw [List.take_of_length_le hge2]
         repeat' first | (refine kOps ?_; first | (refine LOps.nil ?_) | (refine LOps.ev tT_ok rfl ?_) | (refine kBin ?_; first | (refine LOps.ans (AnsL.add rfl rfl ?_) ?_; (focus (constructor <;> omega))))) | (refine kWL ?_; first | (refine WL.seq ?_) | (refine WL.region (by kernel_rfl) ?_) | (refine WL.exit ?_) | (refine kCond ?_; first | (refine WL.condF' rfl ?_ ?_; (focus (first | (simp <;> omega)))))) | (refine lthen_n ?_) | (refine lthen_e ?_) | (refine lblock_n ?_) | (refine lblock_e ?_) | (refine lbackD_e ?_)
         refine lbackD.of (i + 1) ?_ ?_ ?_ ?_
         · omega
         · omega
         · rw [ht]
           exact ⟨rfl, rfl, by simp [lk], rfl, rfl, rfl, trivial⟩
         · rw [ht]
           (simp [PE.v, V.cells] <;> omega)
     · rw [List.take_of_length_le hge]
       repeat' first | (refine kOps ?_; first | (refine LOps.nil ?_) | (refine LOps.ev tT_ok rfl ?_)) | (refine kWL ?_; first | (refine WL.seq ?_) | (refine WL.region (by kernel_rfl) ?_) | (refine WL.exit ?_) | (refine WL.ret ?_) | (refine kCond ?_; first | (refine WL.condF' rfl ?_ ?_; (focus (first | (simp <;> omega)))))) | (refine lthen_n ?_) | (refine lthen_e ?_) | (refine lblock_e ?_) | (refine lbackD_e ?_) | (refine LPost.r1 (r := .tmp 4) (.inl rfl) (Res1.tmp rfl) ?_)
       have hfin := Own2.famC (s := s) (f := Bind.toV) (cs := ([] : List Bind) ++ kk ++ e.sub.flatMap (PE.colP freeAt (u + 1))) (k := 1) 3 (xs := .var e.v.cells :: .fam (([] : List Bind) ++ kk ++ e.sub.flatMap (PE.colP freeAt (u + 1))).length 3 :: []) rfl rfl (fun _ => rfl) (fun _ => rfl)
       unfold binds
       rw [← List.append_assoc]
       exact hfin
end Go.Proofs.Ytolhegocbkckdaa
