/-
 The reference's references that lead out of a tree: results that are appended to the caller's slice, over the books. Own work; no condition.
-/
import Derived.Test.YtolhegocbkckdaaMg23
import Derived.Test.YtolhegocbkckdaaMg19
import Derived.Test.YtolhegocbkckdaaDPFree
namespace Go.Proofs.Ytolhegocbkckdaa
open Go
set_option linter.unusedSimpArgs false
set_option linter.unusedVariables false
def AppC (P : Program) (g : FuncId) (A : V → List V) (sz : Nat) (us ws : List V) : Prop :=
 ∀ (s : S) (H : List BE) (id : Nat), Hold s s.next (.acc id sz us us :: H) →
   VCalls P g (A (.sl id us)) (s.ext []) (fun v t => ∃ s' : S, v = .sl id ws ∧ t = s'.ext [] ∧ Hold s' s'.next (.acc id sz ws ws :: H))
section
variable {P : Program} {N : Nat} {ops : Array Oper} {l : List Oper} {K : Kn → S → Prop} {L : Kn} {s : S} {d : Nat} {ty : TypeId} {p : String} {a : Array Edge} {H H1 : List BE}
theorem LOps.accH {f : Operand} {g : FuncId} {args : Array Operand} {B : Array TypeId} {A : V → List V} {sz id : Nat} {us ws : List V} (j : Nat) (hf : opd L f = some (.fn g [])) (hc : AppC P g A sz us ws) (ha : opdL L args.toList = some (A (.sl id us))) (hok : CallOk P g)
   (hh : Hold s s.next H) (hi : nthO H j = some (.acc id sz us us)) (he : eraO H j = some H1)
   (hk : ∀ s' : S, Hold s' s'.next (.acc id sz ws ws :: H1) → LOps P N ops l K ((d, .sl id ws) :: L) (s'.ext [])) :
   LOps P N ops (⟨some d, .call ⟨.value f, args, B⟩, ty, p, a, none⟩ :: l) K L (s.ext []) := by
 refine .call hf ha (appO_nil _) hok (hc s H1 id (hh.front hi he)) fun v s' hv => ?_
 obtain ⟨t, rfl, rfl, h3⟩ := hv
 exact hk t h3
theorem LOps.accZ {f : Operand} {g : FuncId} {args : Array Operand} {B : Array TypeId} {pre : List V} {sz : Nat} {ws : List V} (hf : opd L f = some (.fn g [])) (hc : AppC P g (fun o => pre ++ [o]) sz [] ws) (ha : opdL L args.toList = some (pre ++ [.zsl])) (hok : CallOk P g)
   (hh : Hold s s.next H) (hk : ∀ (s' : S) (id : Nat), Hold s' s'.next (.acc id sz ws ws :: H) → LOps P N ops l K ((d, .sl id ws) :: L) (s'.ext [])) :
   LOps P N ops (⟨some d, .call ⟨.value f, args, B⟩, ty, p, a, none⟩ :: l) K L (s.ext []) := by
 have h := hc (s.ext [.fam 0 sz]) H s.next (hh.more (e := .acc s.next sz [] []) (a := [(false, s.next)]) ⟨[], rfl, .nil, by rw [ext_fams0]; rfl, fun d hd => by cases hd⟩ (by simp) fun p hp => by
   simp only [List.mem_singleton] at hp
   subst hp
   simp)
 refine .call hf ha (appO_nil _) hok (VCalls.zfamL sz (R := fun v t => ∃ s' : S, v = .sl s.next ws ∧ t = s'.ext [] ∧ Hold s' s'.next (.acc s.next sz ws ws :: H)) ?_) fun v s' hv => ?_
 · have e : (s.ext []).newFam 0 sz = (s.ext [.fam 0 sz]).ext [] := by rw [ext_newFam, ext_ext_nil]; rfl
   rw [e]
   exact h
 · obtain ⟨t, rfl, rfl, h3⟩ := hv
   exact hk t _ h3
end
set_option maxHeartbeats 2000000 in
theorem specFree_c (e : PE) : wgt e.v ≤ 1048576 → ∀ (u : Int) (us : List Bind), 0 ≤ u → u + wgt e.v ≤ 3000000 → us.length + (e.col freeAt u).length ≤ 4000000 →
   AppC Try.prog 40 (fun o => [e.v, .int .i64 u, o]) 3 (us.map Bind.toV) ((us ++ e.col freeAt u).map Bind.toV) := by
 induction e using PE.ind with
 | h e ih1 ih2 =>
   intro hw u us h0 h1 h2 s H id hh
   refine VCalls.wf fun hwf => ?_
   have hup : -9223372036854775808 ≤ e.up ∧ e.up ≤ 9223372036854775807 := by
     simp only [PE.v, List.all_cons, List.all_nil, V.wf, V.wfL, Bool.and_true, Bool.and_eq_true, decide_eq_true_eq, min_i64, max_i64] at hwf
     exact ⟨by omega, by omega⟩
   clear hwf
   have hsl0 := wgt_len PE.planV e.sub
   have hkl0 := wgt_len PE.toV e.kids
   have e1 := PE.wgt_eq2 e
   rw [PE.col_eq] at h2 ⊢
   simp only [List.length_append] at h2
   refine LCalls.body0 Try.func40 rfl (by kernel_rfl) ?_
   by_cases hk : e.kind = 2
   · by_cases hu : u ≤ e.up
     · have hfa : freeAt u e.kind e.up e.pos = [⟨e.up - u, e.pos, 0⟩] := by simp [freeAt, hk, hu]
       rw [hfa] at h2 ⊢
       simp only [List.length_cons, List.length_nil] at h2
       repeat' first | (refine kBox ?_ ; first | (refine LOps.boxH hh rfl rfl ?_ ; intro s n hh)) | (refine kBsl ?_ ; refine' LOps.bslH tT_ok rfl rfl rfl rfl rfl rfl rfl rfl hh ?_ ?_ ?_ ; rotate_left 2 ; (focus ((repeat' first | (exact ConsL.pls rfl rfl)); done)) ; (focus ((repeat' first | (exact ElsH.of rfl)); done)) ; intro s n hh) | (refine kApp ?_ ; first | (refine' LOps.appH tT_ok 2 rfl rfl rfl rfl rfl rfl rfl rfl rfl rfl hh ?_ ?_ (AppB.of ?_ rfl) ?_ ; rotate_left 3 ; (focus (first | (refine' ConsSp.ap ?_; ((repeat' first | (exact Pick.here)); done)))) ; (focus ((repeat' first | (exact Elems.of rfl)); done)) ; (focus (first | omega | (simp ; omega))) ; intro s hh)) | (refine kOps ?_; first | (refine LOps.nil ?_) | (refine kG ?_; first | (refine LOps.gT rfl rfl rfl ?_) | (refine LOps.gD true rfl rfl rfl ?_ ?_; (focus (first | (exact decide_eq_true (by assumption)))))) | (refine LOps.ev tT_ok rfl ?_) | (refine kLoad ?_; first | (refine LOps.ans (AnsL.loadH tT_ok 0 hh rfl rfl rfl rfl) ?_)) | (refine kBin ?_; first | (refine LOps.ans (AnsL.sub rfl rfl ?_) ?_; (focus (constructor <;> omega))))) | (refine kWL ?_; first | (refine WL.seq ?_) | (refine WL.region (by kernel_rfl) ?_) | (refine WL.block ?_) | (refine kCond ?_; first | (refine WL.condT' rfl ?_ ?_; (focus (first | (exact decide_eq_true (by assumption))))))) | (refine lthen_n ?_)
       rename_i nb _ _ _
       have hY0 : us.map Bind.toV ++ [.agg [.int .i64 (e.up - u), .int .i64 e.pos, .int .i64 0]] = (us ++ [(⟨e.up - u, e.pos, 0⟩ : Bind)] ++ (e.kids.take 0).flatMap (PE.col freeAt u)).map Bind.toV := by simp [Bind.toV]
       rw [hY0] at hh ⊢
       refine WL.loopH (fun i : Nat => e.kids.length - i) (fun i => [(1, .int .i64 u), (2, .sl id ((us ++ [(⟨e.up - u, e.pos, 0⟩ : Bind)] ++ (e.kids.take i).flatMap (PE.col freeAt u)).map Bind.toV)), (3, .ptr nb 0), (7, .int .i64 (i : Int))])
         (fun i => .acc id 3 ((us ++ [(⟨e.up - u, e.pos, 0⟩ : Bind)] ++ (e.kids.take i).flatMap (PE.col freeAt u)).map Bind.toV) ((us ++ [(⟨e.up - u, e.pos, 0⟩ : Bind)] ++ (e.kids.take i).flatMap (PE.col freeAt u)).map Bind.toV) :: .cell nb e.v.cells :: H) (fun i => i ≤ e.kids.length) 0 (Nat.zero_le _) ⟨rfl, rfl, rfl, rfl, trivial⟩ hh ?_ (fun i s hi hh => ?_)
       · (repeat' first | (exact Sel.refl _) | (refine Sel.cons 0 rfl rfl ?_) | (refine Sel.cons 1 rfl rfl ?_) | (refine Sel.cons 2 rfl rfl ?_) | (refine Sel.cons 3 rfl rfl ?_) | (refine Sel.drop ?_))
       try dsimp only at hi hh ⊢
       have hl := flatMap_take_len (PE.col freeAt u) e.kids i
       rcases Nat.lt_or_ge i e.kids.length with hlt | hge
       · have hl2 := flatMap_take_len (PE.col freeAt u) e.kids (i + 1)
         have hga : (e.kids.map PE.toV)[i]? = some (PE.v e.kids[i]) := by rw [List.getElem?_map, List.getElem?_eq_getElem hlt]; simp only [Option.map_some, PE.toV_eq]
         have ht := flatMap_take (PE.col freeAt u) hlt
         have hE := ih1 e.kids[i] (List.getElem_mem hlt) (Nat.le_trans (PE.wgt_kid (List.getElem_mem hlt)) hw) u (us ++ [(⟨e.up - u, e.pos, 0⟩ : Bind)] ++ (e.kids.take i).flatMap (PE.col freeAt u)) h0 (by have := PE.wgt_kid (List.getElem_mem hlt); omega) (by rw [ht, List.length_append] at hl2; simp only [List.length_append, List.length_cons, List.length_nil]; omega)
         have hY : us ++ [(⟨e.up - u, e.pos, 0⟩ : Bind)] ++ (e.kids.take (i + 1)).flatMap (PE.col freeAt u) = us ++ [(⟨e.up - u, e.pos, 0⟩ : Bind)] ++ (e.kids.take i).flatMap (PE.col freeAt u) ++ PE.col freeAt u e.kids[i] := by rw [ht]; simp only [List.append_assoc]
         generalize e.kids[i] = x at hga hE hY
         generalize us ++ [(⟨e.up - u, e.pos, 0⟩ : Bind)] ++ (e.kids.take i).flatMap (PE.col freeAt u) = ys at hE hY hh ⊢
         repeat' first | (refine kCallN 40 ?_ ; refine LOps.accH 0 rfl hE rfl ok40 hh rfl rfl ?_ ; intro s hh) | (refine kOps ?_; first | (refine LOps.nil ?_) | (refine LOps.ev tT_ok rfl ?_) | (refine kLoad ?_; first | (refine LOps.ans (AnsL.loadH tT_ok 1 hh rfl rfl rfl rfl) ?_)) | (refine kLen ?_; first | (refine LOps.ans (AnsL.lenM tT_ok rfl rfl rfl) ?_)) | (refine kBin ?_; first | (refine LOps.ans (AnsL.add rfl rfl ?_) ?_; (focus (constructor <;> omega)))) | (refine kIdx ?_; first | (refine LOps.ans (AnsL.idx tT_ok rfl rfl rfl rfl rfl hga rfl rfl) ?_))) | (refine kWL ?_; first | (refine WL.seq ?_) | (refine WL.region (by kernel_rfl) ?_) | (refine WL.block ?_) | (refine WL.skip ?_) | (refine kCond ?_; first | (refine WL.condT' rfl ?_ ?_; (focus (first | (simp <;> omega)))))) | (refine lthen_n ?_) | (refine lblock_n ?_)
         refine lbackH.of (i + 1) ?_ hh ?_ hlt (by omega)
         · try dsimp only
           rw [hY]
           repeat' first | exact SubL.nil | (refine SubL.mk rfl ?_ ?_) | rfl | (simp; omega)
         · try dsimp only
           rw [hY]
           (repeat' first | (exact Sel.refl _) | (refine Sel.cons 0 rfl rfl ?_) | (refine Sel.cons 1 rfl rfl ?_) | (refine Sel.cons 2 rfl rfl ?_) | (refine Sel.cons 3 rfl rfl ?_) | (refine Sel.drop ?_))
       rw [List.take_of_length_le hge] at hl hh ⊢
       generalize e.kids.flatMap (PE.col freeAt u) = kk at hl hh h2 ⊢
       repeat' first | (refine kOps ?_; first | (refine LOps.nil ?_) | (refine LOps.ev tT_ok rfl ?_) | (refine kLoad ?_; first | (refine LOps.ans (AnsL.loadH tT_ok 1 hh rfl rfl rfl rfl) ?_)) | (refine kLen ?_; first | (refine LOps.ans (AnsL.lenM tT_ok rfl rfl rfl) ?_))) | (refine kWL ?_; first | (refine WL.seq ?_) | (refine WL.region (by kernel_rfl) ?_) | (refine WL.block ?_) | (refine WL.exit ?_) | (refine kCond ?_; first | (refine WL.condF' rfl ?_ ?_; (focus (first | (simp <;> omega)))))) | (refine lthen_n ?_) | (refine lthen_e ?_) | (refine lblock_e ?_) | (refine lbackH_e ?_)
       have hZ0 : us ++ [(⟨e.up - u, e.pos, 0⟩ : Bind)] ++ kk = us ++ [(⟨e.up - u, e.pos, 0⟩ : Bind)] ++ kk ++ (e.sub.take 0).flatMap (PE.colP freeAt (u + 1)) := by simp
       rw [hZ0] at hh ⊢
       refine WL.loopH (fun i : Nat => e.sub.length - i) (fun i => [(1, .int .i64 u), (2, .sl id ((us ++ [(⟨e.up - u, e.pos, 0⟩ : Bind)] ++ kk ++ (e.sub.take i).flatMap (PE.colP freeAt (u + 1))).map Bind.toV)), (3, .ptr nb 0), (8, .int .i64 (i : Int))])
         (fun i => .acc id 3 ((us ++ [(⟨e.up - u, e.pos, 0⟩ : Bind)] ++ kk ++ (e.sub.take i).flatMap (PE.colP freeAt (u + 1))).map Bind.toV) ((us ++ [(⟨e.up - u, e.pos, 0⟩ : Bind)] ++ kk ++ (e.sub.take i).flatMap (PE.colP freeAt (u + 1))).map Bind.toV) :: .cell nb e.v.cells :: H) (fun i => i ≤ e.sub.length) 0 (Nat.zero_le _) ⟨rfl, rfl, rfl, rfl, trivial⟩ hh ?_ (fun i s hi hh => ?_)
       · (repeat' first | (exact Sel.refl _) | (refine Sel.cons 0 rfl rfl ?_) | (refine Sel.cons 1 rfl rfl ?_) | (refine Sel.cons 2 rfl rfl ?_) | (refine Sel.cons 3 rfl rfl ?_) | (refine Sel.drop ?_))
       try dsimp only at hi hh ⊢
       have hm := flatMap_take_len (PE.colP freeAt (u + 1)) e.sub i
       rcases Nat.lt_or_ge i e.sub.length with hlt | hge
       · have hm2 := flatMap_take_len (PE.colP freeAt (u + 1)) e.sub (i + 1)
         have hga : (e.sub.map PE.planV)[i]? = some (PL.v e.sub[i]) := by rw [List.getElem?_map, List.getElem?_eq_getElem hlt]; simp only [Option.map_some, PE.planV_eq]
         have hpw := PE.wgt_sub (List.getElem_mem hlt)
         have hP := fun t => specParts_v e.sub[i] (Nat.le_trans hpw hw) t
         have hpl := PL.parts_len e.sub[i]
         have hI : ∀ k ∈ e.sub[i].parts, ∀ ys : List Bind, ys.length + (k.col freeAt (u + 1)).length ≤ 4000000 → AppC Try.prog 40 (fun o => [k.v, .int .i64 (u + 1), o]) 3 (ys.map Bind.toV) ((ys ++ k.col freeAt (u + 1)).map Bind.toV) := fun k hk ys hy => by
           have h6 := sumW_one (fun k : PE => wgt k.v) e.sub[i].parts
           have h7 := PL.parts_w e.sub[i]
           have h8 : 1 + wgt k.v ≤ sumW (fun k => 1 + wgt k.v) e.sub[i].parts := by
             obtain ⟨j, hj, rfl⟩ := List.getElem_of_mem hk
             exact sumW_mem (f := fun k : PE => 1 + wgt k.v) hj
           exact ih2 _ (List.getElem_mem hlt) k hk (by omega) (u + 1) ys (by omega) (by omega) hy
         have ht := flatMap_take (PE.colP freeAt (u + 1)) hlt
         rw [PE.colP_eq] at ht
         rw [ht, List.length_append] at hm2
         have hzl : (us ++ [(⟨e.up - u, e.pos, 0⟩ : Bind)] ++ kk ++ (e.sub.take i).flatMap (PE.colP freeAt (u + 1))).length + (e.sub[i].parts.flatMap (PE.col freeAt (u + 1))).length ≤ 4000000 := by simp only [List.length_append, List.length_cons, List.length_nil]; omega
         have hY : us ++ [(⟨e.up - u, e.pos, 0⟩ : Bind)] ++ kk ++ (e.sub.take (i + 1)).flatMap (PE.colP freeAt (u + 1)) = us ++ [(⟨e.up - u, e.pos, 0⟩ : Bind)] ++ kk ++ (e.sub.take i).flatMap (PE.colP freeAt (u + 1)) ++ e.sub[i].parts.flatMap (PE.col freeAt (u + 1)) := by rw [ht]; simp only [List.append_assoc]
         generalize e.sub[i] = x at hga hP hI hpl hpw hzl hY
         generalize x.parts = ps at hP hI hpl hzl hY
         generalize us ++ [(⟨e.up - u, e.pos, 0⟩ : Bind)] ++ kk ++ (e.sub.take i).flatMap (PE.colP freeAt (u + 1)) = zs at hY hzl hh ⊢
         repeat' first | (refine kOps ?_; first | (refine LOps.nil ?_) | (refine LOps.ev tT_ok rfl ?_) | (refine kLoad ?_; first | (refine LOps.ans (AnsL.loadH tT_ok 1 hh rfl rfl rfl rfl) ?_)) | (refine kLen ?_; first | (refine LOps.ans (AnsL.lenM tT_ok rfl rfl rfl) ?_)) | (refine kIdx ?_; first | (refine LOps.ans (AnsL.idx tT_ok rfl rfl rfl rfl rfl hga rfl rfl) ?_)) | (refine kCallN 48 ?_; first | (refine LOps.ans (AnsL.callP rfl rfl rfl (ok48) (hP _)) ?_))) | (refine kWL ?_; first | (refine WL.seq ?_) | (refine WL.region (by kernel_rfl) ?_) | (refine WL.block ?_) | (refine WL.skip ?_) | (refine kCond ?_; first | (refine WL.condT' rfl ?_ ?_; (focus (first | (simp <;> omega)))))) | (refine lthen_n ?_)
         have hW0 : zs.map Bind.toV = (zs ++ (ps.take 0).flatMap (PE.col freeAt (u + 1))).map Bind.toV := by simp
         rw [hW0] at hh ⊢
         refine WL.loopH (fun j : Nat => ps.length - j) (fun j => [(1, .int .i64 u), (2, .sl id ((zs ++ (ps.take j).flatMap (PE.col freeAt (u + 1))).map Bind.toV)), (3, .ptr nb 0), (8, .int .i64 (i : Int)), (9, .sl 0 (ps.map PE.toV)), (10, .int .i64 (j : Int))])
           (fun j => .acc id 3 ((zs ++ (ps.take j).flatMap (PE.col freeAt (u + 1))).map Bind.toV) ((zs ++ (ps.take j).flatMap (PE.col freeAt (u + 1))).map Bind.toV) :: .cell nb e.v.cells :: H) (fun j => j ≤ ps.length) 0 (Nat.zero_le _) ⟨rfl, rfl, rfl, rfl, rfl, rfl, trivial⟩ hh ?_ (fun j s hj hh => ?_)
         · (repeat' first | (exact Sel.refl _) | (refine Sel.cons 0 rfl rfl ?_) | (refine Sel.cons 1 rfl rfl ?_) | (refine Sel.cons 2 rfl rfl ?_) | (refine Sel.cons 3 rfl rfl ?_) | (refine Sel.drop ?_))
         try dsimp only at hj hh ⊢
         have hn := flatMap_take_len (PE.col freeAt (u + 1)) ps j
         rcases Nat.lt_or_ge j ps.length with hlt2 | hge2
         · have hn2 := flatMap_take_len (PE.col freeAt (u + 1)) ps (j + 1)
           have hgb : (ps.map PE.toV)[j]? = some (PE.v ps[j]) := by rw [List.getElem?_map, List.getElem?_eq_getElem hlt2]; simp only [Option.map_some, PE.toV_eq]
           have ht2 := flatMap_take (PE.col freeAt (u + 1)) hlt2
           rw [ht2, List.length_append] at hn2
           have hE := hI ps[j] (List.getElem_mem hlt2) (zs ++ (ps.take j).flatMap (PE.col freeAt (u + 1))) (by simp only [List.length_append]; omega)
           have hX : zs ++ (ps.take (j + 1)).flatMap (PE.col freeAt (u + 1)) = zs ++ (ps.take j).flatMap (PE.col freeAt (u + 1)) ++ PE.col freeAt (u + 1) ps[j] := by rw [ht2]; simp only [List.append_assoc]
           generalize ps[j] = y at hgb hE hX
           generalize zs ++ (ps.take j).flatMap (PE.col freeAt (u + 1)) = ys at hE hX hh ⊢
           repeat' first | (refine kCallN 40 ?_ ; refine LOps.accH 0 rfl hE rfl ok40 hh rfl rfl ?_ ; intro s hh) | (refine kOps ?_; first | (refine LOps.nil ?_) | (refine LOps.ev tT_ok rfl ?_) | (refine kLen ?_; first | (refine LOps.ans (AnsL.lenM tT_ok rfl rfl rfl) ?_)) | (refine kBin ?_; first | (refine LOps.ans (AnsL.add rfl rfl ?_) ?_; (focus (constructor <;> omega)))) | (refine kIdx ?_; first | (refine LOps.ans (AnsL.idx tT_ok rfl rfl rfl rfl rfl hgb rfl rfl) ?_))) | (refine kWL ?_; first | (refine WL.seq ?_) | (refine WL.region (by kernel_rfl) ?_) | (refine WL.block ?_) | (refine WL.skip ?_) | (refine kCond ?_; first | (refine WL.condT' rfl ?_ ?_; (focus (first | (simp <;> omega)))))) | (refine lthen_n ?_) | (refine lblock_n ?_)
           refine lbackH.of (j + 1) ?_ hh ?_ hlt2 (by omega)
           · try dsimp only
             rw [hX]
             repeat' first | exact SubL.nil | (refine SubL.mk rfl ?_ ?_) | rfl | (simp; omega)
           · try dsimp only
             rw [hX]
             (repeat' first | (exact Sel.refl _) | (refine Sel.cons 0 rfl rfl ?_) | (refine Sel.cons 1 rfl rfl ?_) | (refine Sel.cons 2 rfl rfl ?_) | (refine Sel.cons 3 rfl rfl ?_) | (refine Sel.drop ?_))
         · rw [List.take_of_length_le hge2] at hh ⊢
           repeat' first | (refine kOps ?_; first | (refine LOps.nil ?_) | (refine LOps.ev tT_ok rfl ?_) | (refine kLen ?_; first | (refine LOps.ans (AnsL.lenM tT_ok rfl rfl rfl) ?_)) | (refine kBin ?_; first | (refine LOps.ans (AnsL.add rfl rfl ?_) ?_; (focus (constructor <;> omega))))) | (refine kWL ?_; first | (refine WL.seq ?_) | (refine WL.region (by kernel_rfl) ?_) | (refine WL.exit ?_) | (refine kCond ?_; first | (refine WL.condF' rfl ?_ ?_; (focus (first | (simp <;> omega)))))) | (refine lthen_n ?_) | (refine lthen_e ?_) | (refine lblock_n ?_) | (refine lblock_e ?_) | (refine lbackH_e ?_)
           refine lbackH.of (i + 1) ?_ hh ?_ hlt (by omega)
           · try dsimp only
             rw [hY]
             repeat' first | exact SubL.nil | (refine SubL.mk rfl ?_ ?_) | rfl | (simp; omega)
           · try dsimp only
             rw [hY]
             (repeat' first | (exact Sel.refl _) | (refine Sel.cons 0 rfl rfl ?_) | (refine Sel.cons 1 rfl rfl ?_) | (refine Sel.cons 2 rfl rfl ?_) | (refine Sel.cons 3 rfl rfl ?_) | (refine Sel.drop ?_))
       · rw [List.take_of_length_le hge] at hh ⊢
         repeat' first | (refine kOps ?_; first | (refine LOps.nil ?_) | (refine LOps.ev tT_ok rfl ?_) | (refine kLoad ?_; first | (refine LOps.ans (AnsL.loadH tT_ok 1 hh rfl rfl rfl rfl) ?_)) | (refine kLen ?_; first | (refine LOps.ans (AnsL.lenM tT_ok rfl rfl rfl) ?_))) | (refine kWL ?_; first | (refine WL.seq ?_) | (refine WL.region (by kernel_rfl) ?_) | (refine WL.exit ?_) | (refine WL.ret ?_) | (refine kCond ?_; first | (refine WL.condF' rfl ?_ ?_; (focus (first | (simp <;> omega)))))) | (refine lthen_n ?_) | (refine lthen_e ?_) | (refine lblock_e ?_) | (refine lbackH_e ?_) | (refine LPost.r1 (r := .tmp 6) (.inl rfl) (Res1.tmp rfl) ?_)
         have hF : us ++ [(⟨e.up - u, e.pos, 0⟩ : Bind)] ++ kk ++ e.sub.flatMap (PE.colP freeAt (u + 1)) = us ++ ([(⟨e.up - u, e.pos, 0⟩ : Bind)] ++ (kk ++ e.sub.flatMap (PE.colP freeAt (u + 1)))) := by simp only [List.append_assoc]
         rw [hF] at hh ⊢
         exact ⟨_, rfl, rfl, hh.sel (by (repeat' first | (exact Sel.refl _) | (refine Sel.cons 0 rfl rfl ?_) | (refine Sel.cons 1 rfl rfl ?_) | (refine Sel.cons 2 rfl rfl ?_) | (refine Sel.cons 3 rfl rfl ?_) | (refine Sel.drop ?_)))⟩
     · have hfa : freeAt u e.kind e.up e.pos = [] := by simp [freeAt, hu]
       rw [hfa] at h2 ⊢
       simp only [List.length_nil] at h2
       repeat' first | (refine kBox ?_ ; first | (refine LOps.boxH hh rfl rfl ?_ ; intro s n hh)) | (refine kOps ?_; first | (refine LOps.nil ?_) | (refine kG ?_; first | (refine LOps.gT rfl rfl rfl ?_) | (refine LOps.gD true rfl rfl rfl ?_ ?_; (focus (first | (exact decide_eq_true (by assumption)))))) | (refine LOps.ev tT_ok rfl ?_) | (refine kLoad ?_; first | (refine LOps.ans (AnsL.loadH tT_ok 0 hh rfl rfl rfl rfl) ?_))) | (refine kWL ?_; first | (refine WL.seq ?_) | (refine WL.region (by kernel_rfl) ?_) | (refine WL.block ?_) | (refine WL.skip ?_) | (refine kCond ?_; first | (refine WL.condF' rfl ?_ ?_; (focus (first | (exact decide_eq_false (by assumption))))))) | (refine lthen_n ?_)
       have hY0 : us.map Bind.toV = (us ++ ([] : List Bind) ++ (e.kids.take 0).flatMap (PE.col freeAt u)).map Bind.toV := by simp [Bind.toV]
       rw [hY0] at hh ⊢
       refine WL.loopH (fun i : Nat => e.kids.length - i) (fun i => [(1, .int .i64 u), (2, .sl id ((us ++ ([] : List Bind) ++ (e.kids.take i).flatMap (PE.col freeAt u)).map Bind.toV)), (3, .ptr n 0), (7, .int .i64 (i : Int))])
         (fun i => .acc id 3 ((us ++ ([] : List Bind) ++ (e.kids.take i).flatMap (PE.col freeAt u)).map Bind.toV) ((us ++ ([] : List Bind) ++ (e.kids.take i).flatMap (PE.col freeAt u)).map Bind.toV) :: .cell n e.v.cells :: H) (fun i => i ≤ e.kids.length) 0 (Nat.zero_le _) ⟨rfl, rfl, rfl, rfl, trivial⟩ hh ?_ (fun i s hi hh => ?_)
       · (repeat' first | (exact Sel.refl _) | (refine Sel.cons 0 rfl rfl ?_) | (refine Sel.cons 1 rfl rfl ?_) | (refine Sel.cons 2 rfl rfl ?_) | (refine Sel.cons 3 rfl rfl ?_) | (refine Sel.drop ?_))
       try dsimp only at hi hh ⊢
       have hl := flatMap_take_len (PE.col freeAt u) e.kids i
       rcases Nat.lt_or_ge i e.kids.length with hlt | hge
       · have hl2 := flatMap_take_len (PE.col freeAt u) e.kids (i + 1)
         have hga : (e.kids.map PE.toV)[i]? = some (PE.v e.kids[i]) := by rw [List.getElem?_map, List.getElem?_eq_getElem hlt]; simp only [Option.map_some, PE.toV_eq]
         have ht := flatMap_take (PE.col freeAt u) hlt
         have hE := ih1 e.kids[i] (List.getElem_mem hlt) (Nat.le_trans (PE.wgt_kid (List.getElem_mem hlt)) hw) u (us ++ ([] : List Bind) ++ (e.kids.take i).flatMap (PE.col freeAt u)) h0 (by have := PE.wgt_kid (List.getElem_mem hlt); omega) (by rw [ht, List.length_append] at hl2; simp only [List.length_append, List.length_cons, List.length_nil]; omega)
         have hY : us ++ ([] : List Bind) ++ (e.kids.take (i + 1)).flatMap (PE.col freeAt u) = us ++ ([] : List Bind) ++ (e.kids.take i).flatMap (PE.col freeAt u) ++ PE.col freeAt u e.kids[i] := by rw [ht]; simp only [List.append_assoc]
         generalize e.kids[i] = x at hga hE hY
         generalize us ++ ([] : List Bind) ++ (e.kids.take i).flatMap (PE.col freeAt u) = ys at hE hY hh ⊢
         repeat' first | (refine kCallN 40 ?_ ; refine LOps.accH 0 rfl hE rfl ok40 hh rfl rfl ?_ ; intro s hh) | (refine kOps ?_; first | (refine LOps.nil ?_) | (refine LOps.ev tT_ok rfl ?_) | (refine kLoad ?_; first | (refine LOps.ans (AnsL.loadH tT_ok 1 hh rfl rfl rfl rfl) ?_)) | (refine kLen ?_; first | (refine LOps.ans (AnsL.lenM tT_ok rfl rfl rfl) ?_)) | (refine kBin ?_; first | (refine LOps.ans (AnsL.add rfl rfl ?_) ?_; (focus (constructor <;> omega)))) | (refine kIdx ?_; first | (refine LOps.ans (AnsL.idx tT_ok rfl rfl rfl rfl rfl hga rfl rfl) ?_))) | (refine kWL ?_; first | (refine WL.seq ?_) | (refine WL.region (by kernel_rfl) ?_) | (refine WL.block ?_) | (refine WL.skip ?_) | (refine kCond ?_; first | (refine WL.condT' rfl ?_ ?_; (focus (first | (simp <;> omega)))))) | (refine lthen_n ?_) | (refine lblock_n ?_)
         refine lbackH.of (i + 1) ?_ hh ?_ hlt (by omega)
         · try dsimp only
           rw [hY]
           repeat' first | exact SubL.nil | (refine SubL.mk rfl ?_ ?_) | rfl | (simp; omega)
         · try dsimp only
           rw [hY]
           (repeat' first | (exact Sel.refl _) | (refine Sel.cons 0 rfl rfl ?_) | (refine Sel.cons 1 rfl rfl ?_) | (refine Sel.cons 2 rfl rfl ?_) | (refine Sel.cons 3 rfl rfl ?_) | (refine Sel.drop ?_))
       rw [List.take_of_length_le hge] at hl hh ⊢
       generalize e.kids.flatMap (PE.col freeAt u) = kk at hl hh h2 ⊢
       repeat' first | (refine kOps ?_; first | (refine LOps.nil ?_) | (refine LOps.ev tT_ok rfl ?_) | (refine kLoad ?_; first | (refine LOps.ans (AnsL.loadH tT_ok 1 hh rfl rfl rfl rfl) ?_)) | (refine kLen ?_; first | (refine LOps.ans (AnsL.lenM tT_ok rfl rfl rfl) ?_))) | (refine kWL ?_; first | (refine WL.seq ?_) | (refine WL.region (by kernel_rfl) ?_) | (refine WL.block ?_) | (refine WL.exit ?_) | (refine kCond ?_; first | (refine WL.condF' rfl ?_ ?_; (focus (first | (simp <;> omega)))))) | (refine lthen_n ?_) | (refine lthen_e ?_) | (refine lblock_e ?_) | (refine lbackH_e ?_)
       have hZ0 : us ++ ([] : List Bind) ++ kk = us ++ ([] : List Bind) ++ kk ++ (e.sub.take 0).flatMap (PE.colP freeAt (u + 1)) := by simp
       rw [hZ0] at hh ⊢
       refine WL.loopH (fun i : Nat => e.sub.length - i) (fun i => [(1, .int .i64 u), (2, .sl id ((us ++ ([] : List Bind) ++ kk ++ (e.sub.take i).flatMap (PE.colP freeAt (u + 1))).map Bind.toV)), (3, .ptr n 0), (8, .int .i64 (i : Int))])
         (fun i => .acc id 3 ((us ++ ([] : List Bind) ++ kk ++ (e.sub.take i).flatMap (PE.colP freeAt (u + 1))).map Bind.toV) ((us ++ ([] : List Bind) ++ kk ++ (e.sub.take i).flatMap (PE.colP freeAt (u + 1))).map Bind.toV) :: .cell n e.v.cells :: H) (fun i => i ≤ e.sub.length) 0 (Nat.zero_le _) ⟨rfl, rfl, rfl, rfl, trivial⟩ hh ?_ (fun i s hi hh => ?_)
       · (repeat' first | (exact Sel.refl _) | (refine Sel.cons 0 rfl rfl ?_) | (refine Sel.cons 1 rfl rfl ?_) | (refine Sel.cons 2 rfl rfl ?_) | (refine Sel.cons 3 rfl rfl ?_) | (refine Sel.drop ?_))
       try dsimp only at hi hh ⊢
       have hm := flatMap_take_len (PE.colP freeAt (u + 1)) e.sub i
       rcases Nat.lt_or_ge i e.sub.length with hlt | hge
       · have hm2 := flatMap_take_len (PE.colP freeAt (u + 1)) e.sub (i + 1)
         have hga : (e.sub.map PE.planV)[i]? = some (PL.v e.sub[i]) := by rw [List.getElem?_map, List.getElem?_eq_getElem hlt]; simp only [Option.map_some, PE.planV_eq]
         have hpw := PE.wgt_sub (List.getElem_mem hlt)
         have hP := fun t => specParts_v e.sub[i] (Nat.le_trans hpw hw) t
         have hpl := PL.parts_len e.sub[i]
         have hI : ∀ k ∈ e.sub[i].parts, ∀ ys : List Bind, ys.length + (k.col freeAt (u + 1)).length ≤ 4000000 → AppC Try.prog 40 (fun o => [k.v, .int .i64 (u + 1), o]) 3 (ys.map Bind.toV) ((ys ++ k.col freeAt (u + 1)).map Bind.toV) := fun k hk ys hy => by
           have h6 := sumW_one (fun k : PE => wgt k.v) e.sub[i].parts
           have h7 := PL.parts_w e.sub[i]
           have h8 : 1 + wgt k.v ≤ sumW (fun k => 1 + wgt k.v) e.sub[i].parts := by
             obtain ⟨j, hj, rfl⟩ := List.getElem_of_mem hk
             exact sumW_mem (f := fun k : PE => 1 + wgt k.v) hj
           exact ih2 _ (List.getElem_mem hlt) k hk (by omega) (u + 1) ys (by omega) (by omega) hy
         have ht := flatMap_take (PE.colP freeAt (u + 1)) hlt
         rw [PE.colP_eq] at ht
         rw [ht, List.length_append] at hm2
         have hzl : (us ++ ([] : List Bind) ++ kk ++ (e.sub.take i).flatMap (PE.colP freeAt (u + 1))).length + (e.sub[i].parts.flatMap (PE.col freeAt (u + 1))).length ≤ 4000000 := by simp only [List.length_append, List.length_cons, List.length_nil]; omega
         have hY : us ++ ([] : List Bind) ++ kk ++ (e.sub.take (i + 1)).flatMap (PE.colP freeAt (u + 1)) = us ++ ([] : List Bind) ++ kk ++ (e.sub.take i).flatMap (PE.colP freeAt (u + 1)) ++ e.sub[i].parts.flatMap (PE.col freeAt (u + 1)) := by rw [ht]; simp only [List.append_assoc]
         generalize e.sub[i] = x at hga hP hI hpl hpw hzl hY
         generalize x.parts = ps at hP hI hpl hzl hY
         generalize us ++ ([] : List Bind) ++ kk ++ (e.sub.take i).flatMap (PE.colP freeAt (u + 1)) = zs at hY hzl hh ⊢
         repeat' first | (refine kOps ?_; first | (refine LOps.nil ?_) | (refine LOps.ev tT_ok rfl ?_) | (refine kLoad ?_; first | (refine LOps.ans (AnsL.loadH tT_ok 1 hh rfl rfl rfl rfl) ?_)) | (refine kLen ?_; first | (refine LOps.ans (AnsL.lenM tT_ok rfl rfl rfl) ?_)) | (refine kIdx ?_; first | (refine LOps.ans (AnsL.idx tT_ok rfl rfl rfl rfl rfl hga rfl rfl) ?_)) | (refine kCallN 48 ?_; first | (refine LOps.ans (AnsL.callP rfl rfl rfl (ok48) (hP _)) ?_))) | (refine kWL ?_; first | (refine WL.seq ?_) | (refine WL.region (by kernel_rfl) ?_) | (refine WL.block ?_) | (refine WL.skip ?_) | (refine kCond ?_; first | (refine WL.condT' rfl ?_ ?_; (focus (first | (simp <;> omega)))))) | (refine lthen_n ?_)
         have hW0 : zs.map Bind.toV = (zs ++ (ps.take 0).flatMap (PE.col freeAt (u + 1))).map Bind.toV := by simp
         rw [hW0] at hh ⊢
         refine WL.loopH (fun j : Nat => ps.length - j) (fun j => [(1, .int .i64 u), (2, .sl id ((zs ++ (ps.take j).flatMap (PE.col freeAt (u + 1))).map Bind.toV)), (3, .ptr n 0), (8, .int .i64 (i : Int)), (9, .sl 0 (ps.map PE.toV)), (10, .int .i64 (j : Int))])
           (fun j => .acc id 3 ((zs ++ (ps.take j).flatMap (PE.col freeAt (u + 1))).map Bind.toV) ((zs ++ (ps.take j).flatMap (PE.col freeAt (u + 1))).map Bind.toV) :: .cell n e.v.cells :: H) (fun j => j ≤ ps.length) 0 (Nat.zero_le _) ⟨rfl, rfl, rfl, rfl, rfl, rfl, trivial⟩ hh ?_ (fun j s hj hh => ?_)
         · (repeat' first | (exact Sel.refl _) | (refine Sel.cons 0 rfl rfl ?_) | (refine Sel.cons 1 rfl rfl ?_) | (refine Sel.cons 2 rfl rfl ?_) | (refine Sel.cons 3 rfl rfl ?_) | (refine Sel.drop ?_))
         try dsimp only at hj hh ⊢
         have hn := flatMap_take_len (PE.col freeAt (u + 1)) ps j
         rcases Nat.lt_or_ge j ps.length with hlt2 | hge2
         · have hn2 := flatMap_take_len (PE.col freeAt (u + 1)) ps (j + 1)
           have hgb : (ps.map PE.toV)[j]? = some (PE.v ps[j]) := by rw [List.getElem?_map, List.getElem?_eq_getElem hlt2]; simp only [Option.map_some, PE.toV_eq]
           have ht2 := flatMap_take (PE.col freeAt (u + 1)) hlt2
           rw [ht2, List.length_append] at hn2
           have hE := hI ps[j] (List.getElem_mem hlt2) (zs ++ (ps.take j).flatMap (PE.col freeAt (u + 1))) (by simp only [List.length_append]; omega)
           have hX : zs ++ (ps.take (j + 1)).flatMap (PE.col freeAt (u + 1)) = zs ++ (ps.take j).flatMap (PE.col freeAt (u + 1)) ++ PE.col freeAt (u + 1) ps[j] := by rw [ht2]; simp only [List.append_assoc]
           generalize ps[j] = y at hgb hE hX
           generalize zs ++ (ps.take j).flatMap (PE.col freeAt (u + 1)) = ys at hE hX hh ⊢
           repeat' first | (refine kCallN 40 ?_ ; refine LOps.accH 0 rfl hE rfl ok40 hh rfl rfl ?_ ; intro s hh) | (refine kOps ?_; first | (refine LOps.nil ?_) | (refine LOps.ev tT_ok rfl ?_) | (refine kLen ?_; first | (refine LOps.ans (AnsL.lenM tT_ok rfl rfl rfl) ?_)) | (refine kBin ?_; first | (refine LOps.ans (AnsL.add rfl rfl ?_) ?_; (focus (constructor <;> omega)))) | (refine kIdx ?_; first | (refine LOps.ans (AnsL.idx tT_ok rfl rfl rfl rfl rfl hgb rfl rfl) ?_))) | (refine kWL ?_; first | (refine WL.seq ?_) | (refine WL.region (by kernel_rfl) ?_) | (refine WL.block ?_) | (refine WL.skip ?_) | (refine kCond ?_; first | (refine WL.condT' rfl ?_ ?_; (focus (first | (simp <;> omega)))))) | (refine lthen_n ?_) | (refine lblock_n ?_)
           refine lbackH.of (j + 1) ?_ hh ?_ hlt2 (by omega)
           · try dsimp only
             rw [hX]
             repeat' first | exact SubL.nil | (refine SubL.mk rfl ?_ ?_) | rfl | (simp; omega)
           · try dsimp only
             rw [hX]
             (repeat' first | (exact Sel.refl _) | (refine Sel.cons 0 rfl rfl ?_) | (refine Sel.cons 1 rfl rfl ?_) | (refine Sel.cons 2 rfl rfl ?_) | (refine Sel.cons 3 rfl rfl ?_) | (refine Sel.drop ?_))
         · rw [List.take_of_length_le hge2] at hh ⊢
           repeat' first | (refine kOps ?_; first | (refine LOps.nil ?_) | (refine LOps.ev tT_ok rfl ?_) | (refine kLen ?_; first | (refine LOps.ans (AnsL.lenM tT_ok rfl rfl rfl) ?_)) | (refine kBin ?_; first | (refine LOps.ans (AnsL.add rfl rfl ?_) ?_; (focus (constructor <;> omega))))) | (refine kWL ?_; first | (refine WL.seq ?_) | (refine WL.region (by kernel_rfl) ?_) | (refine WL.exit ?_) | (refine kCond ?_; first | (refine WL.condF' rfl ?_ ?_; (focus (first | (simp <;> omega)))))) | (refine lthen_n ?_) | (refine lthen_e ?_) | (refine lblock_n ?_) | (refine lblock_e ?_) | (refine lbackH_e ?_)
           refine lbackH.of (i + 1) ?_ hh ?_ hlt (by omega)
           · try dsimp only
             rw [hY]
             repeat' first | exact SubL.nil | (refine SubL.mk rfl ?_ ?_) | rfl | (simp; omega)
           · try dsimp only
             rw [hY]
             (repeat' first | (exact Sel.refl _) | (refine Sel.cons 0 rfl rfl ?_) | (refine Sel.cons 1 rfl rfl ?_) | (refine Sel.cons 2 rfl rfl ?_) | (refine Sel.cons 3 rfl rfl ?_) | (refine Sel.drop ?_))
       · rw [List.take_of_length_le hge] at hh ⊢
         repeat' first | (refine kOps ?_; first | (refine LOps.nil ?_) | (refine LOps.ev tT_ok rfl ?_) | (refine kLoad ?_; first | (refine LOps.ans (AnsL.loadH tT_ok 1 hh rfl rfl rfl rfl) ?_)) | (refine kLen ?_; first | (refine LOps.ans (AnsL.lenM tT_ok rfl rfl rfl) ?_))) | (refine kWL ?_; first | (refine WL.seq ?_) | (refine WL.region (by kernel_rfl) ?_) | (refine WL.exit ?_) | (refine WL.ret ?_) | (refine kCond ?_; first | (refine WL.condF' rfl ?_ ?_; (focus (first | (simp <;> omega)))))) | (refine lthen_n ?_) | (refine lthen_e ?_) | (refine lblock_e ?_) | (refine lbackH_e ?_) | (refine LPost.r1 (r := .tmp 6) (.inl rfl) (Res1.tmp rfl) ?_)
         have hF : us ++ ([] : List Bind) ++ kk ++ e.sub.flatMap (PE.colP freeAt (u + 1)) = us ++ (([] : List Bind) ++ (kk ++ e.sub.flatMap (PE.colP freeAt (u + 1)))) := by simp only [List.append_assoc]
         rw [hF] at hh ⊢
         exact ⟨_, rfl, rfl, hh.sel (by (repeat' first | (exact Sel.refl _) | (refine Sel.cons 0 rfl rfl ?_) | (refine Sel.cons 1 rfl rfl ?_) | (refine Sel.cons 2 rfl rfl ?_) | (refine Sel.cons 3 rfl rfl ?_) | (refine Sel.drop ?_)))⟩
   · have hfa : freeAt u e.kind e.up e.pos = [] := by simp [freeAt, hk]
     rw [hfa] at h2 ⊢
     simp only [List.length_nil] at h2
     repeat' first | (refine kBox ?_ ; first | (refine LOps.boxH hh rfl rfl ?_ ; intro s n hh)) | (refine kOps ?_; first | (refine LOps.nil ?_) | (refine kG ?_; first | (refine LOps.gF rfl rfl rfl ?_) | (refine LOps.gD false rfl rfl rfl ?_ ?_; (focus (first | (exact decide_eq_false (by assumption)))))) | (refine LOps.ev tT_ok rfl ?_) | (refine kLoad ?_; first | (refine LOps.ans (AnsL.loadH tT_ok 0 hh rfl rfl rfl rfl) ?_))) | (refine kWL ?_; first | (refine WL.seq ?_) | (refine WL.region (by kernel_rfl) ?_) | (refine WL.block ?_) | (refine WL.skip ?_) | (refine kCond ?_; first | (refine WL.condF rfl ?_))) | (refine lthen_n ?_)
     have hY0 : us.map Bind.toV = (us ++ ([] : List Bind) ++ (e.kids.take 0).flatMap (PE.col freeAt u)).map Bind.toV := by simp [Bind.toV]
     rw [hY0] at hh ⊢
     refine WL.loopH (fun i : Nat => e.kids.length - i) (fun i => [(1, .int .i64 u), (2, .sl id ((us ++ ([] : List Bind) ++ (e.kids.take i).flatMap (PE.col freeAt u)).map Bind.toV)), (3, .ptr n 0), (7, .int .i64 (i : Int))])
       (fun i => .acc id 3 ((us ++ ([] : List Bind) ++ (e.kids.take i).flatMap (PE.col freeAt u)).map Bind.toV) ((us ++ ([] : List Bind) ++ (e.kids.take i).flatMap (PE.col freeAt u)).map Bind.toV) :: .cell n e.v.cells :: H) (fun i => i ≤ e.kids.length) 0 (Nat.zero_le _) ⟨rfl, rfl, rfl, rfl, trivial⟩ hh ?_ (fun i s hi hh => ?_)
     · (repeat' first | (exact Sel.refl _) | (refine Sel.cons 0 rfl rfl ?_) | (refine Sel.cons 1 rfl rfl ?_) | (refine Sel.cons 2 rfl rfl ?_) | (refine Sel.cons 3 rfl rfl ?_) | (refine Sel.drop ?_))
     try dsimp only at hi hh ⊢
     have hl := flatMap_take_len (PE.col freeAt u) e.kids i
     rcases Nat.lt_or_ge i e.kids.length with hlt | hge
     · have hl2 := flatMap_take_len (PE.col freeAt u) e.kids (i + 1)
       have hga : (e.kids.map PE.toV)[i]? = some (PE.v e.kids[i]) := by rw [List.getElem?_map, List.getElem?_eq_getElem hlt]; simp only [Option.map_some, PE.toV_eq]
       have ht := flatMap_take (PE.col freeAt u) hlt
       have hE := ih1 e.kids[i] (List.getElem_mem hlt) (Nat.le_trans (PE.wgt_kid (List.getElem_mem hlt)) hw) u (us ++ ([] : List Bind) ++ (e.kids.take i).flatMap (PE.col freeAt u)) h0 (by have := PE.wgt_kid (List.getElem_mem hlt); omega) (by rw [ht, List.length_append] at hl2; simp only [List.length_append, List.length_cons, List.length_nil]; omega)
       have hY : us ++ ([] : List Bind) ++ (e.kids.take (i + 1)).flatMap (PE.col freeAt u) = us ++ ([] : List Bind) ++ (e.kids.take i).flatMap (PE.col freeAt u) ++ PE.col freeAt u e.kids[i] := by rw [ht]; simp only [List.append_assoc]
       generalize e.kids[i] = x at hga hE hY
       generalize us ++ ([] : List Bind) ++ (e.kids.take i).flatMap (PE.col freeAt u) = ys at hE hY hh ⊢
       repeat' first | (refine kCallN 40 ?_ ; refine LOps.accH 0 rfl hE rfl ok40 hh rfl rfl ?_ ; intro s hh) | (refine kOps ?_; first | (refine LOps.nil ?_) | (refine LOps.ev tT_ok rfl ?_) | (refine kLoad ?_; first | (refine LOps.ans (AnsL.loadH tT_ok 1 hh rfl rfl rfl rfl) ?_)) | (refine kLen ?_; first | (refine LOps.ans (AnsL.lenM tT_ok rfl rfl rfl) ?_)) | (refine kBin ?_; first | (refine LOps.ans (AnsL.add rfl rfl ?_) ?_; (focus (constructor <;> omega)))) | (refine kIdx ?_; first | (refine LOps.ans (AnsL.idx tT_ok rfl rfl rfl rfl rfl hga rfl rfl) ?_))) | (refine kWL ?_; first | (refine WL.seq ?_) | (refine WL.region (by kernel_rfl) ?_) | (refine WL.block ?_) | (refine WL.skip ?_) | (refine kCond ?_; first | (refine WL.condT' rfl ?_ ?_; (focus (first | (simp <;> omega)))))) | (refine lthen_n ?_) | (refine lblock_n ?_)
       refine lbackH.of (i + 1) ?_ hh ?_ hlt (by omega)
       · try dsimp only
         rw [hY]
         repeat' first | exact SubL.nil | (refine SubL.mk rfl ?_ ?_) | rfl | (simp; omega)
       · try dsimp only
         rw [hY]
         (repeat' first | (exact Sel.refl _) | (refine Sel.cons 0 rfl rfl ?_) | (refine Sel.cons 1 rfl rfl ?_) | (refine Sel.cons 2 rfl rfl ?_) | (refine Sel.cons 3 rfl rfl ?_) | (refine Sel.drop ?_))
     rw [List.take_of_length_le hge] at hl hh ⊢
     generalize e.kids.flatMap (PE.col freeAt u) = kk at hl hh h2 ⊢
     repeat' first | (refine kOps ?_; first | (refine LOps.nil ?_) | (refine LOps.ev tT_ok rfl ?_) | (refine kLoad ?_; first | (refine LOps.ans (AnsL.loadH tT_ok 1 hh rfl rfl rfl rfl) ?_)) | (refine kLen ?_; first | (refine LOps.ans (AnsL.lenM tT_ok rfl rfl rfl) ?_))) | (refine kWL ?_; first | (refine WL.seq ?_) | (refine WL.region (by kernel_rfl) ?_) | (refine WL.block ?_) | (refine WL.exit ?_) | (refine kCond ?_; first | (refine WL.condF' rfl ?_ ?_; (focus (first | (simp <;> omega)))))) | (refine lthen_n ?_) | (refine lthen_e ?_) | (refine lblock_e ?_) | (refine lbackH_e ?_)
     have hZ0 : us ++ ([] : List Bind) ++ kk = us ++ ([] : List Bind) ++ kk ++ (e.sub.take 0).flatMap (PE.colP freeAt (u + 1)) := by simp
     rw [hZ0] at hh ⊢
     refine WL.loopH (fun i : Nat => e.sub.length - i) (fun i => [(1, .int .i64 u), (2, .sl id ((us ++ ([] : List Bind) ++ kk ++ (e.sub.take i).flatMap (PE.colP freeAt (u + 1))).map Bind.toV)), (3, .ptr n 0), (8, .int .i64 (i : Int))])
       (fun i => .acc id 3 ((us ++ ([] : List Bind) ++ kk ++ (e.sub.take i).flatMap (PE.colP freeAt (u + 1))).map Bind.toV) ((us ++ ([] : List Bind) ++ kk ++ (e.sub.take i).flatMap (PE.colP freeAt (u + 1))).map Bind.toV) :: .cell n e.v.cells :: H) (fun i => i ≤ e.sub.length) 0 (Nat.zero_le _) ⟨rfl, rfl, rfl, rfl, trivial⟩ hh ?_ (fun i s hi hh => ?_)
     · (repeat' first | (exact Sel.refl _) | (refine Sel.cons 0 rfl rfl ?_) | (refine Sel.cons 1 rfl rfl ?_) | (refine Sel.cons 2 rfl rfl ?_) | (refine Sel.cons 3 rfl rfl ?_) | (refine Sel.drop ?_))
     try dsimp only at hi hh ⊢
     have hm := flatMap_take_len (PE.colP freeAt (u + 1)) e.sub i
     rcases Nat.lt_or_ge i e.sub.length with hlt | hge
     · have hm2 := flatMap_take_len (PE.colP freeAt (u + 1)) e.sub (i + 1)
       have hga : (e.sub.map PE.planV)[i]? = some (PL.v e.sub[i]) := by rw [List.getElem?_map, List.getElem?_eq_getElem hlt]; simp only [Option.map_some, PE.planV_eq]
       have hpw := PE.wgt_sub (List.getElem_mem hlt)
       have hP := fun t => specParts_v e.sub[i] (Nat.le_trans hpw hw) t
       have hpl := PL.parts_len e.sub[i]
       have hI : ∀ k ∈ e.sub[i].parts, ∀ ys : List Bind, ys.length + (k.col freeAt (u + 1)).length ≤ 4000000 → AppC Try.prog 40 (fun o => [k.v, .int .i64 (u + 1), o]) 3 (ys.map Bind.toV) ((ys ++ k.col freeAt (u + 1)).map Bind.toV) := fun k hk ys hy => by
         have h6 := sumW_one (fun k : PE => wgt k.v) e.sub[i].parts
         have h7 := PL.parts_w e.sub[i]
         have h8 : 1 + wgt k.v ≤ sumW (fun k => 1 + wgt k.v) e.sub[i].parts := by
           obtain ⟨j, hj, rfl⟩ := List.getElem_of_mem hk
           exact sumW_mem (f := fun k : PE => 1 + wgt k.v) hj
         exact ih2 _ (List.getElem_mem hlt) k hk (by omega) (u + 1) ys (by omega) (by omega) hy
       have ht := flatMap_take (PE.colP freeAt (u + 1)) hlt
       rw [PE.colP_eq] at ht
       rw [ht, List.length_append] at hm2
       have hzl : (us ++ ([] : List Bind) ++ kk ++ (e.sub.take i).flatMap (PE.colP freeAt (u + 1))).length + (e.sub[i].parts.flatMap (PE.col freeAt (u + 1))).length ≤ 4000000 := by simp only [List.length_append, List.length_cons, List.length_nil]; omega
       have hY : us ++ ([] : List Bind) ++ kk ++ (e.sub.take (i + 1)).flatMap (PE.colP freeAt (u + 1)) = us ++ ([] : List Bind) ++ kk ++ (e.sub.take i).flatMap (PE.colP freeAt (u + 1)) ++ e.sub[i].parts.flatMap (PE.col freeAt (u + 1)) := by rw [ht]; simp only [List.append_assoc]
       generalize e.sub[i] = x at hga hP hI hpl hpw hzl hY
       generalize x.parts = ps at hP hI hpl hzl hY
       generalize us ++ ([] : List Bind) ++ kk ++ (e.sub.take i).flatMap (PE.colP freeAt (u + 1)) = zs at hY hzl hh ⊢
       repeat' first | (refine kOps ?_; first | (refine LOps.nil ?_) | (refine LOps.ev tT_ok rfl ?_) | (refine kLoad ?_; first | (refine LOps.ans (AnsL.loadH tT_ok 1 hh rfl rfl rfl rfl) ?_)) | (refine kLen ?_; first | (refine LOps.ans (AnsL.lenM tT_ok rfl rfl rfl) ?_)) | (refine kIdx ?_; first | (refine LOps.ans (AnsL.idx tT_ok rfl rfl rfl rfl rfl hga rfl rfl) ?_)) | (refine kCallN 48 ?_; first | (refine LOps.ans (AnsL.callP rfl rfl rfl (ok48) (hP _)) ?_))) | (refine kWL ?_; first | (refine WL.seq ?_) | (refine WL.region (by kernel_rfl) ?_) | (refine WL.block ?_) | (refine WL.skip ?_) | (refine kCond ?_; first | (refine WL.condT' rfl ?_ ?_; (focus (first | (simp <;> omega)))))) | (refine lthen_n ?_)
       have hW0 : zs.map Bind.toV = (zs ++ (ps.take 0).flatMap (PE.col freeAt (u + 1))).map Bind.toV := by simp
       rw [hW0] at hh ⊢
       refine WL.loopH (fun j : Nat => ps.length - j) (fun j => [(1, .int .i64 u), (2, .sl id ((zs ++ (ps.take j).flatMap (PE.col freeAt (u + 1))).map Bind.toV)), (3, .ptr n 0), (8, .int .i64 (i : Int)), (9, .sl 0 (ps.map PE.toV)), (10, .int .i64 (j : Int))])
         (fun j => .acc id 3 ((zs ++ (ps.take j).flatMap (PE.col freeAt (u + 1))).map Bind.toV) ((zs ++ (ps.take j).flatMap (PE.col freeAt (u + 1))).map Bind.toV) :: .cell n e.v.cells :: H) (fun j => j ≤ ps.length) 0 (Nat.zero_le _) ⟨rfl, rfl, rfl, rfl, rfl, rfl, trivial⟩ hh ?_ (fun j s hj hh => ?_)
       · (repeat' first | (exact Sel.refl _) | (refine Sel.cons 0 rfl rfl ?_) | (refine Sel.cons 1 rfl rfl ?_) | (refine Sel.cons 2 rfl rfl ?_) | (refine Sel.cons 3 rfl rfl ?_) | (refine Sel.drop ?_))
       try dsimp only at hj hh ⊢
       have hn := flatMap_take_len (PE.col freeAt (u + 1)) ps j
       rcases Nat.lt_or_ge j ps.length with hlt2 | hge2
       · have hn2 := flatMap_take_len (PE.col freeAt (u + 1)) ps (j + 1)
         have hgb : (ps.map PE.toV)[j]? = some (PE.v ps[j]) := by rw [List.getElem?_map, List.getElem?_eq_getElem hlt2]; simp only [Option.map_some, PE.toV_eq]
         have ht2 := flatMap_take (PE.col freeAt (u + 1)) hlt2
         rw [ht2, List.length_append] at hn2
         have hE := hI ps[j] (List.getElem_mem hlt2) (zs ++ (ps.take j).flatMap (PE.col freeAt (u + 1))) (by simp only [List.length_append]; omega)
         have hX : zs ++ (ps.take (j + 1)).flatMap (PE.col freeAt (u + 1)) = zs ++ (ps.take j).flatMap (PE.col freeAt (u + 1)) ++ PE.col freeAt (u + 1) ps[j] := by rw [ht2]; simp only [List.append_assoc]
         generalize ps[j] = y at hgb hE hX
         generalize zs ++ (ps.take j).flatMap (PE.col freeAt (u + 1)) = ys at hE hX hh ⊢
         repeat' first | (refine kCallN 40 ?_ ; refine LOps.accH 0 rfl hE rfl ok40 hh rfl rfl ?_ ; intro s hh) | (refine kOps ?_; first | (refine LOps.nil ?_) | (refine LOps.ev tT_ok rfl ?_) | (refine kLen ?_; first | (refine LOps.ans (AnsL.lenM tT_ok rfl rfl rfl) ?_)) | (refine kBin ?_; first | (refine LOps.ans (AnsL.add rfl rfl ?_) ?_; (focus (constructor <;> omega)))) | (refine kIdx ?_; first | (refine LOps.ans (AnsL.idx tT_ok rfl rfl rfl rfl rfl hgb rfl rfl) ?_))) | (refine kWL ?_; first | (refine WL.seq ?_) | (refine WL.region (by kernel_rfl) ?_) | (refine WL.block ?_) | (refine WL.skip ?_) | (refine kCond ?_; first | (refine WL.condT' rfl ?_ ?_; (focus (first | (simp <;> omega)))))) | (refine lthen_n ?_) | (refine lblock_n ?_)
         refine lbackH.of (j + 1) ?_ hh ?_ hlt2 (by omega)
         · try dsimp only
           rw [hX]
           repeat' first | exact SubL.nil | (refine SubL.mk rfl ?_ ?_) | rfl | (simp; omega)
         · try dsimp only
           rw [hX]
           (repeat' first | (exact Sel.refl _) | (refine Sel.cons 0 rfl rfl ?_) | (refine Sel.cons 1 rfl rfl ?_) | (refine Sel.cons 2 rfl rfl ?_) | (refine Sel.cons 3 rfl rfl ?_) | (refine Sel.drop ?_))
       · rw [List.take_of_length_le hge2] at hh ⊢
         repeat' first | (refine kOps ?_; first | (refine LOps.nil ?_) | (refine LOps.ev tT_ok rfl ?_) | (refine kLen ?_; first | (refine LOps.ans (AnsL.lenM tT_ok rfl rfl rfl) ?_)) | (refine kBin ?_; first | (refine LOps.ans (AnsL.add rfl rfl ?_) ?_; (focus (constructor <;> omega))))) | (refine kWL ?_; first | (refine WL.seq ?_) | (refine WL.region (by kernel_rfl) ?_) | (refine WL.exit ?_) | (refine kCond ?_; first | (refine WL.condF' rfl ?_ ?_; (focus (first | (simp <;> omega)))))) | (refine lthen_n ?_) | (refine lthen_e ?_) | (refine lblock_n ?_) | (refine lblock_e ?_) | (refine lbackH_e ?_)
         refine lbackH.of (i + 1) ?_ hh ?_ hlt (by omega)
         · try dsimp only
           rw [hY]
           repeat' first | exact SubL.nil | (refine SubL.mk rfl ?_ ?_) | rfl | (simp; omega)
         · try dsimp only
           rw [hY]
           (repeat' first | (exact Sel.refl _) | (refine Sel.cons 0 rfl rfl ?_) | (refine Sel.cons 1 rfl rfl ?_) | (refine Sel.cons 2 rfl rfl ?_) | (refine Sel.cons 3 rfl rfl ?_) | (refine Sel.drop ?_))
     · rw [List.take_of_length_le hge] at hh ⊢
       repeat' first | (refine kOps ?_; first | (refine LOps.nil ?_) | (refine LOps.ev tT_ok rfl ?_) | (refine kLoad ?_; first | (refine LOps.ans (AnsL.loadH tT_ok 1 hh rfl rfl rfl rfl) ?_)) | (refine kLen ?_; first | (refine LOps.ans (AnsL.lenM tT_ok rfl rfl rfl) ?_))) | (refine kWL ?_; first | (refine WL.seq ?_) | (refine WL.region (by kernel_rfl) ?_) | (refine WL.exit ?_) | (refine WL.ret ?_) | (refine kCond ?_; first | (refine WL.condF' rfl ?_ ?_; (focus (first | (simp <;> omega)))))) | (refine lthen_n ?_) | (refine lthen_e ?_) | (refine lblock_e ?_) | (refine lbackH_e ?_) | (refine LPost.r1 (r := .tmp 6) (.inl rfl) (Res1.tmp rfl) ?_)
       have hF : us ++ ([] : List Bind) ++ kk ++ e.sub.flatMap (PE.colP freeAt (u + 1)) = us ++ (([] : List Bind) ++ (kk ++ e.sub.flatMap (PE.colP freeAt (u + 1)))) := by simp only [List.append_assoc]
       rw [hF] at hh ⊢
       exact ⟨_, rfl, rfl, hh.sel (by (repeat' first | (exact Sel.refl _) | (refine Sel.cons 0 rfl rfl ?_) | (refine Sel.cons 1 rfl rfl ?_) | (refine Sel.cons 2 rfl rfl ?_) | (refine Sel.cons 3 rfl rfl ?_) | (refine Sel.drop ?_)))⟩
def freeTop (e : PE) (u : Int) : List Bind := if 0 ≤ u ∧ u ≤ 1000000 then e.col freeAt u else []
theorem specl1InF_v (x lo hi : Int) (s : S) : VCalls Try.prog 36 [.int .i64 x, .int .i64 lo, .int .i64 hi] s (fun v s' => v = .bool (decide (lo ≤ x) && decide (x ≤ hi)) ∧ s' = s) := by
 refine LCalls.pure Try.func36 rfl (by kernel_rfl) (by simp) ?_
 repeat' first | (refine kOps ?_; first | (refine LOps.nil ?_) | (refine kG ?_; first | (refine LOps.gT rfl rfl rfl ?_) | (refine LOps.gF rfl rfl rfl ?_) | (refine LOps.gC rfl rfl rfl (fun h => ?_) (fun h => ?_))) | (refine LOps.ev tT_ok rfl ?_)) | (refine kWL ?_; first | (refine WL.seq ?_) | (refine WL.region (by kernel_rfl) ?_) | (refine WL.ret ?_)) | (refine lthen_n ?_) | (refine LPost.r1 (r := .tmp 6) (.inl rfl) (Res1.tmp rfl) ?_) | (refine PureR.mk ?_)
 all_goals (simp_all <;> omega)
theorem specFreeIn_o (e : PE) (hw : wgt e.v ≤ 1048576) (u : Int) (s : S) : VCalls Try.prog 16 [e.v, .int .i64 u] s (fun v t => Own2 (binds (freeTop e u)) v t) := by
 have hh : Hold s s.next [] := .start _ _
 unfold freeTop
 refine LCalls.body Try.func16 rfl (by kernel_rfl) ?_
 have hI := fun t => specl1InF_v u 0 1000000 t
 cases hc : (decide (0 ≤ u) && decide (u ≤ 1000000))
 all_goals rw [hc] at hI
 · rw [if_neg (by simp at hc; omega)]
   repeat' first | (refine kBox ?_ ; first | (refine LOps.boxH hh rfl rfl ?_ ; intro s n hh)) | (refine kBsl ?_ ; refine LOps.bsl0 tT_ok rfl rfl rfl rfl rfl ?_) | (refine kOps ?_; first | (refine LOps.nil ?_) | (refine LOps.ev tT_ok rfl ?_) | (refine kCallN 36 ?_; first | (refine LOps.ans (AnsL.callP rfl rfl rfl (ok36) (hI _)) ?_))) | (refine kWL ?_; first | (refine WL.seq ?_) | (refine WL.region (by kernel_rfl) ?_) | (refine WL.ret ?_) | (refine kCond ?_; first | (refine WL.condT rfl ?_))) | (refine lthen_n ?_) | (refine lthen_r ?_) | (refine LPost.r1 (r := .tmp 4) (.inl rfl) (Res1.tmp rfl) ?_)
   exact Own2.ofH hh (by ((repeat' first | (exact ConsL.nil) | (exact ConsL.pls rfl rfl) | (exact Cons.pl rfl rfl) | (exact Cons.zsl) | (exact Cons.nilsl) | (refine' Cons.bp ?_; ((repeat' first | (exact Pick.here) | (refine' Pick.there ?_)); done)) | (refine' Cons.ap ?_; ((repeat' first | (exact Pick.here) | (refine' Pick.there ?_)); done)) | (exact Cons.blk 0 rfl rfl rfl) | (exact Cons.blk 1 rfl rfl rfl) | (exact Cons.blk 2 rfl rfl rfl) | (exact Cons.blk 3 rfl rfl rfl) | (exact Cons.pl (by assumption) (by assumption)) | (exact ConsL.pls (by assumption) (by assumption)) | (refine' ConsL.cons ?_ ?_) | (refine' Cons.agg ?_)); done))
 · simp only [Bool.and_eq_true, decide_eq_true_eq] at hc
   obtain ⟨h0, h1⟩ := hc
   rw [if_pos ⟨h0, h1⟩]
   have hl := PE.col_len freeAt freeAt_len e u
   have hE := specFree_c e hw u [] h0 (by omega) (by simp only [List.length_nil]; omega)
   repeat' first | (refine kBox ?_ ; first | (refine LOps.boxH hh rfl rfl ?_ ; intro s n hh)) | (refine kBsl ?_ ; refine LOps.bsl0 tT_ok rfl rfl rfl rfl rfl ?_) | (refine kCallN 40 ?_ ; refine LOps.accZ (pre := [_, _]) rfl hE rfl ok40 hh ?_ ; intro s n hh) | (refine kOps ?_; first | (refine LOps.nil ?_) | (refine LOps.ev tT_ok rfl ?_) | (refine kLoad ?_; first | (refine LOps.ans (AnsL.loadH tT_ok 0 hh rfl rfl rfl rfl) ?_)) | (refine kCallN 36 ?_; first | (refine LOps.ans (AnsL.callP rfl rfl rfl (ok36) (hI _)) ?_))) | (refine kWL ?_; first | (refine WL.seq ?_) | (refine WL.region (by kernel_rfl) ?_) | (refine WL.skip ?_) | (refine WL.ret ?_) | (refine kCond ?_; first | (refine WL.condF rfl ?_))) | (refine lthen_n ?_) | (refine LPost.r1 (r := .tmp 4) (.inl rfl) (Res1.tmp rfl) ?_)
   exact Own2.ofH hh (by ((repeat' first | (exact ConsL.nil) | (exact ConsL.pls rfl rfl) | (exact Cons.pl rfl rfl) | (exact Cons.zsl) | (exact Cons.nilsl) | (refine' Cons.bp ?_; ((repeat' first | (exact Pick.here) | (refine' Pick.there ?_)); done)) | (refine' Cons.ap ?_; ((repeat' first | (exact Pick.here) | (refine' Pick.there ?_)); done)) | (exact Cons.blk 0 rfl rfl rfl) | (exact Cons.blk 1 rfl rfl rfl) | (exact Cons.blk 2 rfl rfl rfl) | (exact Cons.blk 3 rfl rfl rfl) | (exact Cons.pl (by assumption) (by assumption)) | (exact ConsL.pls (by assumption) (by assumption)) | (refine' ConsL.cons ?_ ?_) | (refine' Cons.agg ?_)); done))
theorem implFreeIn_o (e : PE) (hw : wgt e.v ≤ 1048576) (u : Int) (s : S) : VCalls Try.prog 13 [e.v, .int .i64 u] s (fun v t => Own2 (binds (freeTop e u)) v t) := by
 have hh : Hold s s.next [] := .start _ _
 unfold freeTop
 refine LCalls.body Try.func13 rfl (by kernel_rfl) ?_
 by_cases h0 : u < 0
 · rw [if_neg (by omega)]
   repeat' first | (refine kBox ?_ ; first | (refine LOps.boxH hh rfl rfl ?_ ; intro s n hh)) | (refine kOps ?_; first | (refine LOps.nil ?_) | (refine kG ?_; first | (refine LOps.gF rfl rfl rfl ?_) | (refine LOps.gD true rfl rfl rfl ?_ ?_; (focus (first | (exact decide_eq_true (by assumption)))))) | (refine LOps.ev tT_ok rfl ?_)) | (refine kWL ?_; first | (refine WL.seq ?_) | (refine WL.region (by kernel_rfl) ?_) | (refine WL.ret ?_) | (refine kCond ?_; first | (refine WL.condT rfl ?_))) | (refine lthen_n ?_) | (refine lthen_r ?_) | (refine LPost.r1 (r := .tmp 4) (.inl rfl) (Res1.tmp rfl) ?_)
   exact Own2.ofH hh (by ((repeat' first | (exact ConsL.nil) | (exact ConsL.pls rfl rfl) | (exact Cons.pl rfl rfl) | (exact Cons.zsl) | (exact Cons.nilsl) | (refine' Cons.bp ?_; ((repeat' first | (exact Pick.here) | (refine' Pick.there ?_)); done)) | (refine' Cons.ap ?_; ((repeat' first | (exact Pick.here) | (refine' Pick.there ?_)); done)) | (exact Cons.blk 0 rfl rfl rfl) | (exact Cons.blk 1 rfl rfl rfl) | (exact Cons.blk 2 rfl rfl rfl) | (exact Cons.blk 3 rfl rfl rfl) | (exact Cons.pl (by assumption) (by assumption)) | (exact ConsL.pls (by assumption) (by assumption)) | (refine' ConsL.cons ?_ ?_) | (refine' Cons.agg ?_)); done))
 by_cases h1 : 1000000 < u
 · rw [if_neg (by omega)]
   repeat' first | (refine kBox ?_ ; first | (refine LOps.boxH hh rfl rfl ?_ ; intro s n hh)) | (refine kOps ?_; first | (refine LOps.nil ?_) | (refine kG ?_; first | (refine LOps.gT rfl rfl rfl ?_) | (refine LOps.gD false rfl rfl rfl ?_ ?_; (focus (first | (exact decide_eq_false (by assumption)))))) | (refine LOps.ev tT_ok rfl ?_)) | (refine kWL ?_; first | (refine WL.seq ?_) | (refine WL.region (by kernel_rfl) ?_) | (refine WL.ret ?_) | (refine kCond ?_; first | (refine WL.condT' rfl ?_ ?_; (focus (first | (exact decide_eq_true (by assumption))))))) | (refine lthen_n ?_) | (refine lthen_r ?_) | (refine LPost.r1 (r := .tmp 4) (.inl rfl) (Res1.tmp rfl) ?_)
   exact Own2.ofH hh (by ((repeat' first | (exact ConsL.nil) | (exact ConsL.pls rfl rfl) | (exact Cons.pl rfl rfl) | (exact Cons.zsl) | (exact Cons.nilsl) | (refine' Cons.bp ?_; ((repeat' first | (exact Pick.here) | (refine' Pick.there ?_)); done)) | (refine' Cons.ap ?_; ((repeat' first | (exact Pick.here) | (refine' Pick.there ?_)); done)) | (exact Cons.blk 0 rfl rfl rfl) | (exact Cons.blk 1 rfl rfl rfl) | (exact Cons.blk 2 rfl rfl rfl) | (exact Cons.blk 3 rfl rfl rfl) | (exact Cons.pl (by assumption) (by assumption)) | (exact ConsL.pls (by assumption) (by assumption)) | (refine' ConsL.cons ?_ ?_) | (refine' Cons.agg ?_)); done))
 · rw [if_pos ⟨by omega, by omega⟩]
   have hE := fun t => implFree_c e hw u t (by omega) (by omega)
   repeat' first | (refine kBox ?_ ; first | (refine LOps.boxH hh rfl rfl ?_ ; intro s n hh)) | (refine kCallN 39 ?_ ; refine LOps.lendH rfl rfl ok39 hh ?_ (hE) (plain_binds _) ?_ ; (focus ((repeat' first | (exact RdH.nil) | (refine RdH.cons ?_ ?_) | (refine RdV.pl ?_; (focus (first | (rfl) | (exact PE.plainv _))))); done)) ; intro s n hh) | (refine kOps ?_; first | (refine LOps.nil ?_) | (refine kG ?_; first | (refine LOps.gT rfl rfl rfl ?_) | (refine LOps.gD false rfl rfl rfl ?_ ?_; (focus (first | (exact decide_eq_false (by assumption)))))) | (refine LOps.ev tT_ok rfl ?_) | (refine kLoad ?_; first | (refine LOps.ans (AnsL.loadH tT_ok 0 hh rfl rfl rfl rfl) ?_))) | (refine kWL ?_; first | (refine WL.seq ?_) | (refine WL.region (by kernel_rfl) ?_) | (refine WL.skip ?_) | (refine WL.ret ?_) | (refine kCond ?_; first | (refine WL.condF' rfl ?_ ?_; (focus (first | (exact decide_eq_false (by assumption))))))) | (refine lthen_n ?_) | (refine LPost.r1 (r := .tmp 4) (.inl rfl) (Res1.tmp rfl) ?_)
   exact Own2.ofH hh (by ((repeat' first | (exact ConsL.nil) | (exact ConsL.pls rfl rfl) | (exact Cons.pl rfl rfl) | (exact Cons.zsl) | (exact Cons.nilsl) | (refine' Cons.bp ?_; ((repeat' first | (exact Pick.here) | (refine' Pick.there ?_)); done)) | (refine' Cons.ap ?_; ((repeat' first | (exact Pick.here) | (refine' Pick.there ?_)); done)) | (exact Cons.blk 0 rfl rfl rfl) | (exact Cons.blk 1 rfl rfl rfl) | (exact Cons.blk 2 rfl rfl rfl) | (exact Cons.blk 3 rfl rfl rfl) | (exact Cons.pl (by assumption) (by assumption)) | (exact ConsL.pls (by assumption) (by assumption)) | (refine' ConsL.cons ?_ ?_) | (refine' Cons.agg ?_)); done))
end Go.Proofs.Ytolhegocbkckdaa
