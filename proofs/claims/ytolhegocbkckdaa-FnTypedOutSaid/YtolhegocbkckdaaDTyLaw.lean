/-
 What has a type: its free columns lead to rows that are there; more rows without, and rows within under what is lifted, leave the type. Plain Lean. Own work; no condition.
-/
import Derived.Test.YtolhegocbkckdaaMg16
import Derived.Test.YtolhegocbkckdaaMg17
namespace Go.Proofs.Ytolhegocbkckdaa
open Go
set_option linter.unusedSimpArgs false
set_option linter.unusedVariables false
def InE (env:List (List Int)) (b:Bind):Prop:=0≤b.up∧∃ r,env[b.up.toNat]?=some r∧0≤b.pos∧b.pos<r.length
section
variable {c:Cat} {env:List (List Int)}
theorem tyL_mem:∀ {l:List PE} {ts:List Int},PE.tyL c env l=some ts→∀ x∈l,∃ t,x.ty c env=some t
 | [],_,_,x,hx=>by cases hx
 | y::l,ts,h,x,hx=>by
   simp only [PE.tyL] at h
   split at h
   · cases h
   · rename_i t ht
     split at h
     · cases h
     · rename_i us hus
       rcases List.mem_cons.1 hx with rfl | hx
       · exact ⟨t,ht⟩
       · exact tyL_mem hus x hx
theorem tyS_mem:∀ {l:List PL} {ts:List (List Int)},PE.tyS c env l=some ts→∀ x∈l,∃ t,PE.tyP c env x=some t
 | [],_,_,x,hx=>by cases hx
 | y::l,ts,h,x,hx=>by
   simp only [PE.tyS] at h
   split at h
   · cases h
   · rename_i t ht
     split at h
     · cases h
     · rename_i us hus
       rcases List.mem_cons.1 hx with rfl | hx
       · exact ⟨t,ht⟩
       · exact tyS_mem hus x hx
theorem tyT_mem:∀ {l:List PE},PE.tyT c env l=true→∀ x∈l,∃ t,x.ty c env=some t
 | [],_,x,hx=>by cases hx
 | y::l,h,x,hx=>by
   simp only [PE.tyT,Bool.and_eq_true] at h
   rcases List.mem_cons.1 hx with rfl | hx
   · cases ht:PE.ty c env x with
     | none=>rw [ht] at h;cases h.1
     | some t=>exact ⟨t,rfl⟩
   · exact tyT_mem h.2 x hx
theorem tyO_mem:∀ {l:List (PE × Bool)},PE.tyO c env l=true→∀ x∈l,∃ t,x.1.ty c env=some t
 | [],_,x,hx=>by cases hx
 |(y,d)::l,h,x,hx=>by
   simp only [PE.tyO,PE.ty1,Bool.and_eq_true] at h
   rcases List.mem_cons.1 hx with rfl | hx
   · exact Option.isSome_iff_exists.1 h.1
   · exact tyO_mem h.2 x hx
theorem tyOn_mem {t:List Int}:∀ {l:List (List PE)} {j:Nat},PE.tyOn c env t j l=true→∀ xs∈l,∀ x∈xs,∃ r u,x.ty c (r::env)=some u
 | [],_,_,xs,hx=>by cases hx
 | y::l,j,h,xs,hxs=>by
   simp only [PE.tyOn,Bool.and_eq_true] at h
   rcases List.mem_cons.1 hxs with rfl | hxs
   · intro x hx
     obtain ⟨u,hu⟩:=tyT_mem h.1 x hx
     exact ⟨_,u,hu⟩
   · exact tyOn_mem h.2 xs hxs
theorem tyP_some {p:PL} {ts:List Int} (h:PE.tyP c env p=some ts):PL.ok c p=true∧PE.tyOn c env p.tables 1 p.on=true∧PE.tyT c (rowsOf c p.tables::env) p.wher=true∧PE.tyO c (rowsOf c p.tables::env) p.order=true∧PE.tyL c (rowsOf c p.tables::env) p.items=some ts:=by
 rw [PE.tyP_eq] at h
 split at h
 · rename_i h1
   split at h
   · rename_i h2
     split at h
     · rename_i h3
       split at h
       · rename_i h4
         exact ⟨h1,h2,h3,h4,h⟩
       · cases h
     · cases h
   · cases h
 · cases h
theorem tyP_mem {p:PL} {ts:List Int} (h:PE.tyP c env p=some ts):∀ k∈p.parts,∃ r t,k.ty c (r::env)=some t:=by
 obtain ⟨_,h2,h3,h4,h5⟩:=tyP_some h
 intro k hk
 simp only [PlanOf.parts,List.mem_append,List.mem_flatten,List.mem_map] at hk
 rcases hk with ((⟨q,k1,k2⟩ | k1) | ⟨x,k1,rfl⟩) | k1
 · exact tyOn_mem h2 q k1 k k2
 · exact ⟨_,tyT_mem h3 k k1⟩
 · exact ⟨_,tyO_mem h4 x k1⟩
 · exact ⟨_,tyL_mem h5 k k1⟩
theorem ty_some {e:PE} {t:Int} (h:e.ty c env=some t):e.shape=true∧∃ ks ss,PE.tyL c env e.kids=some ks∧PE.tyS c env e.sub=some ss∧resT env e.kind e.op e.value e.up e.pos ks ss=some t:=by
 rw [PE.ty_eq] at h
 split at h
 · rename_i h1
   split at h
   · cases h
   · rename_i ks h2
     split at h
     · cases h
     · rename_i ss h3
       exact ⟨h1,ks,ss,h2,h3,h⟩
 · cases h
theorem resT_col {op:Int} {v:Val} {up pos:Int} {ks:List Int} {ss:List (List Int)}:resT env 2 op v up pos ks ss=colTy env up pos:=by
 unfold resT
 rw [if_neg (by decide),if_pos rfl]
theorem resT_env {env2:List (List Int)} {k op:Int} {v:Val} {up up2 pos:Int} {ks:List Int} {ss:List (List Int)} (hk:k≠2):resT env k op v up pos ks ss=resT env2 k op v up2 pos ks ss:=by
 unfold resT
 simp only [if_neg hk]
end
section
variable {c:Cat}
theorem colTy_in {pre env:List (List Int)} {up pos t:Int} (h:colTy (pre++env) up pos=some t) (hu:(pre.length:Int)≤up):InE env ⟨up - pre.length,pos,0⟩:=by
 unfold colTy at h
 split at h
 · rename_i hh
   rw [List.getElem?_append_right (by omega)] at h
   cases hr:env[up.toNat - pre.length]? with
   | none=>rw [hr] at h;cases h
   | some r =>
     rw [hr] at h
     have h2:r[pos.toNat]?=some t:=h
     have hl:=(List.getElem?_eq_some_iff.1 h2).1
     refine ⟨by dsimp only;omega,r,?_,by dsimp only;omega,by dsimp only;omega⟩
     dsimp only
     rw [show (up - pre.length).toNat=up.toNat - pre.length by omega]
     exact hr
 · cases h
theorem free_ty (e:PE):∀ (pre env:List (List Int)) (t:Int),e.ty c (pre++env)=some t→∀ b∈e.col freeAt pre.length,InE env b:=by
 induction e using PE.ind with
 | h e ih1 ih2 =>
   intro pre env t h b hb
   obtain ⟨_,ks,ss,h2,h3,h4⟩:=ty_some h
   rw [PE.col_eq,List.mem_append,List.mem_append,List.mem_flatMap,List.mem_flatMap] at hb
   rcases hb with hb | ⟨x,hx,hb⟩ | ⟨p,hp,hb⟩
   · unfold freeAt at hb
     split at hb
     · rename_i hk
       rw [List.mem_singleton] at hb
       subst hb
       rw [hk.1,resT_col] at h4
       exact colTy_in h4 hk.2
     · cases hb
   · obtain ⟨u,hu⟩:=tyL_mem h2 x hx
     exact ih1 x hx pre env u hu b hb
   · obtain ⟨u,hu⟩:=tyS_mem h3 p hp
     rw [PE.colP_eq,List.mem_flatMap] at hb
     obtain ⟨k,hk,hb⟩:=hb
     obtain ⟨r,w,hw⟩:=tyP_mem hu k hk
     refine ih2 p hp k hk (r::pre) env w hw b ?_
     rw [show (((r::pre).length:Nat):Int)=(pre.length:Int)+1 by simp]
     exact hb
theorem free_ty0 {e:PE} {env:List (List Int)} {t:Int} (h:e.ty c env=some t):∀ b∈e.col freeAt 0,InE env b:=free_ty e [] env t h
theorem tyL_map {env env2:List (List Int)} {g:PE→PE}:∀ {l:List PE} {ts:List Int},(∀ x∈l,∀ t,x.ty c env=some t→(g x).ty c env2=some t)→PE.tyL c env l=some ts→PE.tyL c env2 (l.map g)=some ts
 | [],ts,_,h=>by simpa only [PE.tyL,List.map_nil] using h
 | y::l,ts,hg,h=>by
   simp only [PE.tyL,List.map_cons] at h ⊢
   split at h
   · cases h
   · rename_i t ht
     split at h
     · cases h
     · rename_i us hus
       rw [hg y (by simp) t ht,tyL_map (fun x hx=>hg x (by simp [hx])) hus]
       exact h
theorem tyT_map {env env2:List (List Int)} {g:PE→PE}:∀ {l:List PE},(∀ x∈l,∀ t,x.ty c env=some t→(g x).ty c env2=some t)→PE.tyT c env l=true→PE.tyT c env2 (l.map g)=true
 | [],_,_=>by simp only [PE.tyT,List.map_nil]
 | y::l,hg,h=>by
   simp only [PE.tyT,List.map_cons,Bool.and_eq_true] at h ⊢
   refine ⟨?_,tyT_map (fun x hx=>hg x (by simp [hx])) h.2⟩
   cases ht:PE.ty c env y with
   | none=>rw [ht] at h;cases h.1
   | some t =>
     rw [ht] at h
     rw [hg y (by simp) t ht]
     exact h.1
theorem tyO_map {env env2:List (List Int)} {g:PE→PE}:∀ {l:List (PE × Bool)},(∀ x∈l,∀ t,x.1.ty c env=some t→(g x.1).ty c env2=some t)→PE.tyO c env l=true→PE.tyO c env2 (l.map fun x=>(g x.1,x.2))=true
 | [],_,_=>by simp only [PE.tyO,List.map_nil]
 |(y,d)::l,hg,h=>by
   simp only [PE.tyO,PE.ty1,List.map_cons,Bool.and_eq_true] at h ⊢
   refine ⟨?_,tyO_map (fun x hx=>hg x (by simp [hx])) h.2⟩
   obtain ⟨t,ht⟩:=Option.isSome_iff_exists.1 h.1
   rw [hg (y,d) (by simp) t ht]
   rfl
theorem tyOn_map {env env2:List (List Int)} {g:PE→PE} {t:List Int}:∀ {l:List (List PE)} {j:Nat},(∀ xs∈l,∀ x∈xs,∀ r u,x.ty c (r::env)=some u→(g x).ty c (r::env2)=some u)→PE.tyOn c env t j l=true→PE.tyOn c env2 t j (l.map (List.map g))=true
 | [],_,_,_=>by simp only [PE.tyOn,List.map_nil]
 | y::l,j,hg,h=>by
   simp only [PE.tyOn,List.map_cons,Bool.and_eq_true] at h ⊢
   exact ⟨tyT_map (fun x hx u hu=>hg y (by simp) x hx _ u hu) h.1,tyOn_map (fun xs hxs=>hg xs (by simp [hxs])) h.2⟩
theorem on_head {g:PE→PE}:∀ on:List (List PE),((on.map (List.map g)).headD []).length=(on.headD []).length
 | []=>rfl
 | x::l=>by simp
theorem ok_map (g:PE→PE) (p:PL):PL.ok c (PL.map g p)=PL.ok c p:=by
 unfold PL.ok PL.form
 simp only [PL.map,List.length_map,List.all_map,on_head,Function.comp_def]
theorem tyP_map {env env2:List (List Int)} {g:PE→PE} {p:PL} {ts:List Int} (hg:∀ k∈p.parts,∀ r t,k.ty c (r::env)=some t→(g k).ty c (r::env2)=some t) (h:PE.tyP c env p=some ts):PE.tyP c env2 (PL.map g p)=some ts:=by
 obtain ⟨h1,h2,h3,h4,h5⟩:=tyP_some h
 have k2:PE.tyOn c env2 (PL.map g p).tables 1 (PL.map g p).on=true:=tyOn_map (fun xs hxs x hx=>hg x (PlanOf.mem_on hxs hx)) h2
 have k3:PE.tyT c (rowsOf c (PL.map g p).tables::env2) (PL.map g p).wher=true:=tyT_map (fun x hx=>hg x (PlanOf.mem_wher hx) _) h3
 have k4:PE.tyO c (rowsOf c (PL.map g p).tables::env2) (PL.map g p).order=true:=tyO_map (fun x hx=>hg x.1 (PlanOf.mem_order hx) _) h4
 have k5:PE.tyL c (rowsOf c (PL.map g p).tables::env2) (PL.map g p).items=some ts:=tyL_map (fun x hx=>hg x (PlanOf.mem_items hx) _) h5
 rw [PE.tyP_eq,if_pos (by rw [ok_map];exact h1),if_pos k2,if_pos k3,if_pos k4]
 exact k5
theorem tyS_map {env env2:List (List Int)} {g:PE→PE}:∀ {l:List PL} {ts:List (List Int)},(∀ p∈l,∀ k∈p.parts,∀ r t,k.ty c (r::env)=some t→(g k).ty c (r::env2)=some t)→PE.tyS c env l=some ts→PE.tyS c env2 (l.map (PL.map g))=some ts
 | [],ts,_,h=>by simpa only [PE.tyS,List.map_nil] using h
 | y::l,ts,hg,h=>by
   simp only [PE.tyS,List.map_cons] at h ⊢
   split at h
   · cases h
   · rename_i t ht
     split at h
     · cases h
     · rename_i us hus
       rw [tyP_map (hg y (by simp)) ht,tyS_map (fun x hx=>hg x (by simp [hx])) hus]
       exact h
theorem shape_lf (b u:Int) (e:PE):(e.lf b u).shape=e.shape:=by
 obtain ⟨k,op,nt,v,up,pos,kids,sub⟩:=e
 rw [PE.lf_eq]
 show decide (ShapeP k op nt v (upBy b u k up) pos (kids.map (PE.lf b u)).length (sub.map (PL.map (PE.lf b (u+1)))).length)=decide (ShapeP k op nt v up pos kids.length sub.length)
 rw [List.length_map,List.length_map]
 by_cases hk:k=2
 · refine decide_eq_decide.2 ?_
   simp [ShapeP,hk]
 · rw [upBy,if_neg (fun h=>hk h.1)]
theorem colTy_mv {pre two env more:List (List Int)} {up pos t:Int} (h:colTy (pre++env) up pos=some t):colTy (pre++(two++(env++more))) (upBy two.length pre.length 2 up) pos=some t:=by
 unfold colTy at h
 split at h
 · rename_i hh
   by_cases hu:(pre.length:Int)≤up
   · have e:upBy two.length pre.length 2 up=up+two.length:=if_pos ⟨rfl,hu⟩
     rw [e]
     unfold colTy
     rw [if_pos ⟨by omega,hh.2⟩]
     rw [List.getElem?_append_right (by omega)] at h
     rw [List.getElem?_append_right (by omega),List.getElem?_append_right (by omega)]
     rw [show (up+(two.length:Int)).toNat - pre.length - two.length=up.toNat - pre.length by omega]
     cases hr:env[up.toNat - pre.length]? with
     | none=>rw [hr] at h;cases h
     | some r =>
       have hl:=(List.getElem?_eq_some_iff.1 hr).1
       rw [List.getElem?_append_left hl,hr]
       rw [hr] at h
       exact h
   · have e:upBy two.length pre.length 2 up=up:=if_neg fun x=>hu x.2
     rw [e]
     unfold colTy
     rw [if_pos hh]
     rw [List.getElem?_append_left (by omega)] at h ⊢
     exact h
 · cases h
theorem PE.ty_mk (env:List (List Int)) (k op:Int) (nt:Bool) (v:Val) (up pos:Int) (kids:List PE) (sub:List PL):PE.ty c env (.mk k op nt v up pos kids sub)=if PE.shape (.mk k op nt v up pos kids sub)=true then (match PE.tyL c env kids with
   | none=>none
   | some ks=>match PE.tyS c env sub with
     | none=>none
     | some ss=>resT env k op v up pos ks ss) else none:=by
 simp only [PE.ty]
 cases PE.tyL c env kids <;> first | rfl |(cases PE.tyS c env sub <;> rfl)
theorem ty_mv (two env more:List (List Int)) (e:PE):∀ (pre:List (List Int)) (t:Int),e.ty c (pre++env)=some t→(e.lf two.length pre.length).ty c (pre++(two++(env++more)))=some t:=by
 induction e using PE.ind with
 | h e ih1 ih2 =>
   intro pre t h
   obtain ⟨h1,ks,ss,h2,h3,h4⟩:=ty_some h
   have hs:(e.lf two.length pre.length).shape=true:=by rw [shape_lf];exact h1
   rw [PE.lf_eq] at hs ⊢
   rw [PE.ty_mk,if_pos hs,tyL_map (fun x hx t ht=>ih1 x hx pre t ht) h2,tyS_map (fun p hp k hk r t ht=>by
     have h5:=ih2 p hp k hk (r::pre) t ht
     rw [show (((r::pre).length:Nat):Int)=(pre.length:Int)+1 by simp] at h5
     exact h5) h3]
   dsimp only
   by_cases hk:e.kind=2
   · rw [hk,resT_col] at h4 ⊢
     exact colTy_mv h4
   · rw [← h4]
     exact resT_env hk
theorem PL.map_idT (g:PE→PE) (p:PL) (h:∀ k∈p.parts,g k=k):PL.map g p=p:=by
 obtain ⟨t,on,w,o,i,n,d,l⟩:=p
 have key:∀ {α : Type} {f : α → α} (l:List α),(∀ x∈l,f x=x)→l.map f=l:=fun l h=>by
   induction l with
   | nil=>rfl
   | cons x l ih=>rw [List.map_cons,h x (by simp),ih fun y hy=>h y (by simp [hy])]
 have a1:on.map (List.map g)=on:=key _ fun l hl=>key _ fun x hx=>h x (PlanOf.mem_on (p:=⟨t,on,w,o,i,n,d,_⟩) hl hx)
 have a2:w.map g=w:=key _ fun x hx=>h x (PlanOf.mem_wher (p:=⟨t,on,w,o,i,n,d,_⟩) hx)
 have a3:o.map (fun x=>(g x.1,x.2))=o:=key _ fun x hx=>by rw [h x.1 (PlanOf.mem_order (p:=⟨t,on,w,o,i,n,d,_⟩) hx)]
 have a4:i.map g=i:=key _ fun x hx=>h x (PlanOf.mem_items (p:=⟨t,on,w,o,i,n,d,_⟩) hx)
 simp only [PL.map,a1,a2,a3,a4]
theorem lf_zero (e:PE):∀ u,e.lf 0 u=e:=by
 induction e using PE.ind with
 | h e ih1 ih2 =>
   intro u
   rw [PE.lf_eq]
   have a1:upBy 0 u e.kind e.up=e.up:=by unfold upBy;split <;> omega
   have a2:e.kids.map (PE.lf 0 u)=e.kids:=by
     have:∀ l:List PE,(∀ x∈l,x.lf 0 u=x)→l.map (PE.lf 0 u)=l:=fun l h=>by
       induction l with
       | nil=>rfl
       | cons x l ih=>rw [List.map_cons,h x (by simp),ih fun y hy=>h y (by simp [hy])]
     exact this _ fun x hx=>ih1 x hx u
   have a3:e.sub.map (PL.map (PE.lf 0 (u+1)))=e.sub:=by
     have:∀ l:List PL,(∀ x∈l,PL.map (PE.lf 0 (u+1)) x=x)→l.map (PL.map (PE.lf 0 (u+1)))=l:=fun l h=>by
       induction l with
       | nil=>rfl
       | cons x l ih=>rw [List.map_cons,h x (by simp),ih fun y hy=>h y (by simp [hy])]
     refine this _ fun p hp=>?_
     have hq:∀ k∈p.parts,k.lf 0 (u+1)=k:=fun k hk=>ih2 p hp k hk (u+1)
     exact PL.map_idT _ p hq
   rw [a1,a2,a3]
   cases e
   rfl
theorem ty_out {e:PE} {env more:List (List Int)} {t:Int} (h:e.ty c env=some t):e.ty c (env++more)=some t:=by
 have:=ty_mv [] env more e [] t h
 rw [show (((([]:List (List Int)).length:Nat)):Int)=0 from rfl,lf_zero] at this
 exact this
theorem ty_in {e:PE} {env two:List (List Int)} {t:Int} (h:e.ty c env=some t):(e.lf two.length 0).ty c (two++env)=some t:=by
 have:=ty_mv two env [] e [] t h
 rw [List.append_nil] at this
 exact this
theorem wgt_mem1 {α : Type} {f : α → V} {l:List α} {x : α} (h:x∈l):1+wgt (f x)≤wgt (.sl 0 (l.map f)):=by
 induction l with
 | nil=>cases h
 | cons y l ih =>
   simp only [List.map_cons,wgt,wgtL,List.length_cons,List.length_map] at ih ⊢
   rcases List.mem_cons.1 h with rfl | h
   · omega
   · have:=ih h
     omega
theorem wgt_part3 {p:PL} {k:PE} (h:k∈p.parts):1+wgt k.v+p.tables.length≤wgt p.v:=by
 have e:=PL.wgt_eq p
 have ht:=wgt_len iV p.tables
 simp only [PlanOf.parts,List.mem_append,List.mem_flatten,List.mem_map] at h
 rcases h with ((⟨q,h1,h2⟩ | h) | ⟨x,h1,rfl⟩) | h
 · have a1:=wgt_mem1 (f:=PE.vS) h1
   have a2:=wgt_mem1 (f:=PE.toV) h2
   rw [PE.toV_eq] at a2
   simp only [PE.vS] at a1
   omega
 · have a2:=wgt_mem1 (f:=PE.toV) h
   rw [PE.toV_eq] at a2
   omega
 · have a2:=wgt_mem1 (f:=PE.sv) h1
   rw [PE.wgt_eqs] at a2
   omega
 · have a2:=wgt_mem1 (f:=PE.toV) h
   rw [PE.toV_eq] at a2
   omega
theorem ups_ty (e:PE):∀ (env:List (List Int)) (t:Int),3*env.length+wgt e.v≤3000→e.ty c env=some t→e.ups=true:=by
 induction e using PE.ind with
 | h e ih1 ih2 =>
   intro env t hw h
   obtain ⟨h1,ks,ss,h2,h3,h4⟩:=ty_some h
   have hwe:=PE.wgt_eq e
   rw [PE.ups_eq,Bool.and_eq_true,Bool.and_eq_true,List.all_eq_true,List.all_eq_true]
   refine ⟨?_,fun x hx=>?_,fun p hp=>?_⟩
   · by_cases hk:e.kind=2
     · rw [hk,resT_col] at h4
       have h5:=colTy_in (pre:=[]) h4 (by
         unfold colTy at h4
         split at h4
         · rename_i hh;simpa using hh.1
         · cases h4)
       obtain ⟨h6,r,h7,_⟩:=h5
       have hl:=(List.getElem?_eq_some_iff.1 h7).1
       simp only [List.length_nil,Int.natCast_zero,Int.sub_zero] at h6 hl
       unfold upOk
       simp only [Bool.and_eq_true,decide_eq_true_eq]
       omega
     · unfold PE.shape at h1
       have h5:=(of_decide_eq_true h1).1.resolve_left hk
       rw [h5.1]
       decide
   · obtain ⟨u,hu⟩:=tyL_mem h2 x hx
     have a1:=wgt_mem1 (f:=PE.toV) hx
     rw [PE.toV_eq] at a1
     exact ih1 x hx env u (by omega) hu
   · obtain ⟨u,hu⟩:=tyS_mem h3 p hp
     have hf:=(tyP_some hu).1
     have ht:1≤p.tables.length:=by
       unfold PL.ok PL.form at hf
       simp only [Bool.and_eq_true,decide_eq_true_eq] at hf
       exact hf.1.1.1
     have a1:=wgt_mem1 (f:=PE.planV) hp
     rw [PE.planV_eq] at a1
     rw [List.all_eq_true]
     intro k hk
     obtain ⟨r,w,hw2⟩:=tyP_mem hu k hk
     have a2:=wgt_part3 hk
     exact ih2 p hp k hk (r::env) w (by simp only [List.length_cons];omega) hw2
end
end Go.Proofs.Ytolhegocbkckdaa
