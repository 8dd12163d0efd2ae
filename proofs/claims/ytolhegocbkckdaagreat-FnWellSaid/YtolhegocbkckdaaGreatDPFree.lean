/-
 References that lead out of a plan's tree, and all references of plans, of the program and of the reference. Printed by a program of our own; no condition.
-/
import Derived.Test.YtolhegocbkckdaaGreatMg36
import Derived.Test.YtolhegocbkckdaaGreatDPSize
namespace Go.Proofs.YtolhegocbkckdaaGreat
open Go
set_option linter.unusedSimpArgs false
set_option linter.unusedVariables false
def zT (u k up pos:Int):List Bind:=if k=2∧u≤up then [⟨up - u,pos,0⟩] else []
def Dr (_ k up pos:Int):List Bind:=if k=2 then [⟨up,pos,0⟩] else []
mutual
def PE.col (f:Int→Int→Int→Int→List Bind) (u:Int):PE→List Bind
 | .mk k _ _ _ up pos kids sub=>f u k up pos++(PE.VF f u kids++PE.Cv f (u+1) sub)
def PE.VF (f:Int→Int→Int→Int→List Bind) (u:Int):List PE→List Bind
 | []=>[]
 | x::xs=>PE.col f u x++PE.VF f u xs
def PE.Cv (f:Int→Int→Int→Int→List Bind) (u:Int):List (qZ PE)→List Bind
 | []=>[]
 | x::xs=>PE.jW f u x++PE.Cv f u xs
def PE.jW (f:Int→Int→Int→Int→List Bind) (u:Int):qZ PE→List Bind
 | ⟨_,on,w,o,i,_,_,_⟩=>PE.Yz f u on++PE.VF f u w++PE.Cw f u o++PE.VF f u i
def PE.Yz (f:Int→Int→Int→Int→List Bind) (u:Int):List (List PE)→List Bind
 | []=>[]
 | x::xs=>PE.VF f u x++PE.Yz f u xs
def PE.Cw (f:Int→Int→Int→Int→List Bind) (u:Int):List (PE × Bool)→List Bind
 | []=>[]
 | x::xs=>PE.LX f u x++PE.Cw f u xs
def PE.LX (f:Int→Int→Int→Int→List Bind) (u:Int):PE × Bool→List Bind
 |(e,_)=>PE.col f u e
end
section
variable (f:Int→Int→Int→Int→List Bind)
theorem PE.sU (u:Int):∀ l:List PE,PE.VF f u l=l.flatMap (PE.col f u)
 | []=>rfl
 | x::l=>by simp only [PE.VF,PE.sU u l,List.flatMap_cons]
theorem PE.Yq (u:Int):∀ l:List PL,PE.Cv f u l=l.flatMap (PE.jW f u)
 | []=>rfl
 | x::l=>by simp only [PE.Cv,PE.Yq u l,List.flatMap_cons]
theorem PE.JZ (u:Int):∀ l:List (List PE),PE.Yz f u l=l.flatten.flatMap (PE.col f u)
 | []=>rfl
 | x::l=>by simp only [PE.Yz,PE.JZ u l,List.flatten_cons,List.flatMap_append,PE.sU]
theorem PE.Yx (u:Int):∀ l:List (PE × Bool),PE.Cw f u l=(l.map (·.1)).flatMap (PE.col f u)
 | []=>rfl
 | x::l=>by
   obtain ⟨e,b⟩:=x
   simp only [PE.Cw,PE.Yx u l,List.map_cons,List.flatMap_cons,PE.LX]
theorem PE.VG (u:Int) (x:PE):x.col f u=f u x.kind x.up x.pos++(x.kids.flatMap (PE.col f u)++x.sub.flatMap (PE.jW f (u+1))):=by
 cases x
 simp only [PE.col,PE.sU,PE.Yq,PE.kids,PE.sub,PE.kind,PE.up,PE.pos]
theorem PE.om (u:Int) (p:PL):PE.jW f u p=p.parts.flatMap (PE.col f u):=by
 obtain ⟨t,on,w,o,i,n,d,l⟩:=p
 simp only [PE.jW,qZ.parts,List.flatMap_append,PE.sU,PE.JZ,PE.Yx]
theorem jk {α β : Type} (g : α → List β):∀ l:List α,(l.flatMap g).length=kM (fun x=>(g x).length) l
 | []=>rfl
 | x::l=>by simp only [List.flatMap_cons,List.length_append,jk g l,kM,List.map_cons,List.sum_cons]
theorem PE.Cy (hf:∀ u k up pos,(f u k up pos).length≤1) (x:PE):∀ u,(x.col f u).length≤1+qV x.v:=by
 induction x using PE.ind with
 | h e ih1 ih2 =>
   intro u
   have e1:=PE.wG e
   have e2:=gW e.kids
   have e3:kM (fun p:PL=>qV (PL.v p)) e.sub≤_:=QS e.sub
   have e4:=x9 (f:=fun k=>(PE.col f u k).length) (g:=fun k=>1+qV k.v) (l:=e.kids) fun k hk=>ih1 k hk u
   have e5:=x9 (f:=fun p=>(PE.jW f (u+1) p).length) (g:=fun p:PL=>qV (PL.v p)) (l:=e.sub) fun p hp=>by
     rw [PE.om,jk]
     exact Nat.le_trans (x9 fun k hk=>ih2 p hp k hk (u+1)) (PL.vO p)
   have e6:=hf u e.kind e.up e.pos
   rw [PE.VG,List.length_append,List.length_append,jk,jk]
   omega
end
theorem jC {α β : Type} (g : α → List β) {l:List α} {i:Nat} (h:i<l.length):(l.take (i+1)).flatMap g=(l.take i).flatMap g++g l[i]:=by
 rw [List.take_succ_eq_append_getElem h,List.flatMap_append]
 simp
theorem qY {α β : Type} (g : α → List β) (l:List α) (i:Nat):((l.take i).flatMap g).length≤(l.flatMap g).length:=by
 rw [jk,jk];exact dS _ l i
theorem VH (u k up pos:Int):(zT u k up pos).length≤1:=by unfold zT;split <;> simp
theorem FZ (u k up pos:Int):(Dr u k up pos).length≤1:=by unfold Dr;split <;> simp
def binds (l:List Bind):V := .sl 0 (l.map Bind.zF)
theorem JQ (l:List Bind):(binds l).plain=true:=bA l
@[simp] theorem Bind.under (n:Nat) (b:Bind):V.under n b.zF=true:=rfl
@[simp] theorem Bind.OO (n:Nat) (l:List Bind):V.zO n (l.map Bind.zF)=true:=yO (wQ _ (aR (bA l)))
theorem au (n:Nat) (a b:List V):V.zO n (a++b)=(V.zO n a&&V.zO n b):=by
 rw [V.xB,V.xB,V.xB,List.all_append]
def ED (P:Program) (g:FuncId) (e:PE):Prop:=∀ (u:Int) (s:S),0≤u→u+qV e.v≤3000000→VCalls P g [e.v,.int .i64 u] s (fun v t=>Own2 (binds (e.col zT u)) v t)
theorem ED.pure {P:Program} {g:FuncId} {e:PE} (h:ED P g e) (u:Int) (h0:0≤u) (h1:u+qV e.v≤3000000) (s:S):VCalls P g [e.v,.int .i64 u] s (fun v s'=>v = .sl 0 ((e.col zT u).map Bind.zF)∧s'=s) :=
 VCalls.mU (zG (PE.eu e) (zG rfl rfl)) (bA _) (fun t=>h u t h0 h1) s
set_option maxHeartbeats 2000000 in
theorem VL (e:PE):qV e.v≤1048576→ED Tryz.prog 34 e:=by
 induction e using PE.ind with
 | h e ih1 ih2 =>
   intro hw u s h0 h1
   refine VCalls.wf fun hwf=>?_
   have hup : -9223372036854775808≤e.up∧e.up≤9223372036854775807:=by
     simp only [PE.v,List.all_cons,List.all_nil,V.wf,V.Uq,Bool.and_true,Bool.and_eq_true,decide_eq_true_eq,min_i64,max_i64] at hwf
     exact ⟨by omega,by omega⟩
   clear hwf
   have e1:=PE.wG e
   have hsl0:=xW PE.xu e.sub
   have RB:=xW PE.zF e.kids
   have hlen:=PE.Cy zT VH e u
   rw [PE.VG] at hlen ⊢
   simp only [List.length_append] at hlen
   refine zi.body Tryz.func34 rfl (by kernel_rfl) ?_
   by_cases hk:e.kind=2
   · by_cases hu : u ≤ e.up
     · have hfa : zT u e.kind e.up e.pos = [⟨e.up - u, e.pos, 0⟩] := by simp [zT, hk, hu]
       rw [hfa] at hlen ⊢
       repeat' first|(refine WL.mV (t:=5) 3 rfl rfl rfl rfl ?_)|(refine zf ?_;first|(refine zq.nil ?_)|(refine kG ?_;first|(refine zq.gT rfl rfl rfl ?_)|(refine zq.gD true rfl rfl rfl ?_ ?_;(focus (first|(exact decide_eq_true (by assumption))))))|(refine zq.ev zx rfl ?_)|(refine qW ?_;refine zq.box rfl rfl rfl rfl ?_)|(refine kZ ?_;first|(refine zq.uT zx rfl rfl rfl rfl rfl ?_)|(refine zq.Kl zx rfl rfl rfl rfl rfl rfl rfl rfl rfl rfl rfl ?_))|(refine ji ?_;first|(refine zq.app zx rfl rfl rfl rfl rfl rfl rfl rfl rfl rfl rfl ?_ ?_ (xU.of ?_ rfl) ?_;(focus (first | rfl));(focus (first | exact zS.of rfl | exact zS.map fun _=>rfl | exact PE.els _ (fun _=>rfl) _));(focus (first | omega |(simp <;> fail)))))|(refine zo ?_;first|(refine zq.ans (zk.zm zx rfl rfl rfl rfl) ?_))|(refine qx ?_;first|(refine zq.ans (zk.z8 zx rfl rfl rfl) ?_))|(refine xk ?_;first|(refine zq.ans (zk.sub rfl rfl ?_) ?_;(focus (constructor <;> omega)))))|(refine zH ?_;first|(refine WL.seq ?_)|(refine WL.region (by kernel_rfl) ?_)|(refine WL.block ?_)|(refine zu ?_;first|(refine WL.zJ rfl ?_ ?_;(focus (first|(exact decide_eq_true (by assumption)))))))|(refine zw ?_)
       have hkl:=jk (PE.col zT u) e.kids
       have hsl:=jk (PE.jW zT (u+1)) e.sub
       refine WL.xK (fun i:Nat=>e.kids.length - i) (fun i=>[(1,.int .i64 u),(2,.ptr (s.next+0) 0),(5,.sl (s.next+1) (([(⟨e.up - u,e.pos,0⟩:Bind)]++(e.kids.take i).flatMap (PE.col zT u)).map Bind.zF)),(33,.sl 0 (e.kids.map PE.zF)),(34,.int .i64 e.kids.length),(35,.int .i64 (i:Int))])
         (fun i => .var e.v.cells :: .fam ([(⟨e.up - u,e.pos,0⟩:Bind)]++(e.kids.take i).flatMap (PE.col zT u)).length 3::[.fam 1 3]) (fun i=>i≤e.kids.length) 3 0 (by simp) (fun _=>rfl) ⟨rfl,rfl,by simp [lk];try rfl,rfl,rfl,rfl,trivial⟩ (by simp;try rfl) (fun i hi=>?_) (fun i hi=>?_)
       · generalize (e.kids.take i).flatMap (PE.col zT u) = us
         simp [qF,qG,Own.under,V.under,V.zO,PE.v,V.cells,au]
       have hl:=qY (PE.col zT u) e.kids i
       rcases Nat.lt_or_ge i e.kids.length with hlt | hge
       · have hl2 := qY (PE.col zT u) e.kids (i + 1)
         have hga:(e.kids.map PE.zF)[i]?=some (PE.v e.kids[i]):=by rw [List.getElem?_map,List.getElem?_eq_getElem hlt];simp only [Option.map_some,PE.qK]
         have hE:=(ih1 e.kids[i] (List.getElem_mem hlt) (Nat.le_trans (PE.vD (List.getElem_mem hlt)) hw)).pure u h0 (by have:=PE.vD (List.getElem_mem hlt);omega)
         have ht:=jC (PE.col zT u) hlt
         rw [ht,List.length_append] at hl2
         generalize e.kids[i]=x at hga hE ht hl2
         generalize (e.kids.take i).flatMap (PE.col zT u)=us at hl hl2 ht ⊢
         repeat' first|(refine zf ?_;first|(refine zq.nil ?_)|(refine zU ?_;refine zq.qD zx rfl rfl rfl rfl rfl rfl rfl rfl rfl ?_)|(refine zq.ev zx rfl ?_)|(refine qj ?_;refine zq.alloc zx rfl rfl rfl rfl ?_)|(refine ji ?_;first|(refine zq.app zx rfl rfl rfl rfl rfl rfl rfl rfl rfl rfl rfl ?_ ?_ (xU.of ?_ rfl) ?_;(focus (first | rfl |(simp <;> fail)));(focus (first | exact zS.of rfl | exact zS.map fun _=>rfl | exact PE.els _ (fun _=>rfl) _));(focus (first | omega |(simp;omega)))))|(refine zo ?_;first|(refine zq.ans (zk.zm zx rfl rfl rfl rfl) ?_))|(refine xk ?_;first|(refine zq.ans (zk.add rfl rfl ?_) ?_;(focus (constructor <;> omega))))|(refine xw ?_;first|(refine zq.ans (zk.idx zx rfl rfl rfl rfl rfl hga rfl rfl) ?_))|(refine zy 34 ?_;first|(refine zq.ans (zk.ze rfl rfl rfl (Vr) (hE _)) ?_)))|(refine zH ?_;first|(refine WL.seq ?_)|(refine WL.region (by kernel_rfl) ?_)|(refine WL.block ?_)|(refine WL.skip ?_)|(refine zu ?_;first|(refine WL.zJ rfl ?_ ?_;(focus (first|(simp <;> omega))))))|(refine zw ?_)|(refine zQ ?_)
         refine qB.of (i+1) ?_ ?_ ?_ ?_
         · omega
         · omega
         · rw [ht]
           exact ⟨rfl,rfl,by simp [lk],rfl,rfl,rfl,trivial⟩
         · rw [ht]
           (simp [PE.v,V.cells] <;> omega)
       rw [List.take_of_length_le hge] at hl ⊢
       generalize e.kids.flatMap (PE.col zT u)=kk at hl hkl hlen ⊢
       repeat' first|(refine zf ?_;first|(refine zq.nil ?_)|(refine zq.ev zx rfl ?_)|(refine zo ?_;first|(refine zq.ans (zk.zm zx rfl rfl rfl rfl) ?_))|(refine qx ?_;first|(refine zq.ans (zk.z8 zx rfl rfl rfl) ?_)))|(refine zH ?_;first|(refine WL.seq ?_)|(refine WL.region (by kernel_rfl) ?_)|(refine WL.block ?_)|(refine WL.exit ?_)|(refine zu ?_;first|(refine WL.zY rfl ?_ ?_;(focus (first|(simp <;> omega))))))|(refine zw ?_)|(refine zC ?_)|(refine zV ?_)|(refine zL ?_)
       refine WL.xK (fun i:Nat=>e.sub.length - i) (fun i=>[(1,.int .i64 u),(2,.ptr (s.next+0) 0),(5,.sl (s.next+1) (([(⟨e.up - u,e.pos,0⟩:Bind)]++kk++(e.sub.take i).flatMap (PE.jW zT (u+1))).map Bind.zF)),(46,.sl 0 (e.sub.map PE.xu)),(47,.int .i64 e.sub.length),(48,.int .i64 (i:Int))])
         (fun i => .var e.v.cells :: .fam ([(⟨e.up - u,e.pos,0⟩:Bind)]++kk++(e.sub.take i).flatMap (PE.jW zT (u+1))).length 3::[.fam 1 3]) (fun i=>i≤e.sub.length) 3 0 (by simp) (fun _=>rfl) ⟨rfl,rfl,by simp [lk],rfl,rfl,rfl,trivial⟩ (by simp [PE.v,V.cells]) (fun i hi=>?_) (fun i hi=>?_)
       · generalize (e.sub.take i).flatMap (PE.jW zT (u + 1)) = us
         simp [qF,qG,Own.under,V.under,V.zO,PE.v,V.cells,au]
       have hm:=qY (PE.jW zT (u+1)) e.sub i
       rcases Nat.lt_or_ge i e.sub.length with hlt | hge
       · have hm2 := qY (PE.jW zT (u + 1)) e.sub (i + 1)
         have hga:(e.sub.map PE.xu)[i]?=some (PL.v e.sub[i]):=by rw [List.getElem?_map,List.getElem?_eq_getElem hlt];simp only [Option.map_some,PE.kX]
         have hpw:=PE.jB (List.getElem_mem hlt)
         have hP:=fun t=>uU e.sub[i] (Nat.le_trans hpw hw) t
         have hpl:=PL.vV e.sub[i]
         have hI:∀ k∈e.sub[i].parts,∀ t,VCalls Tryz.prog 34 [k.v,.int .i64 (u+1)] t (fun v s'=>v = .sl 0 ((k.col zT (u+1)).map Bind.zF)∧s'=t):=fun k hk t=>by
           have h5:=PL.jq hk
           have h6:=yK (fun k:PE=>qV k.v) e.sub[i].parts
           have h7:=PL.vO e.sub[i]
           have h8:1+qV k.v≤kM (fun k=>1+qV k.v) e.sub[i].parts:=by
             obtain ⟨j,hj,rfl⟩:=List.getElem_of_mem hk
             exact dX (f:=fun k:PE=>1+qV k.v) hj
           exact (ih2 _ (List.getElem_mem hlt) k hk (by omega)).pure (u+1) (by omega) (by omega) t
         have ht:=jC (PE.jW zT (u+1)) hlt
         rw [PE.om] at ht
         rw [ht,List.length_append] at hm2
         generalize e.sub[i]=x at hga hP ht hm2 hI hpl hpw
         generalize x.parts=ps at hP ht hm2 hI hpl
         generalize (e.sub.take i).flatMap (PE.jW zT (u+1))=us at hm hm2 ht ⊢
         repeat' first|(refine zf ?_;first|(refine zq.nil ?_)|(refine zU ?_;refine zq.qD zx rfl rfl rfl rfl rfl rfl rfl rfl rfl ?_)|(refine zq.ev zx rfl ?_)|(refine qj ?_;refine zq.alloc zx rfl rfl rfl rfl ?_)|(refine zo ?_;first|(refine zq.ans (zk.zm zx rfl rfl rfl rfl) ?_))|(refine qx ?_;first|(refine zq.ans (zk.z8 zx rfl rfl rfl) ?_))|(refine xw ?_;first|(refine zq.ans (zk.idx zx rfl rfl rfl rfl rfl hga rfl rfl) ?_))|(refine zy 49 ?_;first|(refine zq.ans (zk.ze rfl rfl rfl (Az) (hP _)) ?_)))|(refine zH ?_;first|(refine WL.seq ?_)|(refine WL.region (by kernel_rfl) ?_)|(refine WL.block ?_)|(refine WL.skip ?_)|(refine zu ?_;first|(refine WL.zJ rfl ?_ ?_;(focus (first|(simp <;> omega))))))|(refine zw ?_)
         refine WL.xK (fun j:Nat=>ps.length - j) (fun j=>[(1,.int .i64 u),(2,.ptr (s.next+0) 0),(5,.sl (s.next+1) (([(⟨e.up - u,e.pos,0⟩:Bind)]++kk++us++(ps.take j).flatMap (PE.col zT (u+1))).map Bind.zF)),(46,.sl 0 (e.sub.map PE.xu)),(47,.int .i64 e.sub.length),(48,.int .i64 (i:Int)),(53,.sl 0 (ps.map PE.zF)),(54,.int .i64 ps.length),(55,.int .i64 (j:Int))])
           (fun j => .var e.v.cells :: .fam ([(⟨e.up - u,e.pos,0⟩:Bind)]++kk++us++(ps.take j).flatMap (PE.col zT (u+1))).length 3::([.fam 1 3]++[.var x.v.cells])) (fun j=>j≤ps.length) 4 0 (by simp) (fun _=>rfl) ⟨rfl,rfl,by simp [lk],rfl,rfl,rfl,rfl,rfl,rfl,trivial⟩ (by simp [PE.v,PL.v,V.cells]) (fun j hj=>?_) (fun j hj=>?_)
         · generalize (ps.take j).flatMap (PE.col zT (u + 1)) = vs
           simp [qF,qG,Own.under,V.under,V.zO,PE.v,PL.v,V.cells,au]
         have hn:=qY (PE.col zT (u+1)) ps j
         rcases Nat.lt_or_ge j ps.length with hlt2 | Qw
         · have hn2 := qY (PE.col zT (u + 1)) ps (j + 1)
           have hgb:(ps.map PE.zF)[j]?=some (PE.v ps[j]):=by rw [List.getElem?_map,List.getElem?_eq_getElem hlt2];simp only [Option.map_some,PE.qK]
           have hE:=hI ps[j] (List.getElem_mem hlt2)
           have ht2:=jC (PE.col zT (u+1)) hlt2
           rw [ht2,List.length_append] at hn2
           generalize ps[j]=y at hgb hE ht2 hn2
           generalize (ps.take j).flatMap (PE.col zT (u+1))=vs at hn hn2 ht2 ⊢
           repeat' first|(refine zf ?_;first|(refine zq.nil ?_)|(refine zU ?_;refine zq.qD zx rfl rfl rfl rfl rfl rfl rfl rfl rfl ?_)|(refine zq.ev zx rfl ?_)|(refine qj ?_;refine zq.alloc zx rfl rfl rfl rfl ?_)|(refine ji ?_;first|(refine zq.app zx rfl rfl rfl rfl rfl rfl rfl rfl rfl rfl rfl ?_ ?_ (xU.of ?_ rfl) ?_;(focus (first | rfl |(simp <;> fail)));(focus (first | exact zS.of rfl | exact zS.map fun _=>rfl | exact PE.els _ (fun _=>rfl) _));(focus (first | omega |(simp;omega)))))|(refine zo ?_;first|(refine zq.ans (zk.zm zx rfl rfl rfl rfl) ?_))|(refine xk ?_;first|(refine zq.ans (zk.add rfl rfl ?_) ?_;(focus (constructor <;> omega))))|(refine xw ?_;first|(refine zq.ans (zk.idx zx rfl rfl rfl rfl rfl hgb rfl rfl) ?_))|(refine zy 34 ?_;first|(refine zq.ans (zk.ze rfl rfl rfl (Vr) (hE _)) ?_)))|(refine zH ?_;first|(refine WL.seq ?_)|(refine WL.region (by kernel_rfl) ?_)|(refine WL.block ?_)|(refine WL.skip ?_)|(refine zu ?_;first|(refine WL.zJ rfl ?_ ?_;(focus (first|(simp <;> omega))))))|(refine zw ?_)|(refine zQ ?_)
           refine qB.of (j+1) ?_ ?_ ?_ ?_
           · omega
           · omega
           · rw [ht2]
             exact ⟨rfl,rfl,by simp [lk],rfl,rfl,rfl,rfl,rfl,rfl,trivial⟩
           · rw [ht2]
             (simp [PE.v,PL.v,V.cells] <;> omega)
         · rw [List.take_of_length_le Qw]
           repeat' first|(refine zf ?_;first|(refine zq.nil ?_)|(refine zq.ev zx rfl ?_)|(refine xk ?_;first|(refine zq.ans (zk.add rfl rfl ?_) ?_;(focus (constructor <;> omega)))))|(refine zH ?_;first|(refine WL.seq ?_)|(refine WL.region (by kernel_rfl) ?_)|(refine WL.exit ?_)|(refine zu ?_;first|(refine WL.zY rfl ?_ ?_;(focus (first|(simp <;> omega))))))|(refine zw ?_)|(refine zC ?_)|(refine zQ ?_)|(refine zV ?_)|(refine zL ?_)
           refine qB.of (i+1) ?_ ?_ ?_ ?_
           · omega
           · omega
           · rw [ht]
             exact ⟨rfl,rfl,by simp [lk],rfl,rfl,rfl,trivial⟩
           · rw [ht]
             (simp [PE.v,V.cells] <;> omega)
       · rw [List.take_of_length_le hge]
         repeat' first|(refine zf ?_;first|(refine zq.nil ?_)|(refine zq.ev zx rfl ?_))|(refine zH ?_;first|(refine WL.seq ?_)|(refine WL.region (by kernel_rfl) ?_)|(refine WL.exit ?_)|(refine WL.ret ?_)|(refine zu ?_;first|(refine WL.zY rfl ?_ ?_;(focus (first|(simp <;> omega))))))|(refine zw ?_)|(refine zC ?_)|(refine zV ?_)|(refine zL ?_)|(refine zh.r1 (r := .tmp 4) (.inl rfl) (zn.tmp rfl) ?_)
         have hfin:=Own2.EC (s:=s) (f:=Bind.zF) (cs:=[(⟨e.up - u,e.pos,0⟩:Bind)]++kk++e.sub.flatMap (PE.jW zT (u+1))) (k:=1) 3 (xs := .var e.v.cells :: .fam ([(⟨e.up - u,e.pos,0⟩:Bind)]++kk++e.sub.flatMap (PE.jW zT (u+1))).length 3::[.fam 1 3]) rfl rfl (fun _=>rfl) (fun _=>rfl)
         unfold binds
         rw [← List.append_assoc]
         exact hfin
     · have hfa : zT u e.kind e.up e.pos = [] := by simp [zT, hu]
       rw [hfa] at hlen ⊢
       repeat' first|(refine WL.mV (t:=5) 3 rfl rfl rfl rfl ?_)|(refine zf ?_;first|(refine zq.nil ?_)|(refine kG ?_;first|(refine zq.gT rfl rfl rfl ?_)|(refine zq.gD true rfl rfl rfl ?_ ?_;(focus (first|(exact decide_eq_true (by assumption))))))|(refine zq.ev zx rfl ?_)|(refine qW ?_;refine zq.box rfl rfl rfl rfl ?_)|(refine kZ ?_;first|(refine zq.uT zx rfl rfl rfl rfl rfl ?_))|(refine zo ?_;first|(refine zq.ans (zk.zm zx rfl rfl rfl rfl) ?_))|(refine qx ?_;first|(refine zq.ans (zk.z8 zx rfl rfl rfl) ?_)))|(refine zH ?_;first|(refine WL.seq ?_)|(refine WL.region (by kernel_rfl) ?_)|(refine WL.block ?_)|(refine WL.skip ?_)|(refine zu ?_;first|(refine WL.zY rfl ?_ ?_;(focus (first|(exact decide_eq_false (by assumption)))))))|(refine zw ?_)
       have hkl:=jk (PE.col zT u) e.kids
       have hsl:=jk (PE.jW zT (u+1)) e.sub
       refine WL.xK (fun i:Nat=>e.kids.length - i) (fun i=>[(1,.int .i64 u),(2,.ptr (s.next+0) 0),(5,.sl (s.next+1) ((([]:List Bind)++(e.kids.take i).flatMap (PE.col zT u)).map Bind.zF)),(33,.sl 0 (e.kids.map PE.zF)),(34,.int .i64 e.kids.length),(35,.int .i64 (i:Int))])
         (fun i => .var e.v.cells :: .fam (([]:List Bind)++(e.kids.take i).flatMap (PE.col zT u)).length 3::[]) (fun i=>i≤e.kids.length) 2 0 (by simp) (fun _=>rfl) ⟨rfl,rfl,by simp [lk];try rfl,rfl,rfl,rfl,trivial⟩ (by simp;try rfl) (fun i hi=>?_) (fun i hi=>?_)
       · generalize (e.kids.take i).flatMap (PE.col zT u) = us
         simp [qF,qG,Own.under,V.under,V.zO,PE.v,V.cells,au]
       have hl:=qY (PE.col zT u) e.kids i
       rcases Nat.lt_or_ge i e.kids.length with hlt | hge
       · have hl2 := qY (PE.col zT u) e.kids (i + 1)
         have hga:(e.kids.map PE.zF)[i]?=some (PE.v e.kids[i]):=by rw [List.getElem?_map,List.getElem?_eq_getElem hlt];simp only [Option.map_some,PE.qK]
         have hE:=(ih1 e.kids[i] (List.getElem_mem hlt) (Nat.le_trans (PE.vD (List.getElem_mem hlt)) hw)).pure u h0 (by have:=PE.vD (List.getElem_mem hlt);omega)
         have ht:=jC (PE.col zT u) hlt
         rw [ht,List.length_append] at hl2
         generalize e.kids[i]=x at hga hE ht hl2
         generalize (e.kids.take i).flatMap (PE.col zT u)=us at hl hl2 ht ⊢
         repeat' first|(refine zf ?_;first|(refine zq.nil ?_)|(refine zU ?_;refine zq.qD zx rfl rfl rfl rfl rfl rfl rfl rfl rfl ?_)|(refine zq.ev zx rfl ?_)|(refine qj ?_;refine zq.alloc zx rfl rfl rfl rfl ?_)|(refine ji ?_;first|(refine zq.app zx rfl rfl rfl rfl rfl rfl rfl rfl rfl rfl rfl ?_ ?_ (xU.of ?_ rfl) ?_;(focus (first | rfl |(simp <;> fail)));(focus (first | exact zS.of rfl | exact zS.map fun _=>rfl | exact PE.els _ (fun _=>rfl) _));(focus (first | omega |(simp;omega)))))|(refine zo ?_;first|(refine zq.ans (zk.zm zx rfl rfl rfl rfl) ?_))|(refine xk ?_;first|(refine zq.ans (zk.add rfl rfl ?_) ?_;(focus (constructor <;> omega))))|(refine xw ?_;first|(refine zq.ans (zk.idx zx rfl rfl rfl rfl rfl hga rfl rfl) ?_))|(refine zy 34 ?_;first|(refine zq.ans (zk.ze rfl rfl rfl (Vr) (hE _)) ?_)))|(refine zH ?_;first|(refine WL.seq ?_)|(refine WL.region (by kernel_rfl) ?_)|(refine WL.block ?_)|(refine WL.skip ?_)|(refine zu ?_;first|(refine WL.zJ rfl ?_ ?_;(focus (first|(simp <;> omega))))))|(refine zw ?_)|(refine zQ ?_)
         refine qB.of (i+1) ?_ ?_ ?_ ?_
         · omega
         · omega
         · rw [ht]
           exact ⟨rfl,rfl,by simp [lk],rfl,rfl,rfl,trivial⟩
         · rw [ht]
           (simp [PE.v,V.cells] <;> omega)
       rw [List.take_of_length_le hge] at hl ⊢
       generalize e.kids.flatMap (PE.col zT u)=kk at hl hkl hlen ⊢
       repeat' first|(refine zf ?_;first|(refine zq.nil ?_)|(refine zq.ev zx rfl ?_)|(refine zo ?_;first|(refine zq.ans (zk.zm zx rfl rfl rfl rfl) ?_))|(refine qx ?_;first|(refine zq.ans (zk.z8 zx rfl rfl rfl) ?_)))|(refine zH ?_;first|(refine WL.seq ?_)|(refine WL.region (by kernel_rfl) ?_)|(refine WL.block ?_)|(refine WL.exit ?_)|(refine zu ?_;first|(refine WL.zY rfl ?_ ?_;(focus (first|(simp <;> omega))))))|(refine zw ?_)|(refine zC ?_)|(refine zV ?_)|(refine zL ?_)
       refine WL.xK (fun i:Nat=>e.sub.length - i) (fun i=>[(1,.int .i64 u),(2,.ptr (s.next+0) 0),(5,.sl (s.next+1) ((([]:List Bind)++kk++(e.sub.take i).flatMap (PE.jW zT (u+1))).map Bind.zF)),(46,.sl 0 (e.sub.map PE.xu)),(47,.int .i64 e.sub.length),(48,.int .i64 (i:Int))])
         (fun i => .var e.v.cells :: .fam (([]:List Bind)++kk++(e.sub.take i).flatMap (PE.jW zT (u+1))).length 3::[]) (fun i=>i≤e.sub.length) 2 0 (by simp) (fun _=>rfl) ⟨rfl,rfl,by simp [lk],rfl,rfl,rfl,trivial⟩ (by simp [PE.v,V.cells]) (fun i hi=>?_) (fun i hi=>?_)
       · generalize (e.sub.take i).flatMap (PE.jW zT (u + 1)) = us
         simp [qF,qG,Own.under,V.under,V.zO,PE.v,V.cells,au]
       have hm:=qY (PE.jW zT (u+1)) e.sub i
       rcases Nat.lt_or_ge i e.sub.length with hlt | hge
       · have hm2 := qY (PE.jW zT (u + 1)) e.sub (i + 1)
         have hga:(e.sub.map PE.xu)[i]?=some (PL.v e.sub[i]):=by rw [List.getElem?_map,List.getElem?_eq_getElem hlt];simp only [Option.map_some,PE.kX]
         have hpw:=PE.jB (List.getElem_mem hlt)
         have hP:=fun t=>uU e.sub[i] (Nat.le_trans hpw hw) t
         have hpl:=PL.vV e.sub[i]
         have hI:∀ k∈e.sub[i].parts,∀ t,VCalls Tryz.prog 34 [k.v,.int .i64 (u+1)] t (fun v s'=>v = .sl 0 ((k.col zT (u+1)).map Bind.zF)∧s'=t):=fun k hk t=>by
           have h5:=PL.jq hk
           have h6:=yK (fun k:PE=>qV k.v) e.sub[i].parts
           have h7:=PL.vO e.sub[i]
           have h8:1+qV k.v≤kM (fun k=>1+qV k.v) e.sub[i].parts:=by
             obtain ⟨j,hj,rfl⟩:=List.getElem_of_mem hk
             exact dX (f:=fun k:PE=>1+qV k.v) hj
           exact (ih2 _ (List.getElem_mem hlt) k hk (by omega)).pure (u+1) (by omega) (by omega) t
         have ht:=jC (PE.jW zT (u+1)) hlt
         rw [PE.om] at ht
         rw [ht,List.length_append] at hm2
         generalize e.sub[i]=x at hga hP ht hm2 hI hpl hpw
         generalize x.parts=ps at hP ht hm2 hI hpl
         generalize (e.sub.take i).flatMap (PE.jW zT (u+1))=us at hm hm2 ht ⊢
         repeat' first|(refine zf ?_;first|(refine zq.nil ?_)|(refine zU ?_;refine zq.qD zx rfl rfl rfl rfl rfl rfl rfl rfl rfl ?_)|(refine zq.ev zx rfl ?_)|(refine qj ?_;refine zq.alloc zx rfl rfl rfl rfl ?_)|(refine zo ?_;first|(refine zq.ans (zk.zm zx rfl rfl rfl rfl) ?_))|(refine qx ?_;first|(refine zq.ans (zk.z8 zx rfl rfl rfl) ?_))|(refine xw ?_;first|(refine zq.ans (zk.idx zx rfl rfl rfl rfl rfl hga rfl rfl) ?_))|(refine zy 49 ?_;first|(refine zq.ans (zk.ze rfl rfl rfl (Az) (hP _)) ?_)))|(refine zH ?_;first|(refine WL.seq ?_)|(refine WL.region (by kernel_rfl) ?_)|(refine WL.block ?_)|(refine WL.skip ?_)|(refine zu ?_;first|(refine WL.zJ rfl ?_ ?_;(focus (first|(simp <;> omega))))))|(refine zw ?_)
         refine WL.xK (fun j:Nat=>ps.length - j) (fun j=>[(1,.int .i64 u),(2,.ptr (s.next+0) 0),(5,.sl (s.next+1) ((([]:List Bind)++kk++us++(ps.take j).flatMap (PE.col zT (u+1))).map Bind.zF)),(46,.sl 0 (e.sub.map PE.xu)),(47,.int .i64 e.sub.length),(48,.int .i64 (i:Int)),(53,.sl 0 (ps.map PE.zF)),(54,.int .i64 ps.length),(55,.int .i64 (j:Int))])
           (fun j => .var e.v.cells :: .fam (([]:List Bind)++kk++us++(ps.take j).flatMap (PE.col zT (u+1))).length 3::([]++[.var x.v.cells])) (fun j=>j≤ps.length) 3 0 (by simp) (fun _=>rfl) ⟨rfl,rfl,by simp [lk],rfl,rfl,rfl,rfl,rfl,rfl,trivial⟩ (by simp [PE.v,PL.v,V.cells]) (fun j hj=>?_) (fun j hj=>?_)
         · generalize (ps.take j).flatMap (PE.col zT (u + 1)) = vs
           simp [qF,qG,Own.under,V.under,V.zO,PE.v,PL.v,V.cells,au]
         have hn:=qY (PE.col zT (u+1)) ps j
         rcases Nat.lt_or_ge j ps.length with hlt2 | Qw
         · have hn2 := qY (PE.col zT (u + 1)) ps (j + 1)
           have hgb:(ps.map PE.zF)[j]?=some (PE.v ps[j]):=by rw [List.getElem?_map,List.getElem?_eq_getElem hlt2];simp only [Option.map_some,PE.qK]
           have hE:=hI ps[j] (List.getElem_mem hlt2)
           have ht2:=jC (PE.col zT (u+1)) hlt2
           rw [ht2,List.length_append] at hn2
           generalize ps[j]=y at hgb hE ht2 hn2
           generalize (ps.take j).flatMap (PE.col zT (u+1))=vs at hn hn2 ht2 ⊢
           repeat' first|(refine zf ?_;first|(refine zq.nil ?_)|(refine zU ?_;refine zq.qD zx rfl rfl rfl rfl rfl rfl rfl rfl rfl ?_)|(refine zq.ev zx rfl ?_)|(refine qj ?_;refine zq.alloc zx rfl rfl rfl rfl ?_)|(refine ji ?_;first|(refine zq.app zx rfl rfl rfl rfl rfl rfl rfl rfl rfl rfl rfl ?_ ?_ (xU.of ?_ rfl) ?_;(focus (first | rfl |(simp <;> fail)));(focus (first | exact zS.of rfl | exact zS.map fun _=>rfl | exact PE.els _ (fun _=>rfl) _));(focus (first | omega |(simp;omega)))))|(refine zo ?_;first|(refine zq.ans (zk.zm zx rfl rfl rfl rfl) ?_))|(refine xk ?_;first|(refine zq.ans (zk.add rfl rfl ?_) ?_;(focus (constructor <;> omega))))|(refine xw ?_;first|(refine zq.ans (zk.idx zx rfl rfl rfl rfl rfl hgb rfl rfl) ?_))|(refine zy 34 ?_;first|(refine zq.ans (zk.ze rfl rfl rfl (Vr) (hE _)) ?_)))|(refine zH ?_;first|(refine WL.seq ?_)|(refine WL.region (by kernel_rfl) ?_)|(refine WL.block ?_)|(refine WL.skip ?_)|(refine zu ?_;first|(refine WL.zJ rfl ?_ ?_;(focus (first|(simp <;> omega))))))|(refine zw ?_)|(refine zQ ?_)
           refine qB.of (j+1) ?_ ?_ ?_ ?_
           · omega
           · omega
           · rw [ht2]
             exact ⟨rfl,rfl,by simp [lk],rfl,rfl,rfl,rfl,rfl,rfl,trivial⟩
           · rw [ht2]
             (simp [PE.v,PL.v,V.cells] <;> omega)
         · rw [List.take_of_length_le Qw]
           repeat' first|(refine zf ?_;first|(refine zq.nil ?_)|(refine zq.ev zx rfl ?_)|(refine xk ?_;first|(refine zq.ans (zk.add rfl rfl ?_) ?_;(focus (constructor <;> omega)))))|(refine zH ?_;first|(refine WL.seq ?_)|(refine WL.region (by kernel_rfl) ?_)|(refine WL.exit ?_)|(refine zu ?_;first|(refine WL.zY rfl ?_ ?_;(focus (first|(simp <;> omega))))))|(refine zw ?_)|(refine zC ?_)|(refine zQ ?_)|(refine zV ?_)|(refine zL ?_)
           refine qB.of (i+1) ?_ ?_ ?_ ?_
           · omega
           · omega
           · rw [ht]
             exact ⟨rfl,rfl,by simp [lk],rfl,rfl,rfl,trivial⟩
           · rw [ht]
             (simp [PE.v,V.cells] <;> omega)
       · rw [List.take_of_length_le hge]
         repeat' first|(refine zf ?_;first|(refine zq.nil ?_)|(refine zq.ev zx rfl ?_))|(refine zH ?_;first|(refine WL.seq ?_)|(refine WL.region (by kernel_rfl) ?_)|(refine WL.exit ?_)|(refine WL.ret ?_)|(refine zu ?_;first|(refine WL.zY rfl ?_ ?_;(focus (first|(simp <;> omega))))))|(refine zw ?_)|(refine zC ?_)|(refine zV ?_)|(refine zL ?_)|(refine zh.r1 (r := .tmp 4) (.inl rfl) (zn.tmp rfl) ?_)
         have hfin:=Own2.EC (s:=s) (f:=Bind.zF) (cs:=([]:List Bind)++kk++e.sub.flatMap (PE.jW zT (u+1))) (k:=1) 3 (xs := .var e.v.cells :: .fam (([]:List Bind)++kk++e.sub.flatMap (PE.jW zT (u+1))).length 3::[]) rfl rfl (fun _=>rfl) (fun _=>rfl)
         unfold binds
         rw [← List.append_assoc]
         exact hfin
   · have hfa : zT u e.kind e.up e.pos = [] := by simp [zT, hk]
     rw [hfa] at hlen ⊢
     repeat' first|(refine WL.mV (t:=5) 3 rfl rfl rfl rfl ?_)|(refine zf ?_;first|(refine zq.nil ?_)|(refine kG ?_;first|(refine zq.gF rfl rfl rfl ?_)|(refine zq.gD false rfl rfl rfl ?_ ?_;(focus (first|(exact decide_eq_false (by assumption))))))|(refine zq.ev zx rfl ?_)|(refine qW ?_;refine zq.box rfl rfl rfl rfl ?_)|(refine kZ ?_;first|(refine zq.uT zx rfl rfl rfl rfl rfl ?_))|(refine zo ?_;first|(refine zq.ans (zk.zm zx rfl rfl rfl rfl) ?_))|(refine qx ?_;first|(refine zq.ans (zk.z8 zx rfl rfl rfl) ?_)))|(refine zH ?_;first|(refine WL.seq ?_)|(refine WL.region (by kernel_rfl) ?_)|(refine WL.block ?_)|(refine WL.skip ?_)|(refine zu ?_;first|(refine WL.qQ rfl ?_)))|(refine zw ?_)
     have hkl:=jk (PE.col zT u) e.kids
     have hsl:=jk (PE.jW zT (u+1)) e.sub
     refine WL.xK (fun i:Nat=>e.kids.length - i) (fun i=>[(1,.int .i64 u),(2,.ptr (s.next+0) 0),(5,.sl (s.next+1) ((([]:List Bind)++(e.kids.take i).flatMap (PE.col zT u)).map Bind.zF)),(33,.sl 0 (e.kids.map PE.zF)),(34,.int .i64 e.kids.length),(35,.int .i64 (i:Int))])
       (fun i => .var e.v.cells :: .fam (([]:List Bind)++(e.kids.take i).flatMap (PE.col zT u)).length 3::[]) (fun i=>i≤e.kids.length) 2 0 (by simp) (fun _=>rfl) ⟨rfl,rfl,by simp [lk];try rfl,rfl,rfl,rfl,trivial⟩ (by simp;try rfl) (fun i hi=>?_) (fun i hi=>?_)
     · generalize (e.kids.take i).flatMap (PE.col zT u) = us
       simp [qF,qG,Own.under,V.under,V.zO,PE.v,V.cells,au]
     have hl:=qY (PE.col zT u) e.kids i
     rcases Nat.lt_or_ge i e.kids.length with hlt | hge
     · have hl2 := qY (PE.col zT u) e.kids (i + 1)
       have hga:(e.kids.map PE.zF)[i]?=some (PE.v e.kids[i]):=by rw [List.getElem?_map,List.getElem?_eq_getElem hlt];simp only [Option.map_some,PE.qK]
       have hE:=(ih1 e.kids[i] (List.getElem_mem hlt) (Nat.le_trans (PE.vD (List.getElem_mem hlt)) hw)).pure u h0 (by have:=PE.vD (List.getElem_mem hlt);omega)
       have ht:=jC (PE.col zT u) hlt
       rw [ht,List.length_append] at hl2
       generalize e.kids[i]=x at hga hE ht hl2
       generalize (e.kids.take i).flatMap (PE.col zT u)=us at hl hl2 ht ⊢
       repeat' first|(refine zf ?_;first|(refine zq.nil ?_)|(refine zU ?_;refine zq.qD zx rfl rfl rfl rfl rfl rfl rfl rfl rfl ?_)|(refine zq.ev zx rfl ?_)|(refine qj ?_;refine zq.alloc zx rfl rfl rfl rfl ?_)|(refine ji ?_;first|(refine zq.app zx rfl rfl rfl rfl rfl rfl rfl rfl rfl rfl rfl ?_ ?_ (xU.of ?_ rfl) ?_;(focus (first | rfl |(simp <;> fail)));(focus (first | exact zS.of rfl | exact zS.map fun _=>rfl | exact PE.els _ (fun _=>rfl) _));(focus (first | omega |(simp;omega)))))|(refine zo ?_;first|(refine zq.ans (zk.zm zx rfl rfl rfl rfl) ?_))|(refine xk ?_;first|(refine zq.ans (zk.add rfl rfl ?_) ?_;(focus (constructor <;> omega))))|(refine xw ?_;first|(refine zq.ans (zk.idx zx rfl rfl rfl rfl rfl hga rfl rfl) ?_))|(refine zy 34 ?_;first|(refine zq.ans (zk.ze rfl rfl rfl (Vr) (hE _)) ?_)))|(refine zH ?_;first|(refine WL.seq ?_)|(refine WL.region (by kernel_rfl) ?_)|(refine WL.block ?_)|(refine WL.skip ?_)|(refine zu ?_;first|(refine WL.zJ rfl ?_ ?_;(focus (first|(simp <;> omega))))))|(refine zw ?_)|(refine zQ ?_)
       refine qB.of (i+1) ?_ ?_ ?_ ?_
       · omega
       · omega
       · rw [ht]
         exact ⟨rfl,rfl,by simp [lk],rfl,rfl,rfl,trivial⟩
       · rw [ht]
         (simp [PE.v,V.cells] <;> omega)
     rw [List.take_of_length_le hge] at hl ⊢
     generalize e.kids.flatMap (PE.col zT u)=kk at hl hkl hlen ⊢
     repeat' first|(refine zf ?_;first|(refine zq.nil ?_)|(refine zq.ev zx rfl ?_)|(refine zo ?_;first|(refine zq.ans (zk.zm zx rfl rfl rfl rfl) ?_))|(refine qx ?_;first|(refine zq.ans (zk.z8 zx rfl rfl rfl) ?_)))|(refine zH ?_;first|(refine WL.seq ?_)|(refine WL.region (by kernel_rfl) ?_)|(refine WL.block ?_)|(refine WL.exit ?_)|(refine zu ?_;first|(refine WL.zY rfl ?_ ?_;(focus (first|(simp <;> omega))))))|(refine zw ?_)|(refine zC ?_)|(refine zV ?_)|(refine zL ?_)
     refine WL.xK (fun i:Nat=>e.sub.length - i) (fun i=>[(1,.int .i64 u),(2,.ptr (s.next+0) 0),(5,.sl (s.next+1) ((([]:List Bind)++kk++(e.sub.take i).flatMap (PE.jW zT (u+1))).map Bind.zF)),(46,.sl 0 (e.sub.map PE.xu)),(47,.int .i64 e.sub.length),(48,.int .i64 (i:Int))])
       (fun i => .var e.v.cells :: .fam (([]:List Bind)++kk++(e.sub.take i).flatMap (PE.jW zT (u+1))).length 3::[]) (fun i=>i≤e.sub.length) 2 0 (by simp) (fun _=>rfl) ⟨rfl,rfl,by simp [lk],rfl,rfl,rfl,trivial⟩ (by simp [PE.v,V.cells]) (fun i hi=>?_) (fun i hi=>?_)
     · generalize (e.sub.take i).flatMap (PE.jW zT (u + 1)) = us
       simp [qF,qG,Own.under,V.under,V.zO,PE.v,V.cells,au]
     have hm:=qY (PE.jW zT (u+1)) e.sub i
     rcases Nat.lt_or_ge i e.sub.length with hlt | hge
     · have hm2 := qY (PE.jW zT (u + 1)) e.sub (i + 1)
       have hga:(e.sub.map PE.xu)[i]?=some (PL.v e.sub[i]):=by rw [List.getElem?_map,List.getElem?_eq_getElem hlt];simp only [Option.map_some,PE.kX]
       have hpw:=PE.jB (List.getElem_mem hlt)
       have hP:=fun t=>uU e.sub[i] (Nat.le_trans hpw hw) t
       have hpl:=PL.vV e.sub[i]
       have hI:∀ k∈e.sub[i].parts,∀ t,VCalls Tryz.prog 34 [k.v,.int .i64 (u+1)] t (fun v s'=>v = .sl 0 ((k.col zT (u+1)).map Bind.zF)∧s'=t):=fun k hk t=>by
         have h5:=PL.jq hk
         have h6:=yK (fun k:PE=>qV k.v) e.sub[i].parts
         have h7:=PL.vO e.sub[i]
         have h8:1+qV k.v≤kM (fun k=>1+qV k.v) e.sub[i].parts:=by
           obtain ⟨j,hj,rfl⟩:=List.getElem_of_mem hk
           exact dX (f:=fun k:PE=>1+qV k.v) hj
         exact (ih2 _ (List.getElem_mem hlt) k hk (by omega)).pure (u+1) (by omega) (by omega) t
       have ht:=jC (PE.jW zT (u+1)) hlt
       rw [PE.om] at ht
       rw [ht,List.length_append] at hm2
       generalize e.sub[i]=x at hga hP ht hm2 hI hpl hpw
       generalize x.parts=ps at hP ht hm2 hI hpl
       generalize (e.sub.take i).flatMap (PE.jW zT (u+1))=us at hm hm2 ht ⊢
       repeat' first|(refine zf ?_;first|(refine zq.nil ?_)|(refine zU ?_;refine zq.qD zx rfl rfl rfl rfl rfl rfl rfl rfl rfl ?_)|(refine zq.ev zx rfl ?_)|(refine qj ?_;refine zq.alloc zx rfl rfl rfl rfl ?_)|(refine zo ?_;first|(refine zq.ans (zk.zm zx rfl rfl rfl rfl) ?_))|(refine qx ?_;first|(refine zq.ans (zk.z8 zx rfl rfl rfl) ?_))|(refine xw ?_;first|(refine zq.ans (zk.idx zx rfl rfl rfl rfl rfl hga rfl rfl) ?_))|(refine zy 49 ?_;first|(refine zq.ans (zk.ze rfl rfl rfl (Az) (hP _)) ?_)))|(refine zH ?_;first|(refine WL.seq ?_)|(refine WL.region (by kernel_rfl) ?_)|(refine WL.block ?_)|(refine WL.skip ?_)|(refine zu ?_;first|(refine WL.zJ rfl ?_ ?_;(focus (first|(simp <;> omega))))))|(refine zw ?_)
       refine WL.xK (fun j:Nat=>ps.length - j) (fun j=>[(1,.int .i64 u),(2,.ptr (s.next+0) 0),(5,.sl (s.next+1) ((([]:List Bind)++kk++us++(ps.take j).flatMap (PE.col zT (u+1))).map Bind.zF)),(46,.sl 0 (e.sub.map PE.xu)),(47,.int .i64 e.sub.length),(48,.int .i64 (i:Int)),(53,.sl 0 (ps.map PE.zF)),(54,.int .i64 ps.length),(55,.int .i64 (j:Int))])
         (fun j => .var e.v.cells :: .fam (([]:List Bind)++kk++us++(ps.take j).flatMap (PE.col zT (u+1))).length 3::([]++[.var x.v.cells])) (fun j=>j≤ps.length) 3 0 (by simp) (fun _=>rfl) ⟨rfl,rfl,by simp [lk],rfl,rfl,rfl,rfl,rfl,rfl,trivial⟩ (by simp [PE.v,PL.v,V.cells]) (fun j hj=>?_) (fun j hj=>?_)
       · generalize (ps.take j).flatMap (PE.col zT (u + 1)) = vs
         simp [qF,qG,Own.under,V.under,V.zO,PE.v,PL.v,V.cells,au]
       have hn:=qY (PE.col zT (u+1)) ps j
       rcases Nat.lt_or_ge j ps.length with hlt2 | Qw
       · have hn2 := qY (PE.col zT (u + 1)) ps (j + 1)
         have hgb:(ps.map PE.zF)[j]?=some (PE.v ps[j]):=by rw [List.getElem?_map,List.getElem?_eq_getElem hlt2];simp only [Option.map_some,PE.qK]
         have hE:=hI ps[j] (List.getElem_mem hlt2)
         have ht2:=jC (PE.col zT (u+1)) hlt2
         rw [ht2,List.length_append] at hn2
         generalize ps[j]=y at hgb hE ht2 hn2
         generalize (ps.take j).flatMap (PE.col zT (u+1))=vs at hn hn2 ht2 ⊢
         repeat' first|(refine zf ?_;first|(refine zq.nil ?_)|(refine zU ?_;refine zq.qD zx rfl rfl rfl rfl rfl rfl rfl rfl rfl ?_)|(refine zq.ev zx rfl ?_)|(refine qj ?_;refine zq.alloc zx rfl rfl rfl rfl ?_)|(refine ji ?_;first|(refine zq.app zx rfl rfl rfl rfl rfl rfl rfl rfl rfl rfl rfl ?_ ?_ (xU.of ?_ rfl) ?_;(focus (first | rfl |(simp <;> fail)));(focus (first | exact zS.of rfl | exact zS.map fun _=>rfl | exact PE.els _ (fun _=>rfl) _));(focus (first | omega |(simp;omega)))))|(refine zo ?_;first|(refine zq.ans (zk.zm zx rfl rfl rfl rfl) ?_))|(refine xk ?_;first|(refine zq.ans (zk.add rfl rfl ?_) ?_;(focus (constructor <;> omega))))|(refine xw ?_;first|(refine zq.ans (zk.idx zx rfl rfl rfl rfl rfl hgb rfl rfl) ?_))|(refine zy 34 ?_;first|(refine zq.ans (zk.ze rfl rfl rfl (Vr) (hE _)) ?_)))|(refine zH ?_;first|(refine WL.seq ?_)|(refine WL.region (by kernel_rfl) ?_)|(refine WL.block ?_)|(refine WL.skip ?_)|(refine zu ?_;first|(refine WL.zJ rfl ?_ ?_;(focus (first|(simp <;> omega))))))|(refine zw ?_)|(refine zQ ?_)
         refine qB.of (j+1) ?_ ?_ ?_ ?_
         · omega
         · omega
         · rw [ht2]
           exact ⟨rfl,rfl,by simp [lk],rfl,rfl,rfl,rfl,rfl,rfl,trivial⟩
         · rw [ht2]
           (simp [PE.v,PL.v,V.cells] <;> omega)
       · rw [List.take_of_length_le Qw]
         repeat' first|(refine zf ?_;first|(refine zq.nil ?_)|(refine zq.ev zx rfl ?_)|(refine xk ?_;first|(refine zq.ans (zk.add rfl rfl ?_) ?_;(focus (constructor <;> omega)))))|(refine zH ?_;first|(refine WL.seq ?_)|(refine WL.region (by kernel_rfl) ?_)|(refine WL.exit ?_)|(refine zu ?_;first|(refine WL.zY rfl ?_ ?_;(focus (first|(simp <;> omega))))))|(refine zw ?_)|(refine zC ?_)|(refine zQ ?_)|(refine zV ?_)|(refine zL ?_)
         refine qB.of (i+1) ?_ ?_ ?_ ?_
         · omega
         · omega
         · rw [ht]
           exact ⟨rfl,rfl,by simp [lk],rfl,rfl,rfl,trivial⟩
         · rw [ht]
           (simp [PE.v,V.cells] <;> omega)
     · rw [List.take_of_length_le hge]
       repeat' first|(refine zf ?_;first|(refine zq.nil ?_)|(refine zq.ev zx rfl ?_))|(refine zH ?_;first|(refine WL.seq ?_)|(refine WL.region (by kernel_rfl) ?_)|(refine WL.exit ?_)|(refine WL.ret ?_)|(refine zu ?_;first|(refine WL.zY rfl ?_ ?_;(focus (first|(simp <;> omega))))))|(refine zw ?_)|(refine zC ?_)|(refine zV ?_)|(refine zL ?_)|(refine zh.r1 (r := .tmp 4) (.inl rfl) (zn.tmp rfl) ?_)
       have hfin:=Own2.EC (s:=s) (f:=Bind.zF) (cs:=([]:List Bind)++kk++e.sub.flatMap (PE.jW zT (u+1))) (k:=1) 3 (xs := .var e.v.cells :: .fam (([]:List Bind)++kk++e.sub.flatMap (PE.jW zT (u+1))).length 3::[]) rfl rfl (fun _=>rfl) (fun _=>rfl)
       unfold binds
       rw [← List.append_assoc]
       exact hfin
end Go.Proofs.YtolhegocbkckdaaGreat
