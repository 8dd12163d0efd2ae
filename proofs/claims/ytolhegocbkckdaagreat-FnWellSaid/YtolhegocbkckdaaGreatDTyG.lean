/-
 The types of plans, of the program. Own work; no condition.
-/
import Derived.Test.YtolhegocbkckdaaGreatDTyE
namespace Go.Proofs.YtolhegocbkckdaaGreat
open Go
set_option linter.unusedSimpArgs false
set_option linter.unusedVariables false
set_option maxHeartbeats 2000000 in
theorem fA (c:jy) (p:PL) (hc:c.wt≤1048576) (hw:qV p.v≤1048576) (ih:∀ k∈p.parts,FK Tryz.prog 23 c k):FJ Tryz.prog 7 c p:=by
 intro env hb hr s
 rw [PE.Kz]
 have hpw:∀ k∈p.parts,1+qV k.v≤qV p.v:=fun k hk=>by
   obtain ⟨i,hi,rfl⟩:=List.getElem_of_mem hk
   exact Nat.le_trans (dX (f:=fun k=>1+qV (PE.v k)) hi) (PL.vO p)
 have EL:=PL.QT p
 have hpl:=PL.vV p
 have O6:p.tables.length≤1048576:=by
   have e:=PL.qC p
   have:=xW iV p.tables
   omega
 have hR0:=fun t=>bq c p.tables hc O6 t
 cases hall:p.tables.all (wB c)
 · have e0 : jU c p.tables = ([], false) := by simp [jU, hall]
   have hok:p.ok c=false:=by simp [PL.ok,hall]
   rw [e0] at hR0
   rw [hok]
   simp only [Bool.false_eq_true,if_false]
   refine zi.pure Tryz.func7 rfl (by kernel_rfl) (by simp) ?_
   repeat' first|(refine zf ?_;first|(refine zq.nil ?_)|(refine kG ?_;first|(refine zq.gF rfl rfl rfl ?_))|(refine zq.ev zx rfl ?_)|(refine qW ?_;refine zq.box rfl rfl rfl rfl ?_)|(refine zo ?_;first|(refine zq.ans (zk.zm zx rfl rfl rfl rfl) ?_))|(refine zy 14 ?_;first|(refine zq.ans (zk.ze rfl rfl rfl (Y1) (hR0 _)) ?_)))|(refine zH ?_;first|(refine WL.seq ?_)|(refine WL.region (by kernel_rfl) ?_)|(refine WL.ret ?_)|(refine zu ?_;first|(refine WL.qb rfl ?_)))|(refine zw ?_)|(refine zZ ?_)|(refine zh.r2 (r := .tmp 6) (r' := .tmp 7) (.inl rfl) (zn.tmp rfl) (zn.tmp rfl) ?_)|(refine zX.mk ?_)
   rfl
 have e0:jU c p.tables=(rowsOf c p.tables,true):=by simp [jU,hall]
 rw [e0] at hR0
 have hF:=fun t=>oJ p hw t
 cases hform:p.form <;> rw [hform] at hF
 · have hok : p.ok c = false := by simp [PL.ok, hform]
   rw [hok]
   simp only [Bool.false_eq_true,if_false]
   refine zi.pure Tryz.func7 rfl (by kernel_rfl) (by simp) ?_
   repeat' first|(refine zf ?_;first|(refine zq.nil ?_)|(refine kG ?_;first|(refine zq.gT rfl rfl rfl ?_))|(refine zq.ev zx rfl ?_)|(refine qW ?_;refine zq.box rfl rfl rfl rfl ?_)|(refine zo ?_;first|(refine zq.ans (zk.zm zx rfl rfl rfl rfl) ?_))|(refine zy 14 ?_;first|(refine zq.ans (zk.ze rfl rfl rfl (Y1) (hR0 _)) ?_))|(refine zy 20 ?_;first|(refine zq.ans (zk.ze rfl rfl rfl (G7) (hF _)) ?_)))|(refine zH ?_;first|(refine WL.seq ?_)|(refine WL.region (by kernel_rfl) ?_)|(refine WL.ret ?_)|(refine zu ?_;first|(refine WL.qb rfl ?_)))|(refine zw ?_)|(refine zZ ?_)|(refine zh.r2 (r := .tmp 6) (r' := .tmp 7) (.inl rfl) (zn.tmp rfl) (zn.tmp rfl) ?_)|(refine zX.mk ?_)
   rfl
 have hok:p.ok c=true:=by simp [PL.ok,hform,hall]
 rw [hok]
 simp only [if_true]
 simp only [PL.form,Bool.and_eq_true,decide_eq_true_eq] at hform
 obtain ⟨⟨f1,f2,f3,f4,f5,f6,f7,f8,f9,f10⟩,f11,f12⟩:=hform
 have hrow:∀ ts,(∀ k∈ts,k∈p.tables)→ts.length≤3→jU c ts=(rowsOf c ts,true)∧(rowsOf c ts).length≤3145728:=fun ts h1 h2=>by
   refine ⟨?_,?_⟩
   · have:ts.all (wB c)=true:=by
       rw [List.all_eq_true] at hall ⊢
       exact fun k hk=>hall k (h1 k hk)
     simp only [jU,this,if_true]
   · have := aP c hc ts
     omega
 obtain ⟨_,l0⟩:=hrow p.tables (fun _ h=>h) f2
 generalize rowsOf c p.tables=R0 at hR0 l0 ⊢
 refine zi.pure Tryz.func7 rfl (by kernel_rfl) (by simp) ?_
 repeat' first|(refine zf ?_;first|(refine zq.nil ?_)|(refine kG ?_;first|(refine zq.gT rfl rfl rfl ?_))|(refine zq.ev zx rfl ?_)|(refine qW ?_;refine zq.box rfl rfl rfl rfl ?_)|(refine zo ?_;first|(refine zq.ans (zk.zm zx rfl rfl rfl rfl) ?_))|(refine qx ?_;first|(refine zq.ans (zk.z8 zx rfl rfl rfl) ?_))|(refine zy 14 ?_;first|(refine zq.ans (zk.ze rfl rfl rfl (Y1) (hR0 _)) ?_))|(refine zy 20 ?_;first|(refine zq.ans (zk.ze rfl rfl rfl (G7) (hF _)) ?_)))|(refine zH ?_;first|(refine WL.seq ?_)|(refine WL.region (by kernel_rfl) ?_)|(refine WL.block ?_)|(refine WL.skip ?_)|(refine zu ?_;first|(refine WL.qQ rfl ?_)))|(refine zw ?_)
 refine WL.xK (fun i:Nat=>p.on.length - i) (fun i=>[(1,jH env),(3,.ptr (s.next+0) 0),(5,.ptr (s.next+1) 0),(8,ints R0),(39,.sl 0 (p.on.map PE.vS)),(40,.int .i64 p.on.length),(41,.int .i64 (i:Int))]) (fun i=>[.var [.sl 0 (c.tables.map Tab.zF)],.var p.v.cells])
   (fun i=>i≤p.on.length∧PE.oh c env p.tables 1 p.on=PE.oh c env p.tables (1+i) (p.on.drop i)) 2 0 ⟨by simp,by simp⟩ (fun _=>rfl) ⟨rfl,rfl,rfl,rfl,rfl,rfl,rfl,trivial⟩ rfl (fun i hi=>?_) (fun i hi=>?_)
 · simp [qF,qG,Own.under,V.under,V.zO,PL.v,V.cells,jH,ints]
 obtain ⟨hi,hc1⟩:=hi
 rcases Nat.lt_or_ge i p.on.length with hlt | hge
 · have hga : (p.on.map PE.vS)[i]? = some (PE.vS p.on[i]) := by rw [List.getElem?_map, List.getElem?_eq_getElem hlt]; rfl
   rw [List.drop_eq_getElem_cons hlt,PE.oh] at hc1
   have hmem:∀ k∈p.on[i],k∈p.parts:=fun k hk=>qZ.Zm (List.getElem_mem hlt) hk
   have hsl:i+1≤(p.tables.map iV).length:=by rw [List.length_map];omega
   obtain ⟨e1,l1⟩:=hrow (p.tables.take (i+1)) (fun _ h=>List.mem_of_mem_take h) (by rw [List.length_take];omega)
   rw [Nat.add_comm i 1] at e1 l1
   have EO:∀ t,VCalls Tryz.prog 14 [c.zF,.sl 0 ((p.tables.map iV).take (i+1))] t (fun v t'=>v=Zr (rowsOf c (p.tables.take (1+i)),true)∧t'=t):=fun t=>by
     rw [← List.map_take,Nat.add_comm i 1]
     have:=bq c (p.tables.take (1+i)) hc (by rw [List.length_take];omega) t
     rw [e1] at this
     exact this
   have hol:=Yf hlt
   generalize rowsOf c (p.tables.take (1+i))=R at hc1 EO l1
   have hX:=fun t=>lD R env (by omega) t
   have hG:=fun t=>fU c p.on[i] (R::env) (by omega) (fun k hk=>by have:=hpw k (hmem k hk);simp only [List.length_cons];omega) (hr.cons (by omega)) (fun k hk=>ih k (hmem k hk)) t
   generalize p.on[i]=l at hga hc1 hG
   cases hb1:PE.Jt c (R::env) l <;> rw [hb1] at hG hc1
   · rw [Bool.false_and] at hc1
     simp only [hc1,Bool.false_eq_true,if_false]
     repeat' first|(refine zf ?_;first|(refine zq.nil ?_)|(refine zq.ev zx rfl ?_)|(refine xw ?_;first|(refine zq.ans (zk.idx zx rfl rfl rfl rfl rfl hga rfl rfl) ?_)))|(refine zH ?_;first|(refine WL.seq ?_)|(refine WL.region (by kernel_rfl) ?_)|(refine WL.drawn (id:=7) [0,1,2,3,4,5,6,7,8,9,10,11] [] [[],[],[1],[],[3],[1,2,3,4],[0,1,2,3,4,5],[0,1,2,3,4,5,6],[0,1,2,3,4,5,6,7],[0,1,2,3,4,5,6,7],[0,1,2,3,4,5,6,7,8],[0,1,2,3,4,5,6,7,8,9,10]] (by kernel_rfl) (by kernel_rfl) ?_)|(refine WL.drawn (id:=8) [0,1,2,3,4,5,6] [] [[],[],[],[1,2],[],[0,1,2,3,4],[0,1,2,3,4,5]] (by kernel_rfl) (by kernel_rfl) ?_)|(refine WL.block ?_)|(refine WL.skip ?_)|(refine WL.ret ?_)|(refine zu ?_;first|(refine WL.qb rfl ?_)|(refine WL.zJ rfl ?_ ?_;(focus (first|(simp <;> omega))))))|(refine vN ?_;first|(refine zA.nil ?_)|(refine zA.fl rfl rfl (.ev zx rfl) ?_)|(refine qo rfl ?_;first|(refine zA.fl rfl rfl (zk.zm zx rfl rfl rfl rfl) ?_))|(refine yj rfl ?_;first|(refine zA.fl rfl rfl (zk.add rfl rfl ?_) ?_;(focus (constructor <;> omega))))|(refine Wh rfl ?_;first|(refine zA.fl rfl rfl (zk.Bt (n:=i+1) zx rfl rfl rfl rfl rfl hsl) ?_))|(refine qX 14 rfl ?_;first|(refine zA.fl rfl rfl (zk.ze rfl rfl rfl (Y1) (EO _)) ?_))|(refine qX 21 rfl ?_;first|(refine zA.fl rfl rfl (zk.ze rfl rfl rfl (BF) (hG _)) ?_))|(refine qX 22 rfl ?_;first|(refine zA.fl rfl rfl (zk.ze rfl rfl rfl (BG) (hX _)) ?_)))|(refine zw ?_)|(refine zZ ?_)|(refine zB ?_)|(refine qH ?_)|(refine zh.r2 (r := .tmp 6) (r' := .tmp 7) (.inl rfl) (zn.tmp rfl) (zn.tmp rfl) ?_)|(refine zX.mk ?_)
     rfl
   · rw [Bool.true_and] at hc1
     repeat' first|(refine zf ?_;first|(refine zq.nil ?_)|(refine zq.ev zx rfl ?_)|(refine xk ?_;first|(refine zq.ans (zk.add rfl rfl ?_) ?_;(focus (constructor <;> omega))))|(refine xw ?_;first|(refine zq.ans (zk.idx zx rfl rfl rfl rfl rfl hga rfl rfl) ?_)))|(refine zH ?_;first|(refine WL.seq ?_)|(refine WL.region (by kernel_rfl) ?_)|(refine WL.drawn (id:=7) [0,1,2,3,4,5,6,7,8,9,10,11] [] [[],[],[1],[],[3],[1,2,3,4],[0,1,2,3,4,5],[0,1,2,3,4,5,6],[0,1,2,3,4,5,6,7],[0,1,2,3,4,5,6,7],[0,1,2,3,4,5,6,7,8],[0,1,2,3,4,5,6,7,8,9,10]] (by kernel_rfl) (by kernel_rfl) ?_)|(refine WL.drawn (id:=8) [0,1,2,3,4,5,6] [] [[],[],[],[1,2],[],[0,1,2,3,4],[0,1,2,3,4,5]] (by kernel_rfl) (by kernel_rfl) ?_)|(refine WL.block ?_)|(refine WL.skip ?_)|(refine zu ?_;first|(refine WL.qQ rfl ?_)|(refine WL.zJ rfl ?_ ?_;(focus (first|(simp <;> omega))))))|(refine vN ?_;first|(refine zA.nil ?_)|(refine zA.fl rfl rfl (.ev zx rfl) ?_)|(refine qo rfl ?_;first|(refine zA.fl rfl rfl (zk.zm zx rfl rfl rfl rfl) ?_))|(refine yj rfl ?_;first|(refine zA.fl rfl rfl (zk.add rfl rfl ?_) ?_;(focus (constructor <;> omega))))|(refine Wh rfl ?_;first|(refine zA.fl rfl rfl (zk.Bt (n:=i+1) zx rfl rfl rfl rfl rfl hsl) ?_))|(refine qX 14 rfl ?_;first|(refine zA.fl rfl rfl (zk.ze rfl rfl rfl (Y1) (EO _)) ?_))|(refine qX 21 rfl ?_;first|(refine zA.fl rfl rfl (zk.ze rfl rfl rfl (BF) (hG _)) ?_))|(refine qX 22 rfl ?_;first|(refine zA.fl rfl rfl (zk.ze rfl rfl rfl (BG) (hX _)) ?_)))|(refine zw ?_)|(refine zQ ?_)
     all_goals
       refine qB.of (i+1) ?_ ?_ ?_ ?_
       · first | omega |(refine ⟨?_,?_⟩;(focus (first | omega |(simp;omega)));(first | omega |(simp_all [hc1] <;> fail)|(simp_all [hc1];omega)))|(simp_all [hc1] <;> fail)|(simp_all [hc1];omega)
       · first | omega |(simp;omega) | simp_all
       · repeat' first
           | exact qz.nil
           |(refine qz.mk rfl ?_ ?_)
           | rfl
           |(simp [hc1] <;> fail)
           |(simp [hc1];omega)
       · first | rfl |(simp [hc1] <;> fail)|(simp [hc1];omega)
 rw [List.drop_of_length_le hge,PE.oh] at hc1
 simp only [hc1,if_true]
 have hX:=fun t=>lD R0 env (by omega) t
 have hr1:bM (R0::env):=hr.cons (by omega)
 have hb1:∀ k∈p.parts,(R0::env).length+qV k.v≤8388608:=fun k hk=>by have:=hpw k hk;simp only [List.length_cons];omega
 have hG:=fun t=>fU c p.xO (R0::env) (by omega) (fun k hk=>hb1 k (qZ.aL hk)) hr1 (fun k hk=>ih k (qZ.aL hk)) t
 generalize hen:R0::env=wO at hX hG hr1 hb1 ⊢
 cases hb2:PE.Jt c wO p.xO <;> rw [hb2] at hG
 · simp only [Bool.false_eq_true, if_false]
   repeat' first|(refine zf ?_;first|(refine zq.nil ?_)|(refine zq.ev zx rfl ?_)|(refine zo ?_;first|(refine zq.ans (zk.zm zx rfl rfl rfl rfl) ?_))|(refine zy 21 ?_;first|(refine zq.ans (zk.ze rfl rfl rfl (BF) (hG _)) ?_))|(refine zy 22 ?_;first|(refine zq.ans (zk.ze rfl rfl rfl (BG) (hX _)) ?_)))|(refine zH ?_;first|(refine WL.seq ?_)|(refine WL.region (by kernel_rfl) ?_)|(refine WL.exit ?_)|(refine WL.ret ?_)|(refine zu ?_;first|(refine WL.qb rfl ?_)|(refine WL.zY rfl ?_ ?_;(focus (first|(simp <;> omega))))))|(refine zw ?_)|(refine zZ ?_)|(refine zC ?_)|(refine zV ?_)|(refine zL ?_)|(refine zh.r2 (r := .tmp 6) (r' := .tmp 7) (.inl rfl) (zn.tmp rfl) (zn.tmp rfl) ?_)|(refine zX.mk ?_)
   rfl
 simp only [if_true]
 repeat' first|(refine zf ?_;first|(refine zq.nil ?_)|(refine zq.ev zx rfl ?_)|(refine zo ?_;first|(refine zq.ans (zk.zm zx rfl rfl rfl rfl) ?_))|(refine qx ?_;first|(refine zq.ans (zk.z8 zx rfl rfl rfl) ?_))|(refine zy 21 ?_;first|(refine zq.ans (zk.ze rfl rfl rfl (BF) (hG _)) ?_))|(refine zy 22 ?_;first|(refine zq.ans (zk.ze rfl rfl rfl (BG) (hX _)) ?_)))|(refine zH ?_;first|(refine WL.seq ?_)|(refine WL.region (by kernel_rfl) ?_)|(refine WL.block ?_)|(refine WL.exit ?_)|(refine WL.skip ?_)|(refine zu ?_;first|(refine WL.qQ rfl ?_)|(refine WL.zY rfl ?_ ?_;(focus (first|(simp <;> omega))))))|(refine zw ?_)|(refine zC ?_)|(refine zV ?_)|(refine zL ?_)
 refine WL.xK (fun i:Nat=>p.order.length - i) (fun i=>[(14,jH wO),(3,.ptr (s.next+0) 0),(5,.ptr (s.next+1) 0),(74,.sl 0 (p.order.map PE.sv)),(75,.int .i64 p.order.length),(76,.int .i64 (i:Int))]) (fun i=>[.var [.sl 0 (c.tables.map Tab.zF)],.var p.v.cells])
   (fun i=>i≤p.order.length∧(p.order.take i).all (Y9 c wO)=true) 2 0 ⟨by simp,by simp⟩ (fun _=>rfl) ⟨rfl,rfl,rfl,rfl,rfl,rfl,trivial⟩ rfl (fun i hi=>?_) (fun i hi=>?_)
 · simp [qF,qG,Own.under,V.under,V.zO,PL.v,V.cells,jH,ints]
 obtain ⟨hi,ha⟩:=hi
 rcases Nat.lt_or_ge i p.order.length with hlt | hge
 · have hga : (p.order.map PE.sv)[i]? = some (PE.sv p.order[i]) := by rw [List.getElem?_map, List.getElem?_eq_getElem hlt]; rfl
   have hmem:p.order[i].1∈p.parts:=qZ.dK (List.getElem_mem hlt)
   have hE:=ih _ hmem wO (hb1 _ hmem) hr1
   have hst:=uW (p:=Y9 c wO) hlt
   rw [ha,Bool.true_and] at hst
   have hno:=VP (p:=Y9 c wO) hlt
   generalize p.order[i]=x at hga hE hst hno
   cases ho:PE.ty c wO x.1 with
   | none =>
     rw [ho] at hE
     have hn2:PE.Y8 c wO p.order=false:=by rw [oV];exact hno (by simp only [Y9,ho];rfl)
     simp only [hn2,Bool.false_eq_true,if_false]
     repeat' first|(refine zf ?_;first|(refine zq.nil ?_)|(refine zU ?_;refine zq.qD zx rfl rfl rfl rfl rfl rfl rfl rfl rfl ?_)|(refine zq.ev zx rfl ?_)|(refine qj ?_;refine zq.alloc zx rfl rfl rfl rfl ?_)|(refine zo ?_;first|(refine zq.ans (zk.zm zx rfl rfl rfl rfl) ?_))|(refine xw ?_;first|(refine zq.ans (zk.idx zx rfl rfl rfl rfl rfl hga rfl rfl) ?_))|(refine zy 23 ?_;first|(refine zq.ans (zk.ze rfl rfl rfl (Ju) (hE _)) ?_)))|(refine zH ?_;first|(refine WL.seq ?_)|(refine WL.region (by kernel_rfl) ?_)|(refine WL.block ?_)|(refine WL.skip ?_)|(refine WL.ret ?_)|(refine zu ?_;first|(refine WL.qb rfl ?_)|(refine WL.zJ rfl ?_ ?_;(focus (first|(simp <;> omega))))))|(refine zw ?_)|(refine zZ ?_)|(refine zB ?_)|(refine qH ?_)|(refine zh.r2 (r := .tmp 6) (r' := .tmp 7) (.inl rfl) (zn.tmp rfl) (zn.tmp rfl) ?_)|(refine zX.mk ?_)
     rfl
   | some t =>
     rw [ho] at hE
     have hs:Y9 c wO x=true:=by simp only [Y9,ho];rfl
     rw [hs] at hst
     repeat' first|(refine zf ?_;first|(refine zq.nil ?_)|(refine zU ?_;refine zq.qD zx rfl rfl rfl rfl rfl rfl rfl rfl rfl ?_)|(refine zq.ev zx rfl ?_)|(refine qj ?_;refine zq.alloc zx rfl rfl rfl rfl ?_)|(refine zo ?_;first|(refine zq.ans (zk.zm zx rfl rfl rfl rfl) ?_))|(refine xk ?_;first|(refine zq.ans (zk.add rfl rfl ?_) ?_;(focus (constructor <;> omega))))|(refine xw ?_;first|(refine zq.ans (zk.idx zx rfl rfl rfl rfl rfl hga rfl rfl) ?_))|(refine zy 23 ?_;first|(refine zq.ans (zk.ze rfl rfl rfl (Ju) (hE _)) ?_)))|(refine zH ?_;first|(refine WL.seq ?_)|(refine WL.region (by kernel_rfl) ?_)|(refine WL.block ?_)|(refine WL.skip ?_)|(refine zu ?_;first|(refine WL.qQ rfl ?_)|(refine WL.zJ rfl ?_ ?_;(focus (first|(simp <;> omega))))))|(refine zw ?_)|(refine zQ ?_)
     all_goals
       refine qB.of (i+1) ?_ ?_ ?_ ?_
       · first | omega |(refine ⟨?_,?_⟩;(focus (first | omega |(simp;omega)));(first | omega |(simp_all [hst] <;> fail)|(simp_all [hst];omega)))|(simp_all [hst] <;> fail)|(simp_all [hst];omega)
       · first | omega |(simp;omega) | simp_all
       · repeat' first
           | exact qz.nil
           |(refine qz.mk rfl ?_ ?_)
           | rfl
           |(simp [hst] <;> fail)
           |(simp [hst];omega)
       · first | rfl |(simp [hst] <;> fail)|(simp [hst];omega)
 rw [List.take_of_length_le hge] at ha
 have hn2:PE.Y8 c wO p.order=true:=by rw [oV];exact ha
 simp only [hn2,if_true]
 repeat' first|(refine zf ?_;first|(refine zq.nil ?_)|(refine zq.ev zx rfl ?_)|(refine kZ ?_;first|(refine zq.uT zx rfl rfl rfl rfl rfl ?_))|(refine zo ?_;first|(refine zq.ans (zk.zm zx rfl rfl rfl rfl) ?_))|(refine qx ?_;first|(refine zq.ans (zk.z8 zx rfl rfl rfl) ?_)))|(refine zH ?_;first|(refine WL.seq ?_)|(refine WL.region (by kernel_rfl) ?_)|(refine WL.block ?_)|(refine WL.exit ?_)|(refine zu ?_;first|(refine WL.zY rfl ?_ ?_;(focus (first|(simp <;> omega))))))|(refine zw ?_)|(refine zC ?_)|(refine zV ?_)|(refine zL ?_)
 refine WL.mV (t:=19) 1 rfl rfl rfl rfl ?_
 refine WL.xK (fun x:Nat × List Int=>p.items.length - x.1) (fun x=>[(14,jH wO),(3,.ptr (s.next+0) 0),(5,.ptr (s.next+1) 0),(19,.sl (s.next+2) (x.2.map iV)),(93,.sl 0 (p.items.map PE.zF)),(94,.int .i64 p.items.length),(95,.int .i64 (x.1:Int))]) (fun x=>[.var [.sl 0 (c.tables.map Tab.zF)],.var p.v.cells,.fam x.2.length 1])
   (fun x=>x.1≤p.items.length∧PE.fE c wO (p.items.take x.1)=some x.2) 3 (0,[]) ⟨by simp,by simp [PE.fE]⟩ (fun _=>rfl) ⟨rfl,rfl,rfl,rfl,rfl,rfl,rfl,trivial⟩ rfl (fun i hi=>?_) (fun i hi=>?_)
 · simp [qF,qG,Own.under,V.under,V.zO,PL.v,V.cells,jH,ints]
 obtain ⟨i,ts⟩:=i
 obtain ⟨hi,ht⟩:=hi
 try dsimp only at hi ht ⊢
 have htl:=PE.iE c wO ht
 rw [List.length_take] at htl
 rcases Nat.lt_or_ge i p.items.length with hlt | hge
 · have hga : (p.items.map PE.zF)[i]? = some (PE.v p.items[i]) := by rw [List.getElem?_map, List.getElem?_eq_getElem hlt]; simp only [Option.map_some, PE.qK]
   have hmem:p.items[i]∈p.parts:=qZ.yS (List.getElem_mem hlt)
   have hE:=ih _ hmem wO (hb1 _ hmem) hr1
   have hn:=fun h=>PE.uf hlt ht h
   have hs:=fun t h=>PE.ug (t:=t) hlt ht h
   generalize p.items[i]=x at hga hE hn hs
   cases ho:PE.ty c wO x with
   | none =>
     rw [ho] at hE
     rw [hn ho]
     repeat' first|(refine zf ?_;first|(refine zq.nil ?_)|(refine zU ?_;refine zq.qD zx rfl rfl rfl rfl rfl rfl rfl rfl rfl ?_)|(refine zq.ev zx rfl ?_)|(refine qj ?_;refine zq.alloc zx rfl rfl rfl rfl ?_)|(refine zo ?_;first|(refine zq.ans (zk.zm zx rfl rfl rfl rfl) ?_))|(refine xw ?_;first|(refine zq.ans (zk.idx zx rfl rfl rfl rfl rfl hga rfl rfl) ?_))|(refine zy 23 ?_;first|(refine zq.ans (zk.ze rfl rfl rfl (Ju) (hE _)) ?_)))|(refine zH ?_;first|(refine WL.seq ?_)|(refine WL.region (by kernel_rfl) ?_)|(refine WL.block ?_)|(refine WL.skip ?_)|(refine WL.ret ?_)|(refine zu ?_;first|(refine WL.qb rfl ?_)|(refine WL.zJ rfl ?_ ?_;(focus (first|(simp <;> omega))))))|(refine zw ?_)|(refine zZ ?_)|(refine zB ?_)|(refine qH ?_)|(refine zh.r2 (r := .tmp 6) (r' := .tmp 7) (.inl rfl) (zn.tmp rfl) (zn.tmp rfl) ?_)|(refine zX.mk ?_)
     rfl
   | some t =>
     rw [ho] at hE
     have hs:=hs t ho
     repeat' first|(refine zf ?_;first|(refine zq.nil ?_)|(refine zU ?_;refine zq.qD zx rfl rfl rfl rfl rfl rfl rfl rfl rfl ?_)|(refine zq.ev zx rfl ?_)|(refine qj ?_;refine zq.alloc zx rfl rfl rfl rfl ?_)|(refine kZ ?_;first|(refine zq.Kl zx rfl rfl rfl rfl rfl rfl rfl rfl rfl rfl rfl ?_))|(refine ji ?_;first|(refine zq.app zx rfl rfl rfl rfl rfl rfl rfl rfl rfl rfl rfl ?_ ?_ (xU.of ?_ rfl) ?_;(focus (first | rfl |(simp <;> fail)));(focus (first | exact zS.of rfl | exact zS.map fun _=>rfl | exact PE.els _ (fun _=>rfl) _));(focus (first | omega |(simp;omega)))))|(refine zo ?_;first|(refine zq.ans (zk.zm zx rfl rfl rfl rfl) ?_))|(refine xk ?_;first|(refine zq.ans (zk.add rfl rfl ?_) ?_;(focus (constructor <;> omega))))|(refine xw ?_;first|(refine zq.ans (zk.idx zx rfl rfl rfl rfl rfl hga rfl rfl) ?_))|(refine zy 23 ?_;first|(refine zq.ans (zk.ze rfl rfl rfl (Ju) (hE _)) ?_)))|(refine zH ?_;first|(refine WL.seq ?_)|(refine WL.region (by kernel_rfl) ?_)|(refine WL.block ?_)|(refine WL.skip ?_)|(refine zu ?_;first|(refine WL.qQ rfl ?_)|(refine WL.zJ rfl ?_ ?_;(focus (first|(simp <;> omega))))))|(refine zw ?_)|(refine zQ ?_)
     refine qB.of (i+1,ts++[t]) ⟨hlt,hs⟩ (by show p.items.length - (i+1)<p.items.length - i;omega) ?_ ?_
     · rw [List.map_append]
       repeat' first | exact qz.nil |(refine qz.mk rfl ?_ ?_) | rfl |(simp <;> fail)|(simp;omega)
     · simp [PL.v,V.cells]
 · rw [List.take_of_length_le hge] at ht
   rw [ht]
   repeat' first|(refine zf ?_;first|(refine zq.nil ?_)|(refine zq.ev zx rfl ?_))|(refine zH ?_;first|(refine WL.seq ?_)|(refine WL.region (by kernel_rfl) ?_)|(refine WL.exit ?_)|(refine WL.ret ?_)|(refine zu ?_;first|(refine WL.zY rfl ?_ ?_;(focus (first|(simp <;> omega))))))|(refine zw ?_)|(refine zC ?_)|(refine zV ?_)|(refine zL ?_)|(refine zh.r2 (r := .tmp 6) (r' := .tmp 7) (.inl rfl) (zn.tmp rfl) (zn.tmp rfl) ?_)|(refine zX.mk ?_)
   simp [iw,ints,V.forget,V.qE]
end Go.Proofs.YtolhegocbkckdaaGreat
