/-
 Lifting of a plan's tree in place, by the reference. Own work; no condition.
-/
import Derived.Test.YtolhegocbkckdaaMg48
import Derived.Test.YtolhegocbkckdaaMg35
namespace Go.Proofs.Ytolhegocbkckdaa
open Go
set_option linter.unusedSimpArgs false
set_option linter.unusedVariables false
theorem AnsL.lenTM {P:Program} {L:Kn} {s:S} {tt:BT} (ht:tt.ok P) {α : Type} {f : α → V} {zs:List α} {T e:TypeId} {t:Ty} {x:Operand} {n:Nat} {v:V} (hx:opd L x=some v) (hv:v=(thw n (.sl 0 (zs.map f))).1) (hT:tt.get T=some t) (hkd:t.kd = .slice e):AnsL P (.call ⟨.builtin .len, #[x], #[T]⟩) L s (.int .i64 zs.length):=by
 have:=AnsL.lenT (s:=s) ht hx hv hT hkd
 rwa [List.length_map] at this
theorem PL.map_cv (g:PE→PE) (p:PL) (h:∀ k∈p.parts,cv (g k).v=cv k.v):cv (PL.map g p).v=cv p.v:=by
 have sl:∀ {α : Type} (f : α → V) (F : α → α) (l:List α),(∀ x∈l,cv (f (F x))=cv (f x))→cv (.sl 0 ((l.map F).map f))=cv (.sl 0 (l.map f)):=fun f F l hl=>by
   have:=cvL_mapE l hl
   rw [List.map_map]
   cases l with
   | nil=>rfl
   | cons x l=>simp only [cv,List.map_cons,List.isEmpty_cons] at this ⊢;simp only [Function.comp_def,this]
 have a1:=sl PE.vS (List.map g) p.on fun l hl=>sl PE.toV g l fun x hx=>by rw [PE.toV_eq,PE.toV_eq];exact h x (PlanOf.mem_on hl hx)
 have a2:=sl PE.toV g p.wher fun x hx=>by rw [PE.toV_eq,PE.toV_eq];exact h x (PlanOf.mem_wher hx)
 have hsv:∀ x:PE × Bool,cv (PE.sv x)=cv x.1.v:=fun x=>by simp only [PE.sv,PE.v,cv,cvL]
 have a3:=sl PE.sv (fun x=>(g x.1,x.2)) p.order fun x hx=>by rw [hsv,hsv];exact h x.1 (PlanOf.mem_order hx)
 have a4:=sl PE.toV g p.items fun x hx=>by rw [PE.toV_eq,PE.toV_eq];exact h x (PlanOf.mem_items hx)
 simp only [PL.v,PL.map,cv,cvL] at a1 a2 a3 a4 ⊢
 omega
theorem PE.cv_v (e:PE):cv e.v=cv (.sl 0 (e.kids.map PE.toV))+cv (.sl 0 (e.sub.map PE.planV)):=by simp only [PE.v,cv,cvL];omega
theorem PE.lf_cv (b:Int) (x:PE):∀ u,cv (x.lf b u).v=cv x.v:=by
 have sl:∀ {α : Type} (f : α → V) (F : α → α) (l:List α),(∀ x∈l,cv (f (F x))=cv (f x))→cv (.sl 0 ((l.map F).map f))=cv (.sl 0 (l.map f)):=fun f F l hl=>by
   have:=cvL_mapE l hl
   rw [List.map_map]
   cases l with
   | nil=>rfl
   | cons x l=>simp only [cv,List.map_cons,List.isEmpty_cons] at this ⊢;simp only [Function.comp_def,this]
 induction x using PE.ind with
 | h e ih1 ih2 =>
   intro u
   have a1:=sl PE.toV (PE.lf b u) e.kids fun x hx=>by rw [PE.toV_eq,PE.toV_eq];exact ih1 x hx u
   have a2:=sl PE.planV (PL.map (PE.lf b (u+1))) e.sub fun p hp=>by rw [PE.planV_eq,PE.planV_eq];exact PL.map_cv _ p fun k hk=>ih2 p hp k hk (u+1)
   have a4:cv (e.lf b u).v=cv (.sl 0 ((e.kids.map (PE.lf b u)).map PE.toV))+cv (.sl 0 ((e.sub.map (PL.map (PE.lf b (u+1)))).map PE.planV)):=by
     rw [PE.lf_eq]
     exact PE.cv_v _
   rw [a4,a1,a2,PE.cv_v]
theorem PE.thw_2 (n:Nat) (e:PE):(thw n e.v).2=(thw n (.sl 0 (e.kids.map PE.toV))).2++(thw (n+cv (.sl 0 (e.kids.map PE.toV))) (.sl 0 (e.sub.map PE.planV))).2:=by
 simp only [PE.v,thw_agg,thwL_nil,thwL_int,thwL_str,thwL_bool,thwL_sl,List.append_nil,List.nil_append]
theorem Hold.splitPE {s:S} {H:List BE} {b n:Nat} {e:PE} (h:Hold s b (.blk n e.v::H)):Hold s b (.blk n (.sl 0 (e.kids.map PE.toV)) :: .blk (n+cv (.sl 0 (e.kids.map PE.toV))) (.sl 0 (e.sub.map PE.planV))::H) :=
 h.split (PE.cv_v e) (PE.thw_2 n e) (plain_PExprS _) (plain_PlanS _)
theorem Hold.joinPE {s:S} {H:List BE} {b n m:Nat} {e:PE} (h:Hold s b (.blk n (.sl 0 (e.kids.map PE.toV)) :: .blk m (.sl 0 (e.sub.map PE.planV))::H)) (hm:m=n+cv (.sl 0 (e.kids.map PE.toV))):Hold s b (.blk n e.v::H) :=
 h.join hm (PE.cv_v e) (PE.thw_2 n e) (PE.plainv e)
def liftA (b u:Int) (v:V):List V:=[v,.int .i64 b,.int .i64 u]
structure LfOk (b u:Int) (e:PE):Prop where
 b0:0≤b
 b1:b≤1000
 u0:0≤u
 u1:u+wgt e.v≤3000000
 w:wgt e.v≤1048576
 up:e.ups=true
set_option maxHeartbeats 4000000 in
theorem specLift_r (e:PE) (b u:Int) (ok:LfOk b u e) (ih1:∀ k∈e.kids,TurnF Try.prog 38 (liftA b u) k.v (k.lf b u).v) (ih2:∀ p∈e.sub,TurnF Try.prog 84 (liftA b (u+1)) p.v (PL.map (PE.lf b (u+1)) p).v):TurnF Try.prog 38 (liftA b u) e.v (e.lf b u).v:=by
 intro s H nb hh
 obtain ⟨ob0,ob1,ou0,ou1,ow,oup⟩:=ok
 obtain ⟨⟨hq1,hq2⟩,hk,hs⟩:=PE.ups_spec oup
 have hwe:=PE.wgt_eq2 e
 have l1:=wgt_len PE.toV e.kids
 have l2:=wgt_len PE.planV e.sub
 replace hh:=hh.splitPE
 have hv:(thw nb e.v).1 = .agg [.int .i64 e.kind,.int .i64 e.op,.bool e.nt,.int .i64 e.value.kind,.int .i64 e.value.num,.str e.value.text,.int .i64 e.up,.int .i64 e.pos,(thw nb (.sl 0 (e.kids.map PE.toV))).1,(thw (nb+cv (.sl 0 (e.kids.map PE.toV))) (.sl 0 (e.sub.map PE.planV))).1]:=PE.thw_v nb e
 unfold liftA
 rw [hv]
 generalize hns:nb+cv (.sl 0 (e.kids.map PE.toV))=ns at hh ⊢
 have hfin:∀ (t:S) (up':Int),up'=upBy b u e.kind e.up→Hold t t.next (.blk nb (.sl 0 ((e.kids.map (PE.lf b u)).map PE.toV)) :: .blk ns (.sl 0 ((e.sub.map (PL.map (PE.lf b (u+1)))).map PE.planV))::H)→∀ v,v=V.agg [.int .i64 e.kind,.int .i64 e.op,.bool e.nt,.int .i64 e.value.kind,.int .i64 e.value.num,.str e.value.text,.int .i64 up',.int .i64 e.pos,(thw nb (.sl 0 (e.kids.map PE.toV))).1,(thw ns (.sl 0 (e.sub.map PE.planV))).1] →
     ∃ s':S,v=(thw nb (e.lf b u).v).1∧t.ext []=s'.ext []∧Hold s' s'.next (.blk nb (e.lf b u).v::H):=by
   rintro t up' rfl ht v rfl
   have c1:cvL ((e.kids.map (PE.lf b u)).map PE.toV)=cvL (e.kids.map PE.toV):=by
     rw [List.map_map];exact cvL_mapE (f:=PE.toV) (F:=PE.lf b u) e.kids fun x _=>by rw [PE.toV_eq,PE.toV_eq];exact PE.lf_cv b x u
   have c2:cvL ((e.sub.map (PL.map (PE.lf b (u+1)))).map PE.planV)=cvL (e.sub.map PE.planV):=by
     rw [List.map_map];exact cvL_mapE (f:=PE.planV) (F:=PL.map (PE.lf b (u+1))) e.sub fun p _=>by rw [PE.planV_eq,PE.planV_eq];exact PL.map_cv _ p fun k _=>PE.lf_cv b k (u+1)
   have c3:cv (.sl 0 ((e.kids.map (PE.lf b u)).map PE.toV))=cv (.sl 0 (e.kids.map PE.toV)):=by
     simp only [cv,c1]
     cases e.kids <;> rfl
   have ev:(thw nb (e.lf b u).v).1 = .agg [.int .i64 e.kind,.int .i64 e.op,.bool e.nt,.int .i64 e.value.kind,.int .i64 e.value.num,.str e.value.text,.int .i64 (upBy b u e.kind e.up),.int .i64 e.pos,(thw nb (.sl 0 ((e.kids.map (PE.lf b u)).map PE.toV))).1,(thw (nb+cv (.sl 0 ((e.kids.map (PE.lf b u)).map PE.toV))) (.sl 0 ((e.sub.map (PL.map (PE.lf b (u+1)))).map PE.planV))).1]:=by
     rw [PE.lf_eq]
     exact PE.thw_v nb _
   refine ⟨t,?_,rfl,?_⟩
   · rw [ev,c3,hns,thw_slE (by simp) c1,thw_slE (by simp) c2]
   · have hk2:(e.lf b u).kids=e.kids.map (PE.lf b u):=by rw [PE.lf_eq];rfl
     have hs2:(e.lf b u).sub=e.sub.map (PL.map (PE.lf b (u+1))):=by rw [PE.lf_eq];rfl
     exact Hold.joinPE (e:=e.lf b u) (n:=nb) (m:=ns) (by rw [hk2,hs2];exact ht) (by rw [hk2,c3];exact hns.symm)
 refine LCalls.body0 Try.func38 rfl (by kernel_rfl) ?_
 have h3:(e.kind=2∧u≤e.up)∨(e.kind=2∧¬ u≤e.up)∨¬ e.kind=2:=by omega
 rcases h3 with ⟨c1,c2⟩ | ⟨c1,c2⟩ | c1
 case' inl =>
   have hup:e.up+b=upBy b u e.kind e.up:=by rw [upBy,if_pos ⟨c1,c2⟩]
   repeat' first |(refine kBox ?_ ;first |(refine LOps.boxH hh rfl rfl ?_ ;intro s n hh)) |(refine kAlloc ?_ ;refine LOps.allocH tT_ok hh rfl rfl ?_ ;intro s n hh) |(refine kStore ?_ ;first |(refine LOps.storeH tT_ok 1 hh rfl rfl rfl rfl rfl rfl rfl rfl rfl ?_ ;intro s hh)) |(refine kOps ?_;first |(refine LOps.nil ?_) |(refine kG ?_;first |(refine LOps.gT rfl rfl rfl ?_) |(refine LOps.gD true rfl rfl rfl ?_ ?_;(focus (first |(exact decide_eq_true (by assumption)))))) |(refine LOps.ev tT_ok rfl ?_) |(refine kLoad ?_;first |(refine LOps.ans (AnsL.loadH tT_ok 1 hh rfl rfl rfl rfl) ?_)) |(refine kBin ?_;first |(refine LOps.ans (AnsL.add rfl rfl ?_) ?_;(focus (constructor <;> omega))))) |(refine kWL ?_;first |(refine WL.seq ?_) |(refine WL.region (by kernel_rfl) ?_) |(refine WL.block ?_) |(refine kCond ?_;first |(refine WL.condT' rfl ?_ ?_;(focus (first |(exact decide_eq_true (by assumption))))))) |(refine lthen_n ?_)
   rename_i s1 nE hh1 s2 hh2
   generalize e.up+b=up' at hup hh
 case' inr.inl =>
   have hup:e.up=upBy b u e.kind e.up:=by rw [upBy,if_neg (by omega)]
   repeat' first |(refine kBox ?_ ;first |(refine LOps.boxH hh rfl rfl ?_ ;intro s n hh)) |(refine kAlloc ?_ ;refine LOps.allocH tT_ok hh rfl rfl ?_ ;intro s n hh) |(refine kOps ?_;first |(refine LOps.nil ?_) |(refine kG ?_;first |(refine LOps.gT rfl rfl rfl ?_) |(refine LOps.gD true rfl rfl rfl ?_ ?_;(focus (first |(exact decide_eq_true (by assumption)))))) |(refine LOps.ev tT_ok rfl ?_) |(refine kLoad ?_;first |(refine LOps.ans (AnsL.loadH tT_ok 1 hh rfl rfl rfl rfl) ?_))) |(refine kWL ?_;first |(refine WL.seq ?_) |(refine WL.region (by kernel_rfl) ?_) |(refine WL.block ?_) |(refine WL.skip ?_) |(refine kCond ?_;first |(refine WL.condF' rfl ?_ ?_;(focus (first |(exact decide_eq_false (by assumption))))))) |(refine lthen_n ?_)
   rename_i s1 nE hh1
   obtain ⟨up',hu'⟩:∃ x,x=e.up:=⟨_,rfl⟩
   rw [← hu'] at hh
   replace hup:=hu'.trans hup
 case' inr.inr =>
   have hup:e.up=upBy b u e.kind e.up:=by rw [upBy,if_neg (by omega)]
   repeat' first |(refine kBox ?_ ;first |(refine LOps.boxH hh rfl rfl ?_ ;intro s n hh)) |(refine kAlloc ?_ ;refine LOps.allocH tT_ok hh rfl rfl ?_ ;intro s n hh) |(refine kOps ?_;first |(refine LOps.nil ?_) |(refine kG ?_;first |(refine LOps.gF rfl rfl rfl ?_) |(refine LOps.gD false rfl rfl rfl ?_ ?_;(focus (first |(exact decide_eq_false (by assumption)))))) |(refine LOps.ev tT_ok rfl ?_) |(refine kLoad ?_;first |(refine LOps.ans (AnsL.loadH tT_ok 1 hh rfl rfl rfl rfl) ?_))) |(refine kWL ?_;first |(refine WL.seq ?_) |(refine WL.region (by kernel_rfl) ?_) |(refine WL.block ?_) |(refine WL.skip ?_) |(refine kCond ?_;first |(refine WL.condF rfl ?_))) |(refine lthen_n ?_)
   rename_i s1 nE hh1
   obtain ⟨up',hu'⟩:∃ x,x=e.up:=⟨_,rfl⟩
   rw [← hu'] at hh
   replace hup:=hu'.trans hup
 all_goals
   refine WL.loopTurn nb 10 e.kids PE.toV (PE.lf b u) (fun i=>[(1,.int .i64 b),(2,.int .i64 u),(3,.ptr nE 0),(6,.ptr n 0),(7,.int .i64 (i:Int))])
     (.cell nE [.int .i64 e.kind,.int .i64 e.op,.bool e.nt,.int .i64 e.value.kind,.int .i64 e.value.num,.str e.value.text,.int .i64 up',.int .i64 e.pos,(thw nb (.sl 0 (e.kids.map PE.toV))).1,(thw ns (.sl 0 (e.sub.map PE.planV))).1] ::
       .cell n [.int .i64 0,.int .i64 0,.bool false,.int .i64 0,.int .i64 0,.str [],.int .i64 0,.int .i64 0,.nilsl,.nilsl] :: .blk ns (.sl 0 (e.sub.map PE.planV))::H)
     PE.cells_len (fun x _=>by rw [PE.toV_eq,PE.toV_eq];exact PE.lf_cv b x u) PE.plain ⟨rfl,rfl,rfl,rfl,rfl,trivial⟩ hh (by (repeat' first |(exact Sel.nil) |(exact Sel.refl _) |(refine' Sel.p ?_ ?_;rotate_left 1;(focus (((repeat' first |(exact Pick.here) |(refine' Pick.there ?_));done)))))) (fun i hi s m m' A Z CA CZ hq hh=>?_) (fun s hh=>?_)
   · have hI:=ih1 e.kids[i] (List.getElem_mem hi)
     have hj:i<(e.kids.map PE.toV).length:=by rw [List.length_map];exact hi
     rw [PE.toV_eq] at hh
     rw [PE.toV_eq]
     generalize e.kids[i]=x at hh hI ⊢
     unfold liftA at hI
     repeat' first |(refine kCallN 38 ?_ ;refine LOps.turnH 1 rfl hI rfl ok38 hh rfl rfl ?_ ;intro s hh) |(refine kStore ?_ ;refine LOps.storeHE (q:=i*10) tT_ok 1 0 hh rfl rfl hq rfl rfl rfl rfl rfl ?_ rfl rfl rfl ?_ ;(focus (repeat' first | exact rfl |(refine ones_cons (thw_one _ _ _) ?_) |(refine ones_cons rfl ?_))) ;intro s hh) |(refine kOps ?_;first |(refine LOps.nil ?_) |(refine LOps.ev tT_ok rfl ?_) |(refine kLoad ?_;first |(refine LOps.ans (AnsL.loadH tT_ok 4 hh rfl rfl rfl rfl) ?_)) |(refine kLen ?_;first |(refine LOps.ans (AnsL.lenTM (n:=nb) (zs:=e.kids) (f:=PE.toV) tT_ok rfl rfl rfl rfl) ?_)) |(refine kBin ?_;first |(refine LOps.ans (AnsL.add rfl rfl ?_) ?_;(focus (constructor <;> omega))))) |(refine kWL ?_;first |(refine WL.seq ?_) |(refine WL.region (by kernel_rfl) ?_) |(refine WL.drawn (id:=6) [0,1,2,3,4,5,6,7,8,9,10,11,12] [10,12] [[],[0],[],[],[3],[],[3,4,5],[3,4,5,6],[],[],[3,4,5,6,7,8,9],[0,1,2,3,4,5,6,7,8,9,10],[0,1,2,3,4,5,6,7,8,9,10,11]] (by kernel_rfl) (by kernel_rfl) ?_) |(refine WL.block ?_) |(refine WL.skip ?_) |(refine kCond ?_;first |(refine WL.condT' rfl ?_ ?_;(focus (first |(simp <;> omega)))))) |(refine kDr ?_;first |(refine LDr.nil ?_) |(refine LDr.fl rfl rfl (.ev tT_ok rfl) ?_) |(refine kDLoad rfl ?_;first |(refine LDr.fl rfl rfl (AnsL.loadH tT_ok 4 hh rfl rfl rfl rfl) ?_) |(refine LDr.fl rfl rfl (AnsL.loadHE (q:=i*10) tT_ok 0 0 hh rfl rfl hq rfl rfl rfl rfl) ?_)) |(refine kDIdx rfl ?_;first |(refine LDr.fl rfl rfl (AnsL.idxT (n:=nb) (ds:=e.kids.map PE.toV) tT_ok rfl rfl rfl rfl rfl rfl hj) ?_)) |(refine LDr.eff rfl rfl rfl ?_)) |(refine lthen_n ?_) |(refine lblock_n ?_) |(refine And.intro ?_ ?_) |(exact StsL.nil) |(refine StsL.cons ?_ ?_) |(refine StL.fl rfl rfl (.ev tT_ok rfl)) |(refine StL.fl rfl rfl (AnsL.loadH tT_ok 4 hh rfl rfl rfl rfl))
     all_goals
       refine' CutH.of (()) ?_ hh ?_ ?_
       · repeat' first | exact SubL.nil |(refine SubL.mk rfl ?_ ?_) | rfl |(simp [] <;> fail) |(simp [];omega)
       · try dsimp only
         (repeat' first |(exact Sel.nil) |(exact Sel.refl _) |(refine' Sel.p ?_ ?_;rotate_left 1;(focus (((repeat' first |(exact Pick.here) |(refine' Pick.there ?_));done)))))
       · try dsimp only
         repeat' first | exact trivial | assumption | omega |(refine And.intro ?_ ?_) | rfl |(simp [] <;> fail)
   repeat' first |(refine lfin_e ?_) |(refine kOps ?_;first |(refine LOps.nil ?_) |(refine LOps.ev tT_ok rfl ?_) |(refine kLoad ?_;first |(refine LOps.ans (AnsL.loadH tT_ok 1 hh rfl rfl rfl rfl) ?_)) |(refine kLen ?_;first |(refine LOps.ans (AnsL.lenTM (n:=nb) (zs:=e.kids) (f:=PE.toV) tT_ok rfl rfl rfl rfl) ?_))) |(refine kWL ?_;first |(refine WL.seq ?_) |(refine WL.region (by kernel_rfl) ?_) |(refine WL.block ?_) |(refine WL.exit ?_) |(refine kCond ?_;first |(refine WL.condF' rfl ?_ ?_;(focus (first |(simp <;> omega)))))) |(refine lthen_n ?_) |(refine lthen_e ?_) |(refine lblock_e ?_)
   refine WL.loopTurn ns 8 e.sub PE.planV (PL.map (PE.lf b (u+1))) (fun i=>[(1,.int .i64 b),(2,.int .i64 u),(3,.ptr nE 0),(6,.ptr n 0),(8,.int .i64 (i:Int))])
     (.cell nE [.int .i64 e.kind,.int .i64 e.op,.bool e.nt,.int .i64 e.value.kind,.int .i64 e.value.num,.str e.value.text,.int .i64 up',.int .i64 e.pos,(thw nb (.sl 0 (e.kids.map PE.toV))).1,(thw ns (.sl 0 (e.sub.map PE.planV))).1] ::
       .cell n [.int .i64 0,.int .i64 0,.bool false,.int .i64 0,.int .i64 0,.str [],.int .i64 0,.int .i64 0,.nilsl,.nilsl] :: .blk nb (.sl 0 ((e.kids.map (PE.lf b u)).map PE.toV))::H)
     PE.planV_len (fun x _=>by rw [PE.planV_eq,PE.planV_eq];exact PL.map_cv _ x fun k _=>PE.lf_cv b k (u+1)) (fun x=>PE.planV_eq x ▸ PL.plain x) ⟨rfl,rfl,rfl,rfl,rfl,trivial⟩ hh (by (repeat' first |(exact Sel.nil) |(exact Sel.refl _) |(refine' Sel.p ?_ ?_;rotate_left 1;(focus (((repeat' first |(exact Pick.here) |(refine' Pick.there ?_));done)))))) (fun i hi s m m' A Z CA CZ hq hh=>?_) (fun s hh=>?_)
   · have hI:=ih2 e.sub[i] (List.getElem_mem hi)
     have hj:i<(e.sub.map PE.planV).length:=by rw [List.length_map];exact hi
     rw [PE.planV_eq] at hh
     rw [PE.planV_eq]
     generalize e.sub[i]=x at hh hI ⊢
     unfold liftA at hI
     repeat' first |(refine kCallN 84 ?_ ;refine LOps.turnH 1 rfl hI rfl ok84 hh rfl rfl ?_ ;intro s hh) |(refine kStore ?_ ;refine LOps.storeHE (q:=i*8) tT_ok 1 0 hh rfl rfl hq rfl rfl rfl rfl rfl ?_ rfl rfl rfl ?_ ;(focus (repeat' first | exact rfl |(refine ones_cons (thw_one _ _ _) ?_))) ;intro s hh) |(refine kOps ?_;first |(refine LOps.nil ?_) |(refine LOps.ev tT_ok rfl ?_) |(refine kLoad ?_;first |(refine LOps.ans (AnsL.loadH tT_ok 4 hh rfl rfl rfl rfl) ?_)) |(refine kLen ?_;first |(refine LOps.ans (AnsL.lenTM (n:=ns) (zs:=e.sub) (f:=PE.planV) tT_ok rfl rfl rfl rfl) ?_)) |(refine kBin ?_;first |(refine LOps.ans (AnsL.add rfl rfl ?_) ?_;(focus (constructor <;> omega))))) |(refine kWL ?_;first |(refine WL.seq ?_) |(refine WL.region (by kernel_rfl) ?_) |(refine WL.drawn (id:=10) [0,1,2,3,4,5,6,7,8,9,10,11,12,13] [11,13] [[],[0],[],[],[3],[],[3,4,5],[3,4,5,6],[],[],[9],[3,4,5,6,7,8,9,10],[0,1,2,3,4,5,6,7,8,9,10,11],[0,1,2,3,4,5,6,7,8,9,10,11,12]] (by kernel_rfl) (by kernel_rfl) ?_) |(refine WL.block ?_) |(refine WL.skip ?_) |(refine kCond ?_;first |(refine WL.condT' rfl ?_ ?_;(focus (first |(simp <;> omega)))))) |(refine kDr ?_;first |(refine LDr.nil ?_) |(refine LDr.fl rfl rfl (.ev tT_ok rfl) ?_) |(refine kDLoad rfl ?_;first |(refine LDr.fl rfl rfl (AnsL.loadH tT_ok 4 hh rfl rfl rfl rfl) ?_) |(refine LDr.fl rfl rfl (AnsL.loadHE (q:=i*8) tT_ok 0 0 hh rfl rfl hq rfl rfl rfl rfl) ?_)) |(refine kDBin rfl ?_;first |(refine LDr.fl rfl rfl (AnsL.add rfl rfl ?_) ?_;(focus (constructor <;> omega)))) |(refine kDIdx rfl ?_;first |(refine LDr.fl rfl rfl (AnsL.idxT (n:=ns) (ds:=e.sub.map PE.planV) tT_ok rfl rfl rfl rfl rfl rfl hj) ?_)) |(refine LDr.eff rfl rfl rfl ?_)) |(refine lthen_n ?_) |(refine lblock_n ?_) |(refine And.intro ?_ ?_) |(exact StsL.nil) |(refine StsL.cons ?_ ?_) |(refine StL.fl rfl rfl (.ev tT_ok rfl)) |(refine StL.fl rfl rfl (AnsL.loadH tT_ok 4 hh rfl rfl rfl rfl))
     all_goals
       refine' CutH.of (()) ?_ hh ?_ ?_
       · repeat' first | exact SubL.nil |(refine SubL.mk rfl ?_ ?_) | rfl |(simp [] <;> fail) |(simp [];omega)
       · try dsimp only
         (repeat' first |(exact Sel.nil) |(exact Sel.refl _) |(refine' Sel.p ?_ ?_;rotate_left 1;(focus (((repeat' first |(exact Pick.here) |(refine' Pick.there ?_));done)))))
       · try dsimp only
         repeat' first | exact trivial | assumption | omega |(refine And.intro ?_ ?_) | rfl |(simp [] <;> fail)
   repeat' first |(refine kStore ?_ ;first |(refine LOps.storeH tT_ok 2 hh rfl rfl rfl rfl rfl ?_ rfl rfl rfl ?_ ;(focus (repeat' first |(exact rfl) |(refine ones_cons (thw_one _ _ _) ?_) |(refine ones_cons rfl ?_))) ;intro s hh)) |(refine lfin_e ?_) |(refine kOps ?_;first |(refine LOps.nil ?_) |(refine LOps.ev tT_ok rfl ?_) |(refine kLoad ?_;first |(refine LOps.ans (AnsL.loadH tT_ok 1 hh rfl rfl rfl rfl) ?_)) |(refine kLen ?_;first |(refine LOps.ans (AnsL.lenTM (n:=ns) (zs:=e.sub) (f:=PE.planV) tT_ok rfl rfl rfl rfl) ?_))) |(refine kWL ?_;first |(refine WL.seq ?_) |(refine WL.region (by kernel_rfl) ?_) |(refine WL.exit ?_) |(refine WL.ret ?_) |(refine kCond ?_;first |(refine WL.condF' rfl ?_ ?_;(focus (first |(simp <;> omega)))))) |(refine lthen_n ?_) |(refine lthen_e ?_) |(refine lblock_e ?_) |(refine' LPost.r1 (r := .cell 6 29) (.inl rfl) ?_ ?_;rotate_left 1;(focus (first | exact Res1.cellH 0 tT_ok hh rfl rfl rfl rfl | exact Res1.cellH 1 tT_ok hh rfl rfl rfl rfl | exact Res1.cellH 2 tT_ok hh rfl rfl rfl rfl | exact Res1.cellH 3 tT_ok hh rfl rfl rfl rfl | exact Res1.cellH 4 tT_ok hh rfl rfl rfl rfl | exact Res1.cellH 5 tT_ok hh rfl rfl rfl rfl | exact Res1.cellH 6 tT_ok hh rfl rfl rfl rfl | exact Res1.cellH 7 tT_ok hh rfl rfl rfl rfl | exact Res1.cellHW 0 tT_ok hh rfl rfl rfl rfl | exact Res1.cellHW 1 tT_ok hh rfl rfl rfl rfl | exact Res1.cellHW 2 tT_ok hh rfl rfl rfl rfl | exact Res1.cellHW 3 tT_ok hh rfl rfl rfl rfl | exact Res1.cellHW 4 tT_ok hh rfl rfl rfl rfl | exact Res1.cellHW 5 tT_ok hh rfl rfl rfl rfl | exact Res1.cellHW 6 tT_ok hh rfl rfl rfl rfl | exact Res1.cellHW 7 tT_ok hh rfl rfl rfl rfl)))
   exact hfin _ up' hup (hh.sel (.cons 3 rfl rfl (.cons 0 rfl rfl (.drop (.drop (.refl _)))))) _ rfl
end Go.Proofs.Ytolhegocbkckdaa
