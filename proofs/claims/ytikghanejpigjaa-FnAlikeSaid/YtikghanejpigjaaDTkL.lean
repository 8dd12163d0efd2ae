/-
 How many tokens a query's tree has at most, by its weight. Own work; no condition.
-/
import Derived.Test.YtikghanejpigjaaDTk4
namespace Go.Proofs.Ytikghanejpigjaa
open Go
set_option linter.unusedSimpArgs false
set_option linter.unusedVariables false
theorem wgt_sum {α : Type} (f : α → V):∀ l:List α,wgt (.sl 0 (l.map f))=(l.map fun x=>wgt (f x)+1).sum
 | []=>rfl
 | x::l=>by
   have h:=wgt_sum f l
   simp only [List.map_cons,wgt,wgtL,List.length_cons,List.length_map,List.sum_cons] at h ⊢
   omega
theorem sum_le16 {α : Type} {g w : α → Nat}:∀ {l:List α},(∀ x∈l,g x≤16*(w x+1))→(l.map g).sum≤16*(l.map fun x=>w x+1).sum
 | [],_=>by simp
 | x::l,h=>by
   have h1:=h x (by simp)
   have h2:=sum_le16 (l:=l) fun y hy=>h y (by simp [hy])
   simp only [List.map_cons,List.sum_cons]
   omega
theorem getD_lt {α : Type} {l:List α} {n:Nat} {d : α} (h:n<l.length):l.getD n d=l[n]:=by simp [h]
theorem sepC_take (l:List (List Token)):∀ n,n≤l.length→(sepC l n).length≤((l.take n).map fun x=>x.length+1).sum
 | 0,_=>Nat.le_refl _
 | n+1,h=>by
   have ih:=sepC_take l n (by omega)
   rw [sepC_succ,List.take_succ_eq_append_getElem (by omega),getD_lt (by omega),List.map_append,List.sum_append]
   simp only [List.length_append,List.map_cons,List.map_nil,List.sum_cons,List.sum_nil]
   split <;> simp only [List.length_cons,List.length_nil] <;> omega
theorem sepC_len (l:List (List Token)) {n:Nat} (hn:n=l.length):(sepC l n).length≤(l.map fun x=>x.length+1).sum:=by
 subst hn
 have:=sepC_take l l.length (Nat.le_refl _)
 rwa [List.take_length] at this
theorem fromT_take (l:List (Bool × List Token)):∀ n,n≤l.length→(fromT l n).length≤((l.take n).map fun x=>x.2.length+1).sum
 | 0,_=>Nat.le_refl _
 | n+1,h=>by
   have ih:=fromT_take l n (by omega)
   rw [fromT_succ,List.take_succ_eq_append_getElem (by omega),getD_lt (by omega),List.map_append,List.sum_append]
   simp only [List.length_append,List.map_cons,List.map_nil,List.sum_cons,List.sum_nil]
   split <;> simp only [List.length_cons,List.length_nil] <;> omega
theorem fromT_len (l:List (Bool × List Token)):(fromT l l.length).length≤(l.map fun x=>x.2.length+1).sum:=by
 have:=fromT_take l l.length (Nat.le_refl _)
 rwa [List.take_length] at this
theorem ordT_take (l:List (List Token × Bool)):∀ n,n≤l.length→(ordT l n).length≤((l.take n).map fun x=>x.1.length+3).sum
 | 0,_=>Nat.le_refl _
 | n+1,h=>by
   have ih:=ordT_take l n (by omega)
   rw [ordT_succ,List.take_succ_eq_append_getElem (by omega),getD_lt (by omega),List.map_append,List.sum_append]
   simp only [List.length_append,List.map_cons,List.map_nil,List.sum_cons,List.sum_nil]
   split <;> split <;> simp only [List.length_cons,List.length_nil] <;> omega
theorem ordT_len (l:List (List Token × Bool)):(ordT l l.length).length≤(l.map fun x=>x.1.length+3).sum:=by
 have:=ordT_take l l.length (Nat.le_refl _)
 rwa [List.take_length] at this
theorem wrapT_len (all:Bool) (n:Int) (x:Int × List Token):(wrapT all n x).length≤x.2.length+2:=by
 unfold wrapT
 split <;> (try simp only [List.length_append,List.length_cons,List.length_nil]) <;> omega
theorem kidT_len (all:Bool) (kd op:Int) (ks:List (Int × List Token)) (k:Nat):(kidT all kd op ks k).length≤(ks.getD k (9,[])).2.length+2:=wrapT_len ..
theorem sum_range {α : Type} (h : α → Nat) (d : α):∀ l:List α,((List.range l.length).map fun j=>h (l.getD j d)).sum=(l.map h).sum
 | []=>rfl
 | x::l=>by
   rw [List.length_cons,List.range_succ_eq_map,List.map_cons,List.sum_cons,List.map_map]
   have:=sum_range h d l
   simp only [List.map_cons,List.sum_cons]
   rw [← this]
   rfl
theorem sum_mono {α : Type} {f g : α → Nat}:∀ {l:List α},(∀ x∈l,f x≤g x)→(l.map f).sum≤(l.map g).sum
 | [],_=>Nat.le_refl _
 | x::l,h=>by
   have h1:=h x (by simp)
   have h2:=sum_mono (l:=l) fun y hy=>h y (by simp [hy])
   simp only [List.map_cons,List.sum_cons]
   omega
theorem inT_len (all:Bool) (kd op:Int) (ks:List (Int × List Token)):(inT all kd op ks).length≤((ks.drop 1).map fun x=>x.2.length+3).sum:=by
 unfold inT
 have hl:(ks.drop 1).length=ks.length - 1:=List.length_drop ..
 refine Nat.le_trans (sepC_len _ (by simp)) ?_
 rw [List.map_map, ← sum_range _ (9,[]) (ks.drop 1),hl]
 refine sum_mono fun j hj=>?_
 have h1:=kidT_len all kd op ks (j+1)
 have h2:(ks.drop 1).getD j (9,[])=ks.getD (j+1) (9,[]):=by simp [List.getD_eq_getElem?_getD,Nat.add_comm]
 show (kidT all kd op ks (j+1)).length+1≤_
 rw [h2]
 omega
theorem qualT_len (q:List UInt8):(qualT q).length≤2:=by unfold qualT;split <;> simp
theorem asT_len (q:List UInt8):(asT q).length≤2:=by unfold asT;split <;> simp
theorem notT_len (q:Bool):(notT q).length≤1:=by unfold notT;split <;> simp
theorem limT_len (q:Int):(limT q).length≤2:=by unfold limT;split <;> simp
theorem tkQ_len (all:Bool) (q:EQ) (h:∀ k∈q.parts,(k.tk all).length≤16*wgt k.v+12):(EE.tkQ all q).length≤16*wgt q.v+8:=by
 rw [EE.tkQ_eq,asmQ,EQ.wgt_eq]
 have i1:=sepC_len (q.items.map fun x=>itemT x.star x.qual x.als (x.e.tk all)) (n:=q.items.length) (by simp)
 have i2:(q.items.map fun x=>(itemT x.star x.qual x.als (x.e.tk all)).length+1).sum≤16*(q.items.map fun x=>wgt (EItem.v x)+1).sum:=sum_le16 fun x hx=>by
   have h1:=h _ (QueryOf.mem_items hx)
   have h2:=EItem.wgt_eq x
   have h3:=qualT_len x.qual
   have h4:=asT_len x.als
   unfold itemT
   split <;> simp only [List.length_append,List.length_cons,List.length_nil] <;> omega
 have s1:=fromT_len (q.src.map fun x=>srcT x.table x.als (x.on.map (EE.tk all)))
 have s2:(q.src.map fun x=>(srcT x.table x.als (x.on.map (EE.tk all))).2.length+1).sum≤16*(q.src.map fun x=>wgt (ESrc.v x)+1).sum:=sum_le16 fun x hx=>by
   have h2:=ESrc.wgt_eq x
   have h4:=asT_len x.als
   have hh:=fun k hk=>h k (QueryOf.mem_src hx hk)
   unfold srcT
   generalize x.on=on at h2 hh ⊢
   cases on with
   | nil=>simp only [List.map_nil,List.length_append,List.length_cons,List.length_nil];omega
   | cons e es =>
     have h1:=hh e (by simp)
     rw [wgt_sum] at h2
     simp only [List.map_cons,List.sum_cons,EE.toV_eq,List.length_append,List.length_cons] at h2 ⊢
     omega
 have w2:(whereT (q.wher.map (EE.tk all))).length≤16*(q.wher.map fun x=>wgt (EE.toV x)+1).sum:=by
   have hh:=fun k hk=>h k (QueryOf.mem_wher (p:=q) hk)
   generalize q.wher=ws at hh ⊢
   cases ws with
   | nil=>simp [whereT]
   | cons e es =>
     have h1:=hh e (by simp)
     simp only [List.map_cons,List.sum_cons,EE.toV_eq,List.length_cons,whereT] at *
     omega
 have o1:=ordT_len (q.order.map fun x=>(x.1.tk all,x.2))
 have o2:(q.order.map fun x=>(x.1.tk all).length+3).sum≤16*(q.order.map fun x=>wgt (EE.sv x)+1).sum:=sum_le16 fun x hx=>by
   have h1:=h _ (QueryOf.mem_order hx)
   rw [EE.wgt_eqs]
   omega
 have l1:=limT_len q.limit
 rw [wgt_sum,wgt_sum,wgt_sum,wgt_sum]
 rw [List.map_map] at i1 s1 o1
 rw [List.length_map] at s1 o1
 simp only [Function.comp_def] at i1 s1 o1
 simp only [List.length_append,List.length_cons,List.length_map]
 have hd:(if q.distinct then [keyT 2] else []).length≤1:=by split <;> simp
 omega
theorem tk_len (all:Bool) (e:EE):(e.tk all).length≤16*wgt e.v+12:=by
 induction e using EE.ind with
 | h e ih1 ih2 =>
 have hq:∀ p∈e.sub,(EE.tkQ all p).length≤16*wgt p.v+8:=fun p hp=>tkQ_len all p (ih2 p hp)
 rw [EE.tk_eq,asm,EE.wgt_eq,EE.kt]
 have k0:=kidT_len all e.kind e.op (e.kids.map fun k=>(lvl k.kind k.op,k.tk all)) 0
 have k1:=kidT_len all e.kind e.op (e.kids.map fun k=>(lvl k.kind k.op,k.tk all)) 1
 have k2:=kidT_len all e.kind e.op (e.kids.map fun k=>(lvl k.kind k.op,k.tk all)) 2
 have ki:=inT_len all e.kind e.op (e.kids.map fun k=>(lvl k.kind k.op,k.tk all))
 have hnt:=notT_len e.nt
 have hql:=qualT_len e.qual
 have q0:((e.sub.map (EE.tkQ all)).getD 0 []).length≤16*wgt (.sl 0 (e.sub.map EE.queryV)):=by
   generalize e.sub=sub at hq ⊢
   cases sub with
   | nil=>simp
   | cons p ps =>
     have h1:=hq p (by simp)
     rw [wgt_sum]
     simp only [List.map_cons,List.sum_cons,EE.queryV_eq,List.getD_cons_zero]
     omega
 have hk:∀ k∈e.kids,(k.tk all).length+3≤16*(wgt (EE.toV k)+1):=fun k hk=>by
   have:=ih1 k hk
   rw [EE.toV_eq];omega
 have ks:((e.kids.map fun k=>(lvl k.kind k.op,k.tk all)).getD 0 (9,[])).2.length+((e.kids.map fun k=>(lvl k.kind k.op,k.tk all)).getD 1 (9,[])).2.length+((e.kids.map fun k=>(lvl k.kind k.op,k.tk all)).getD 2 (9,[])).2.length≤16*wgt (.sl 0 (e.kids.map EE.toV)):=by
   generalize e.kids=kids at hk ⊢
   rw [wgt_sum]
   match kids,hk with
   | [],_=>simp
   | [a],h =>
     have h1:=h a (by simp)
     simp only [List.map_cons,List.map_nil,List.sum_cons,List.sum_nil,List.getD_cons_zero,List.getD_cons_succ,List.getD_nil,List.length_nil];omega
   | [a,b],h =>
     have h1:=h a (by simp)
     have h2:=h b (by simp)
     simp only [List.map_cons,List.map_nil,List.sum_cons,List.sum_nil,List.getD_cons_zero,List.getD_cons_succ,List.getD_nil,List.length_nil];omega
   | a::b::c::l,h =>
     have h1:=h a (by simp)
     have h2:=h b (by simp)
     have h3:=h c (by simp)
     simp only [List.map_cons,List.sum_cons,List.getD_cons_zero,List.getD_cons_succ];omega
 have kl:((e.kids.map fun k=>(lvl k.kind k.op,k.tk all)).getD 0 (9,[])).2.length+((e.kids.map fun k=>(lvl k.kind k.op,k.tk all)).drop 1 |>.map fun x=>x.2.length+3).sum≤16*wgt (.sl 0 (e.kids.map EE.toV)):=by
   generalize e.kids=kids at hk ⊢
   rw [wgt_sum]
   cases kids with
   | nil=>simp
   | cons a l =>
     have h1:=hk a (by simp)
     have h2:=sum_le16 (l:=l) (g:=fun k=>(k.tk all).length+3) (w:=fun k=>wgt (EE.toV k)) fun k hk'=>hk k (by simp [hk'])
     simp only [List.map_cons,List.sum_cons,List.getD_cons_zero,List.drop_succ_cons,List.drop_zero,List.map_map,Function.comp_def] at h2 ⊢
     omega
 repeat' split
 all_goals
   simp only [List.length_append,List.length_cons,List.length_nil]
   omega
end Go.Proofs.Ytikghanejpigjaa
