/-
 Lifting of a plan in place, by the reference. Own work; no condition.
-/
import Derived.Test.YtolhegocbkckdaaDLiftS
namespace Go.Proofs.Ytolhegocbkckdaa
open Go
set_option linter.unusedSimpArgs false
set_option linter.unusedVariables false
theorem Hold.head {s:S} {H:List BE} {b n:Nat} {Z:List V} {d:V} (h:Hold s b (.blk n (.agg (d::Z))::H)) (hp:V.plainL (d::Z)=true):Hold s b (.blk n d :: .blk (n+cv d) (.agg Z)::H):=by
 simp only [V.plainL,Bool.and_eq_true] at hp
 exact h.split (by simp only [cv,cvL]) (by simp only [thw,thwL,thw_cv]) hp.1 hp.2
theorem Hold.unhead {s:S} {H:List BE} {b n m:Nat} {Z:List V} {d:V} (h:Hold s b (.blk n d :: .blk m (.agg Z)::H)) (hm:m=n+cv d) (hp:V.plainL (d::Z)=true):Hold s b (.blk n (.agg (d::Z))::H) :=
 h.join hm (by simp only [cv,cvL]) (by simp only [thw,thwL,thw_cv]) hp
theorem Hold.unsv1 {s:S} {H:List BE} {b n:Nat} {c:BE} {x:PE × Bool} (h:Hold s b (c :: .blk n (PE.sv x)::H)):Hold s b (c :: .blk n x.1.v::H):=by
 have h1:Hold s b (.blk n (PE.sv x)::c::H):=h.sel (.cons 1 rfl rfl (.cons 0 rfl rfl (.refl H)))
 have h2:Hold s b (.blk n x.1.v::c::H):=h1.reblk (by simp only [PE.sv,PE.v,cv,cvL,Nat.add_zero]) (PE.plainv _) (by simp only [PE.sv,PE.v,thw_agg,thwL_int,thwL_str,thwL_bool,thwL_sl,thwL_nil])
 exact h2.sel (.cons 1 rfl rfl (.cons 0 rfl rfl (.refl H)))
def PL.rest (p:PL):List V:=[.bool p.distinct,.int .i64 p.limit]
theorem Hold.splitPL {s:S} {H:List BE} {b n n1 n2 n3 n4 n5 n6:Nat} {p:PL} (h:Hold s b (.blk n p.v::H)) (e1:n1=n+cv (.sl 0 (p.tables.map iV))) (e2:n2=n1+cv (.sl 0 (p.on.map PE.vS))) (e3:n3=n2+cv (.sl 0 (p.wher.map PE.toV)))
   (e4:n4=n3+cv (.sl 0 (p.order.map PE.sv))) (e5:n5=n4+cv (.sl 0 (p.items.map PE.toV))) (e6:n6=n5+cv (.sl 0 (p.names.map sV))) :
   Hold s b (.blk n6 (.agg p.rest) :: .blk n5 (.sl 0 (p.names.map sV)) :: .blk n4 (.sl 0 (p.items.map PE.toV)) :: .blk n3 (.sl 0 (p.order.map PE.sv)) :: .blk n2 (.sl 0 (p.wher.map PE.toV)) :: .blk n1 (.sl 0 (p.on.map PE.vS)) :: .blk n (.sl 0 (p.tables.map iV))::H):=by
 subst e1 e2 e3 e4 e5 e6
 have q6:V.plainL (.sl 0 (p.names.map sV)::p.rest)=true:=by rw [V.plainL,plain_StringS];rfl
 have q5:V.plainL (.sl 0 (p.items.map PE.toV) :: .sl 0 (p.names.map sV)::p.rest)=true:=by rw [V.plainL,plain_PExprS,q6];rfl
 have q4:V.plainL (.sl 0 (p.order.map PE.sv) :: .sl 0 (p.items.map PE.toV) :: .sl 0 (p.names.map sV)::p.rest)=true:=by rw [V.plainL,plain_PSortS,q5];rfl
 have q3:V.plainL (.sl 0 (p.wher.map PE.toV) :: .sl 0 (p.order.map PE.sv) :: .sl 0 (p.items.map PE.toV) :: .sl 0 (p.names.map sV)::p.rest)=true:=by rw [V.plainL,plain_PExprS,q4];rfl
 have q2:V.plainL (.sl 0 (p.on.map PE.vS) :: .sl 0 (p.wher.map PE.toV) :: .sl 0 (p.order.map PE.sv) :: .sl 0 (p.items.map PE.toV) :: .sl 0 (p.names.map sV)::p.rest)=true:=by rw [V.plainL,plain_PExprSS,q3];rfl
 have q1:V.plainL (.sl 0 (p.tables.map iV) :: .sl 0 (p.on.map PE.vS) :: .sl 0 (p.wher.map PE.toV) :: .sl 0 (p.order.map PE.sv) :: .sl 0 (p.items.map PE.toV) :: .sl 0 (p.names.map sV)::p.rest)=true:=by rw [V.plainL,plain_IntS,q2];rfl
 have h1:=Hold.head (show Hold s b (.blk n (.agg (.sl 0 (p.tables.map iV) :: .sl 0 (p.on.map PE.vS) :: .sl 0 (p.wher.map PE.toV) :: .sl 0 (p.order.map PE.sv) :: .sl 0 (p.items.map PE.toV) :: .sl 0 (p.names.map sV)::p.rest))::H) from h) q1
 have h2:=Hold.head (h1.sel (.cons 1 rfl rfl (.cons 0 rfl rfl (.refl _)))) q2
 have h3:=Hold.head (h2.sel (.cons 1 rfl rfl (.cons 0 rfl rfl (.refl _)))) q3
 have h4:=Hold.head (h3.sel (.cons 1 rfl rfl (.cons 0 rfl rfl (.refl _)))) q4
 have h5:=Hold.head (h4.sel (.cons 1 rfl rfl (.cons 0 rfl rfl (.refl _)))) q5
 have h6:=Hold.head (h5.sel (.cons 1 rfl rfl (.cons 0 rfl rfl (.refl _)))) q6
 exact h6.sel (.cons 1 rfl rfl (.cons 0 rfl rfl (.refl _)))
theorem Hold.joinPL {s:S} {H:List BE} {b n n1 n2 n3 n4 n5 n6:Nat} {p:PL} (h:Hold s b (.blk n6 (.agg p.rest) :: .blk n5 (.sl 0 (p.names.map sV)) :: .blk n4 (.sl 0 (p.items.map PE.toV)) :: .blk n3 (.sl 0 (p.order.map PE.sv)) :: .blk n2 (.sl 0 (p.wher.map PE.toV)) :: .blk n1 (.sl 0 (p.on.map PE.vS)) :: .blk n (.sl 0 (p.tables.map iV))::H))
   (e1:n1=n+cv (.sl 0 (p.tables.map iV))) (e2:n2=n1+cv (.sl 0 (p.on.map PE.vS))) (e3:n3=n2+cv (.sl 0 (p.wher.map PE.toV)))
   (e4:n4=n3+cv (.sl 0 (p.order.map PE.sv))) (e5:n5=n4+cv (.sl 0 (p.items.map PE.toV))) (e6:n6=n5+cv (.sl 0 (p.names.map sV))):Hold s b (.blk n p.v::H):=by
 have q6:V.plainL (.sl 0 (p.names.map sV)::p.rest)=true:=by rw [V.plainL,plain_StringS];rfl
 have q5:V.plainL (.sl 0 (p.items.map PE.toV) :: .sl 0 (p.names.map sV)::p.rest)=true:=by rw [V.plainL,plain_PExprS,q6];rfl
 have q4:V.plainL (.sl 0 (p.order.map PE.sv) :: .sl 0 (p.items.map PE.toV) :: .sl 0 (p.names.map sV)::p.rest)=true:=by rw [V.plainL,plain_PSortS,q5];rfl
 have q3:V.plainL (.sl 0 (p.wher.map PE.toV) :: .sl 0 (p.order.map PE.sv) :: .sl 0 (p.items.map PE.toV) :: .sl 0 (p.names.map sV)::p.rest)=true:=by rw [V.plainL,plain_PExprS,q4];rfl
 have q2:V.plainL (.sl 0 (p.on.map PE.vS) :: .sl 0 (p.wher.map PE.toV) :: .sl 0 (p.order.map PE.sv) :: .sl 0 (p.items.map PE.toV) :: .sl 0 (p.names.map sV)::p.rest)=true:=by rw [V.plainL,plain_PExprSS,q3];rfl
 have q1:V.plainL (.sl 0 (p.tables.map iV) :: .sl 0 (p.on.map PE.vS) :: .sl 0 (p.wher.map PE.toV) :: .sl 0 (p.order.map PE.sv) :: .sl 0 (p.items.map PE.toV) :: .sl 0 (p.names.map sV)::p.rest)=true:=by rw [V.plainL,plain_IntS,q2];rfl
 have h6:=Hold.unhead (h.sel (.cons 1 rfl rfl (.cons 0 rfl rfl (.refl _)))) e6 q6
 have h5:=Hold.unhead (h6.sel (.cons 1 rfl rfl (.cons 0 rfl rfl (.refl _)))) e5 q5
 have h4:=Hold.unhead (h5.sel (.cons 1 rfl rfl (.cons 0 rfl rfl (.refl _)))) e4 q4
 have h3:=Hold.unhead (h4.sel (.cons 1 rfl rfl (.cons 0 rfl rfl (.refl _)))) e3 q3
 have h2:=Hold.unhead (h3.sel (.cons 1 rfl rfl (.cons 0 rfl rfl (.refl _)))) e2 q2
 exact Hold.unhead (h2.sel (.cons 1 rfl rfl (.cons 0 rfl rfl (.refl _)))) e1 q1
theorem PL.thw_v {n n1 n2 n3 n4 n5:Nat} (p:PL) (e1:n1=n+cv (.sl 0 (p.tables.map iV))) (e2:n2=n1+cv (.sl 0 (p.on.map PE.vS))) (e3:n3=n2+cv (.sl 0 (p.wher.map PE.toV))) (e4:n4=n3+cv (.sl 0 (p.order.map PE.sv))) (e5:n5=n4+cv (.sl 0 (p.items.map PE.toV))) :
   (thw n p.v).1 = .agg [(thw n (.sl 0 (p.tables.map iV))).1,(thw n1 (.sl 0 (p.on.map PE.vS))).1,(thw n2 (.sl 0 (p.wher.map PE.toV))).1,(thw n3 (.sl 0 (p.order.map PE.sv))).1,(thw n4 (.sl 0 (p.items.map PE.toV))).1,(thw n5 (.sl 0 (p.names.map sV))).1,.bool p.distinct,.int .i64 p.limit]:=by
 subst e1 e2 e3 e4 e5
 simp only [PL.v,thw_agg,thwL_nil,thwL_int,thwL_str,thwL_bool,thwL_sl]
theorem cv_slE {α : Type} (f : α → V) (F : α → α) (l:List α) (hl:∀ x∈l,cv (f (F x))=cv (f x)):cvL ((l.map F).map f)=cvL (l.map f)∧cv (.sl 0 ((l.map F).map f))=cv (.sl 0 (l.map f)):=by
 have h:=cvL_mapE l hl
 have h2:cvL ((l.map F).map f)=cvL (l.map f):=by rw [List.map_map];exact h
 refine ⟨h2,?_⟩
 simp only [cv,h2]
 cases l <;> rfl
theorem liftPlan_fin {t:S} {H:List BE} {n n1 n2 n3 n4 n5 n6:Nat} {p:PL} {F:PE→PE} (hF:∀ k,cv (F k).v=cv k.v) (e1:n1=n+cv (.sl 0 (p.tables.map iV))) (e2:n2=n1+cv (.sl 0 (p.on.map PE.vS))) (e3:n3=n2+cv (.sl 0 (p.wher.map PE.toV)))
   (e4:n4=n3+cv (.sl 0 (p.order.map PE.sv))) (e5:n5=n4+cv (.sl 0 (p.items.map PE.toV))) (e6:n6=n5+cv (.sl 0 (p.names.map sV)))
   (h:Hold t t.next (.blk n6 (.agg p.rest) :: .blk n5 (.sl 0 (p.names.map sV)) :: .blk n4 (.sl 0 ((p.items.map F).map PE.toV)) :: .blk n3 (.sl 0 ((p.order.map (fun x=>(F x.1,x.2))).map PE.sv)) :: .blk n2 (.sl 0 ((p.wher.map F).map PE.toV)) :: .blk n1 (.sl 0 ((p.on.map (List.map F)).map PE.vS)) :: .blk n (.sl 0 (p.tables.map iV))::H))
   {v:V} (hv:v = .agg [(thw n (.sl 0 (p.tables.map iV))).1,(thw n1 (.sl 0 (p.on.map PE.vS))).1,(thw n2 (.sl 0 (p.wher.map PE.toV))).1,(thw n3 (.sl 0 (p.order.map PE.sv))).1,(thw n4 (.sl 0 (p.items.map PE.toV))).1,(thw n5 (.sl 0 (p.names.map sV))).1,.bool p.distinct,.int .i64 p.limit]) :
   ∃ s':S,v=(thw n (PL.map F p).v).1∧t.ext []=s'.ext []∧Hold s' s'.next (.blk n (PL.map F p).v::H):=by
 subst hv
 have hT:∀ k,cv (PE.toV (F k))=cv (PE.toV k):=fun k=>by rw [PE.toV_eq,PE.toV_eq];exact hF k
 have hsv:∀ x:PE × Bool,cv (PE.sv x)=cv x.1.v:=fun x=>by simp only [PE.sv,PE.v,cv,cvL]
 obtain ⟨a1,b1⟩:=cv_slE PE.vS (List.map F) p.on fun l _=>(cv_slE PE.toV F l fun x _=>hT x).2
 obtain ⟨a2,b2⟩:=cv_slE PE.toV F p.wher fun x _=>hT x
 obtain ⟨a3,b3⟩:=cv_slE PE.sv (fun x=>(F x.1,x.2)) p.order fun x _=>by rw [hsv,hsv];exact hF x.1
 obtain ⟨a4,b4⟩:=cv_slE PE.toV F p.items fun x _=>hT x
 refine ⟨t,?_,rfl,Hold.joinPL (p:=PL.map F p) h e1 (by rw [e2];exact congrArg (n1 + ·) b1.symm) (by rw [e3];exact congrArg (n2 + ·) b2.symm) (by rw [e4];exact congrArg (n3 + ·) b3.symm) (by rw [e5];exact congrArg (n4 + ·) b4.symm) e6⟩
 have hh:=PL.thw_v (n:=n) (PL.map F p) (n1:=n1) (n2:=n2) (n3:=n3) (n4:=n4) (n5:=n5) e1 (by rw [e2];exact congrArg (n1 + ·) b1.symm) (by rw [e3];exact congrArg (n2 + ·) b2.symm) (by rw [e4];exact congrArg (n3 + ·) b3.symm) (by rw [e5];exact congrArg (n4 + ·) b4.symm)
 rw [hh]
 show V.agg [_,(thw n1 (.sl 0 (p.on.map PE.vS))).1,(thw n2 (.sl 0 (p.wher.map PE.toV))).1,(thw n3 (.sl 0 (p.order.map PE.sv))).1,(thw n4 (.sl 0 (p.items.map PE.toV))).1,_,_,_]=V.agg [_,(thw n1 (.sl 0 ((p.on.map (List.map F)).map PE.vS))).1,(thw n2 (.sl 0 ((p.wher.map F).map PE.toV))).1,(thw n3 (.sl 0 ((p.order.map (fun x=>(F x.1,x.2))).map PE.sv))).1,(thw n4 (.sl 0 ((p.items.map F).map PE.toV))).1,_,_,_]
 rw [thw_slE (by simp) a1.symm,thw_slE (by simp) a2.symm,thw_slE (by simp) a3.symm,thw_slE (by simp) a4.symm]
 rfl
end Go.Proofs.Ytolhegocbkckdaa
