/-
 The recursive types of the laws: queries' trees and queries; their values and weights. Own work; no condition.
-/
import Derived.Test.YtikghanejpigjaaMg17
namespace Go.Proofs.Ytikghanejpigjaa
open Go
set_option linter.unusedSimpArgs false
set_option linter.unusedVariables false
structure SrcOf (α : Type) where
 table:List UInt8
 als:List UInt8
 on:List α
structure ItemOf (α : Type) where
 star:Bool
 qual:List UInt8
 e : α
 als:List UInt8
structure QueryOf (α : Type) where
 distinct:Bool
 items:List (ItemOf α)
 src:List (SrcOf α)
 wher:List α
 order:List (α × Bool)
 limit:Int
inductive EE where
 | mk (kind op:Int) (nt:Bool) (value:Val) (qual name:List UInt8) (kids:List EE) (sub:List (QueryOf EE))
abbrev EQ:=QueryOf EE
abbrev ESrc:=SrcOf EE
abbrev EItem:=ItemOf EE
def EE.kind:EE→Int | .mk a _ _ _ _ _ _ _=>a
def EE.op:EE→Int | .mk _ a _ _ _ _ _ _=>a
def EE.nt:EE→Bool | .mk _ _ a _ _ _ _ _=>a
def EE.value:EE→Val | .mk _ _ _ a _ _ _ _=>a
def EE.qual:EE→List UInt8 | .mk _ _ _ _ a _ _ _=>a
def EE.name:EE→List UInt8 | .mk _ _ _ _ _ a _ _=>a
def EE.kids:EE→List EE | .mk _ _ _ _ _ _ a _=>a
def EE.sub:EE→List EQ | .mk _ _ _ _ _ _ _ a=>a
def QueryOf.parts {α : Type} (q:QueryOf α):List α := q.items.map (·.e)++(q.src.map (·.on)).flatten++q.wher++q.order.map (·.1)
mutual
def EE.toV:EE→V
 | .mk kind op nt value qual name kids sub => .agg [.int .i64 kind,.int .i64 op,.bool nt,.int .i64 value.kind,.int .i64 value.num,.str value.text,.str qual,.str name,.sl 0 (EE.toVL kids),.sl 0 (EE.queriesV sub)]
def EE.toVL:List EE→List V
 | []=>[]
 | k::ks=>k.toV::EE.toVL ks
def EE.queriesV:List (QueryOf EE)→List V
 | []=>[]
 | p::ps=>EE.queryV p::EE.queriesV ps
def EE.queryV:QueryOf EE→V
 | ⟨d,i,f,w,o,l⟩ => .agg [.bool d,.sl 0 (EE.itemsV i),.sl 0 (EE.srcsV f),.sl 0 (EE.toVL w),.sl 0 (EE.orderV o),.int .i64 l]
def EE.itemsV:List (ItemOf EE)→List V
 | []=>[]
 | k::ks=>EE.itemV k::EE.itemsV ks
def EE.itemV:ItemOf EE→V
 | ⟨s,q,e,a⟩ => .agg (.bool s :: .str q::(e.toV.cells++[.str a]))
def EE.srcsV:List (SrcOf EE)→List V
 | []=>[]
 | k::ks=>EE.srcV k::EE.srcsV ks
def EE.srcV:SrcOf EE→V
 | ⟨t,a,on⟩ => .agg [.str t,.str a,.sl 0 (EE.toVL on)]
def EE.orderV:List (EE × Bool)→List V
 | []=>[]
 | x::ks=>EE.sortV x::EE.orderV ks
def EE.sortV:EE × Bool→V
 |(e,b) => .agg (e.toV.cells++[.bool b])
end
def EE.v (x:EE):V := .agg [.int .i64 x.kind,.int .i64 x.op,.bool x.nt,.int .i64 x.value.kind,.int .i64 x.value.num,.str x.value.text,.str x.qual,.str x.name,.sl 0 (x.kids.map EE.toV),.sl 0 (x.sub.map EE.queryV)]
def EE.sv (x:EE × Bool):V := .agg [.int .i64 x.1.kind,.int .i64 x.1.op,.bool x.1.nt,.int .i64 x.1.value.kind,.int .i64 x.1.value.num,.str x.1.value.text,.str x.1.qual,.str x.1.name,.sl 0 (x.1.kids.map EE.toV),.sl 0 (x.1.sub.map EE.queryV),.bool x.2]
def EItem.v (x:EItem):V := .agg [.bool x.star,.str x.qual,.int .i64 x.e.kind,.int .i64 x.e.op,.bool x.e.nt,.int .i64 x.e.value.kind,.int .i64 x.e.value.num,.str x.e.value.text,.str x.e.qual,.str x.e.name,.sl 0 (x.e.kids.map EE.toV),.sl 0 (x.e.sub.map EE.queryV),.str x.als]
def ESrc.v (x:ESrc):V := .agg [.str x.table,.str x.als,.sl 0 (x.on.map EE.toV)]
def EQ.v (q:EQ):V := .agg [.bool q.distinct,.sl 0 (q.items.map EItem.v),.sl 0 (q.src.map ESrc.v),.sl 0 (q.wher.map EE.toV),.sl 0 (q.order.map EE.sv),.int .i64 q.limit]
theorem EE.toVL_eq:∀ l:List EE,EE.toVL l=l.map EE.toV
 | []=>rfl
 | x::l=>by simp only [EE.toVL,EE.toVL_eq l,List.map_cons]
theorem EE.queriesV_eq:∀ l:List EQ,EE.queriesV l=l.map EE.queryV
 | []=>rfl
 | x::l=>by simp only [EE.queriesV,EE.queriesV_eq l,List.map_cons]
theorem EE.toV_eq (x:EE):x.toV=x.v:=by
 cases x
 simp only [EE.toV,EE.v,EE.toVL_eq,EE.queriesV_eq,EE.kind,EE.op,EE.nt,EE.value,EE.qual,EE.name,EE.kids,EE.sub]
theorem EE.sortV_eq (x:EE × Bool):EE.sortV x=EE.sv x:=by
 obtain ⟨e,b⟩:=x
 simp only [EE.sortV,EE.toV_eq,EE.v,V.cells,List.cons_append,List.nil_append,EE.sv]
theorem EE.orderV_eq:∀ l:List (EE × Bool),EE.orderV l=l.map EE.sv
 | []=>rfl
 | x::l=>by simp only [EE.orderV,EE.orderV_eq l,List.map_cons,EE.sortV_eq]
theorem EE.itemV_eq (x:EItem):EE.itemV x=EItem.v x:=by
 obtain ⟨s,q,e,a⟩:=x
 simp only [EE.itemV,EE.toV_eq,EE.v,V.cells,List.cons_append,List.nil_append,EItem.v]
theorem EE.itemsV_eq:∀ l:List EItem,EE.itemsV l=l.map EItem.v
 | []=>rfl
 | x::l=>by simp only [EE.itemsV,EE.itemsV_eq l,List.map_cons,EE.itemV_eq]
theorem EE.srcV_eq (x:ESrc):EE.srcV x=ESrc.v x:=by
 obtain ⟨t,a,on⟩:=x
 simp only [EE.srcV,ESrc.v,EE.toVL_eq]
theorem EE.srcsV_eq:∀ l:List ESrc,EE.srcsV l=l.map ESrc.v
 | []=>rfl
 | x::l=>by simp only [EE.srcsV,EE.srcsV_eq l,List.map_cons,EE.srcV_eq]
theorem EE.queryV_eq (p:EQ):EE.queryV p=EQ.v p:=by
 obtain ⟨d,i,f,w,o,l⟩:=p
 simp only [EE.queryV,EQ.v,EE.itemsV_eq,EE.srcsV_eq,EE.toVL_eq,EE.orderV_eq]
theorem EE.kid_lt {e k:EE} (h:k∈e.kids):SizeOf.sizeOf k<SizeOf.sizeOf e:=by
 cases e with
 | mk a b c d u f kids sub =>
   have:=List.sizeOf_lt_of_mem (show k∈kids from h)
   simp only [EE.mk.sizeOf_spec]
   omega
theorem EQ.part_lt {p:EQ} {k:EE} (h:k∈p.parts):SizeOf.sizeOf k<SizeOf.sizeOf p:=by
 obtain ⟨d,i,f,w,o,l⟩:=p
 simp only [QueryOf.parts,List.mem_append,List.mem_flatten,List.mem_map] at h
 simp only [QueryOf.mk.sizeOf_spec]
 rcases h with ((⟨x,h1,rfl⟩ | ⟨q,⟨y,h1,rfl⟩,h2⟩) | h) | ⟨x,h1,rfl⟩
 · have a1 := List.sizeOf_lt_of_mem h1
   have a2:SizeOf.sizeOf x=1+SizeOf.sizeOf x.star+SizeOf.sizeOf x.qual+SizeOf.sizeOf x.e+SizeOf.sizeOf x.als:=by cases x;rfl
   omega
 · have a1 := List.sizeOf_lt_of_mem h1
   have a2:=List.sizeOf_lt_of_mem h2
   have a3:SizeOf.sizeOf y=1+SizeOf.sizeOf y.table+SizeOf.sizeOf y.als+SizeOf.sizeOf y.on:=by cases y;rfl
   omega
 · have := List.sizeOf_lt_of_mem h
   omega
 · have a1 := List.sizeOf_lt_of_mem h1
   have a2:SizeOf.sizeOf x=1+SizeOf.sizeOf x.1+SizeOf.sizeOf x.2:=by cases x;rfl
   omega
theorem EE.sub_lt {e k:EE} {p:EQ} (h:p∈e.sub) (hk:k∈p.parts):SizeOf.sizeOf k<SizeOf.sizeOf e:=by
 have a2:=EQ.part_lt hk
 cases e with
 | mk a b c d u f kids sub =>
   have:=List.sizeOf_lt_of_mem (show p∈sub from h)
   simp only [EE.mk.sizeOf_spec]
   omega
theorem EE.ind {M:EE→Prop} (h:∀ e:EE,(∀ k∈e.kids,M k)→(∀ p∈e.sub,∀ k∈p.parts,M k)→M e) (e:EE):M e:=by
 have:∀ n (e:EE),SizeOf.sizeOf e<n→M e:=by
   intro n
   induction n with
   | zero=>intro e he;omega
   | succ n ih=>exact fun e he=>h e (fun k hk=>ih k (by have:=EE.kid_lt hk;omega)) (fun p hp k hk=>ih k (by have:=EE.sub_lt hp hk;omega))
 exact this _ e (Nat.lt_succ_self _)
theorem QueryOf.mem_items {α : Type} {p:QueryOf α} {x:ItemOf α} (h:x∈p.items):x.e∈p.parts:=by simp only [QueryOf.parts,List.mem_append,List.mem_map];exact .inl (.inl (.inl ⟨x,h,rfl⟩))
theorem QueryOf.mem_src {α : Type} {p:QueryOf α} {x:SrcOf α} {k : α} (h:x∈p.src) (hk:k∈x.on):k∈p.parts:=by simp only [QueryOf.parts,List.mem_append,List.mem_flatten,List.mem_map];exact .inl (.inl (.inr ⟨x.on,⟨x,h,rfl⟩,hk⟩))
theorem QueryOf.mem_wher {α : Type} {p:QueryOf α} {k : α} (h:k∈p.wher):k∈p.parts:=by simp only [QueryOf.parts,List.mem_append];exact .inl (.inr h)
theorem QueryOf.mem_order {α : Type} {p:QueryOf α} {x : α × Bool} (h:x∈p.order):x.1∈p.parts:=by simp only [QueryOf.parts,List.mem_append,List.mem_map];exact .inr ⟨x,h,rfl⟩
theorem EE.cells_len (x:EE):x.toV.cells.length=10:=by rw [EE.toV_eq];rfl
theorem EE.queryV_len (x:EQ):(EE.queryV x).cells.length=6:=by rw [EE.queryV_eq];rfl
theorem EItem.plain_r (x:EItem) (h:x.e.toV.plain=true):(EItem.v x).plain=true:=by
 rw [EE.toV_eq] at h
 simp only [EE.v,V.plain,V.plainL,Bool.and_true,Bool.true_and] at h
 simp only [EItem.v,V.plain,V.plainL,Bool.and_true,Bool.true_and]
 exact h
theorem ESrc.plain_r (x:ESrc) (h:∀ k∈x.on,k.toV.plain=true):(ESrc.v x).plain=true:=plainL_cons rfl (plainL_cons rfl (plainL_cons (plain_slice 10 _ h EE.cells_len) rfl))
theorem EE.plains_r (x:EE × Bool) (h:x.1.toV.plain=true):(EE.sv x).plain=true:=by
 rw [EE.toV_eq] at h
 simp only [EE.v,V.plain,V.plainL,Bool.and_true,Bool.true_and] at h
 simp only [EE.sv,V.plain,V.plainL,Bool.and_true,Bool.true_and]
 exact h
theorem EQ.plain_r (p:EQ) (h:∀ k∈p.parts,k.toV.plain=true):p.v.plain=true :=
 plainL_cons rfl (plainL_cons (plain_slice 13 _ (fun x hx=>EItem.plain_r x (h _ (QueryOf.mem_items hx))) (fun _=>rfl)) (plainL_cons (plain_slice 3 _ (fun x hx=>ESrc.plain_r x fun k hk=>h k (QueryOf.mem_src hx hk)) (fun _=>rfl))
   (plainL_cons (plain_slice 10 _ (fun x hx=>h x (QueryOf.mem_wher hx)) EE.cells_len) (plainL_cons (plain_slice 11 _ (fun x hx=>EE.plains_r x (h _ (QueryOf.mem_order hx))) (fun _=>rfl)) rfl))))
theorem EE.plain (x:EE):x.toV.plain=true:=by
 induction x using EE.ind with
 | h e ih1 ih2 =>
   rw [EE.toV_eq]
   refine plainL_cons rfl (plainL_cons rfl (plainL_cons rfl (plainL_cons rfl (plainL_cons rfl (plainL_cons rfl (plainL_cons rfl (plainL_cons rfl (plainL_cons (plain_slice 10 _ ih1 EE.cells_len) (plainL_cons (plain_slice 6 _ (fun p hp=>?_) EE.queryV_len) rfl)))))))))
   rw [EE.queryV_eq]
   exact EQ.plain_r p (ih2 p hp)
theorem EE.plainv (x:EE):x.v.plain=true:=EE.toV_eq x ▸ EE.plain x
theorem EE.plains (x:EE × Bool):(EE.sv x).plain=true:=EE.plains_r x (EE.plain _)
theorem EItem.plain (x:EItem):(EItem.v x).plain=true:=EItem.plain_r x (EE.plain _)
theorem ESrc.plain (x:ESrc):(ESrc.v x).plain=true:=ESrc.plain_r x fun _ _=>EE.plain _
theorem EQ.plain (p:EQ):p.v.plain=true:=EQ.plain_r p fun k _=>EE.plain k
theorem plain_ExprS (l:List EE):V.plain (.sl 0 (l.map EE.toV))=true:=plain_slice 10 l (fun x _=>EE.plain x) EE.cells_len
theorem plain_QueryS (l:List EQ):V.plain (.sl 0 (l.map EE.queryV))=true:=plain_slice 6 l (fun x _=>EE.queryV_eq x ▸ EQ.plain x) EE.queryV_len
theorem plain_ItemS (l:List EItem):V.plain (.sl 0 (l.map EItem.v))=true:=plain_slice 13 l (fun x _=>EItem.plain x) (fun _=>rfl)
theorem plain_SourceS (l:List ESrc):V.plain (.sl 0 (l.map ESrc.v))=true:=plain_slice 3 l (fun x _=>ESrc.plain x) (fun _=>rfl)
theorem plain_SortKeyS (l:List (EE × Bool)):V.plain (.sl 0 (l.map EE.sv))=true:=plain_slice 11 l (fun x _=>EE.plains x) (fun _=>rfl)
theorem EE.wgt_eq (x:EE):wgt x.v=x.value.wt+x.qual.length+x.name.length+wgt (.sl 0 (x.kids.map EE.toV))+wgt (.sl 0 (x.sub.map EE.queryV)):=by simp only [EE.v,wgt,wgtL,Val.wt];omega
theorem EE.wgt_eqs (x:EE × Bool):wgt (EE.sv x)=wgt x.1.v:=by simp only [EE.sv,EE.v,wgt,wgtL]
theorem EItem.wgt_eq (x:EItem):wgt (EItem.v x)=x.qual.length+wgt x.e.v+x.als.length:=by simp only [EItem.v,EE.v,wgt,wgtL];omega
theorem ESrc.wgt_eq (x:ESrc):wgt (ESrc.v x)=x.table.length+x.als.length+wgt (.sl 0 (x.on.map EE.toV)):=by simp only [ESrc.v,wgt,wgtL];omega
theorem EQ.wgt_eq (p:EQ):wgt p.v=wgt (.sl 0 (p.items.map EItem.v))+wgt (.sl 0 (p.src.map ESrc.v))+wgt (.sl 0 (p.wher.map EE.toV))+wgt (.sl 0 (p.order.map EE.sv)):=by simp only [EQ.v,wgt,wgtL];omega
theorem EE.wgt_kid {e k:EE} (h:k∈e.kids):wgt k.v≤wgt e.v:=by
 have h1:=wgt_mem (f:=EE.toV) h
 rw [EE.toV_eq] at h1
 have:=EE.wgt_eq e
 omega
theorem EE.wgt_sub {e:EE} {p:EQ} (h:p∈e.sub):wgt p.v≤wgt e.v:=by
 have h1:=wgt_mem (f:=EE.queryV) h
 rw [EE.queryV_eq] at h1
 have:=EE.wgt_eq e
 omega
theorem EQ.wgt_part {p:EQ} {k:EE} (h:k∈p.parts):wgt k.v≤wgt p.v:=by
 have e:=EQ.wgt_eq p
 simp only [QueryOf.parts,List.mem_append,List.mem_flatten,List.mem_map] at h
 rcases h with ((⟨x,h1,rfl⟩ | ⟨q,⟨y,h1,rfl⟩,h2⟩) | h) | ⟨x,h1,rfl⟩
 · have a1 := wgt_mem (f := EItem.v) h1
   have a2:=EItem.wgt_eq x
   omega
 · have a1 := wgt_mem (f := ESrc.v) h1
   have a2:=wgt_mem (f:=EE.toV) h2
   have a3:=ESrc.wgt_eq y
   rw [EE.toV_eq] at a2
   omega
 · have := wgt_mem (f := EE.toV) h
   rw [EE.toV_eq] at this
   omega
 · have a1 := wgt_mem (f := EE.sv) h1
   rw [EE.wgt_eqs] at a1
   omega
theorem EQ.wgt_src {p:EQ} {x:ESrc} (h:x∈p.src):wgt (ESrc.v x)≤wgt p.v:=by
 have h1:=wgt_mem (f:=ESrc.v) h
 have:=EQ.wgt_eq p
 omega
theorem EQ.wgt_item {p:EQ} {x:EItem} (h:x∈p.items):wgt (EItem.v x)≤wgt p.v:=by
 have h1:=wgt_mem (f:=EItem.v) h
 have:=EQ.wgt_eq p
 omega
end Go.Proofs.Ytikghanejpigjaa
