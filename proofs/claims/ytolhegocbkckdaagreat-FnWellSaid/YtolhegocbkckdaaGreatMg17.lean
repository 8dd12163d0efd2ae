/-
  Strings of bytes that a law is given.
  The recursive types of the laws: plans' trees and plans, queries' trees and queries; their values and weights.
  Own work; no condition.
-/
import Derived.Test.YtolhegocbkckdaaGreatDCur
import Derived.Test.YtolhegocbkckdaaGreatVRow
import Derived.Test.YtolhegocbkckdaaGreatMg10
import Derived.Test.YtolhegocbkckdaaGreatMg15
namespace Go.Proofs.YtolhegocbkckdaaGreat
open Go
set_option linter.unusedSimpArgs false
set_option linter.unusedVariables false
theorem Zl:∀ {xs:List V},(∀ x∈xs,∃ m:Int,x = .int .u8 m)→V.Uq xs=true→∃ bs:List UInt8,xs=bs.map yA
 | [],_,_=>⟨[],rfl⟩
 | x::xs,h,hw=>by
   simp only [V.Uq,Bool.and_eq_true] at hw
   obtain ⟨m,rfl⟩:=h x (by simp)
   obtain ⟨bs,rfl⟩:=Zl (xs:=xs) (fun y hy=>h y (by simp [hy])) hw.2
   have hm:=hw.1
   simp only [V.wf,min_u8,max_u8,Bool.and_eq_true,decide_eq_true_eq] at hm
   refine ⟨UInt8.ofNat m.toNat::bs,?_⟩
   simp only [List.map_cons,yA,UInt8.toNat_ofNat']
   congr 2
   omega
theorem bytes_has {P:Program} {n:Nat} {t e:TypeId} {v:V} (ht:P.underlying t=some (.slice e)) (he:P.underlying e=some (.int .u8)) (h:Has P n t v) (hw:v.wf=true):Bytes v:=by
 rcases Has.slice ht h with rfl | ⟨n,xs,rfl,hx⟩
 · exact .inl rfl
 · simp only [V.wf, Bool.and_eq_true, decide_eq_true_eq] at hw
   obtain ⟨bs,rfl⟩:=Zl (fun x hx'=>Has.int he (hx x hx')) hw.2
   exact .inr ⟨bs,rfl,by simpa using hw.1⟩
theorem Le {b:V} (hb:Bytes b):∃ c:Bool,∀ s:S,VCalls Tryz.prog 4 [b] s (fun v s'=>v = .bool c∧s'=s):=by
 rcases hb with rfl | ⟨bs,rfl,hlen⟩
 · refine ⟨false, fun s => ?_⟩
   refine zi.pure Tryz.func4 rfl (by kernel_rfl) (by simp) ?_
   repeat' first|(refine zf ?_;first|(refine zq.nil ?_)|(refine zq.ev zx rfl ?_))|(refine zH ?_;first|(refine WL.seq ?_)|(refine WL.region (by kernel_rfl) ?_)|(refine WL.ret ?_))|(refine zw ?_)|(refine zh.r1 (r := .tmp 2) (.inl rfl) (zn.tmp rfl) ?_)|(refine zX.mk ?_)
   rfl
 · refine ⟨decide ((1048576 : Int) < bs.length), fun s => ?_⟩
   refine zi.pure Tryz.func4 rfl (by kernel_rfl) (by simp) ?_
   repeat' first|(refine zf ?_;first|(refine zq.nil ?_)|(refine zq.ev zx rfl ?_)|(refine qx ?_;first|(refine zq.ans (zk.z8 zx rfl rfl rfl) ?_)))|(refine zH ?_;first|(refine WL.seq ?_)|(refine WL.region (by kernel_rfl) ?_)|(refine WL.ret ?_))|(refine zw ?_)|(refine zh.r1 (r := .tmp 2) (.inl rfl) (zn.tmp rfl) ?_)|(refine zX.mk ?_)
   rfl
end Go.Proofs.YtolhegocbkckdaaGreat

namespace Go.Proofs.YtolhegocbkckdaaGreat
open Go
set_option linter.unusedSimpArgs false
set_option linter.unusedVariables false
mutual
def qV:V→Nat
 | .str s=>s.length
 | .agg cs=>wJ cs
 | .sl _ xs=>xs.length+wJ xs
 | .int _ _ | .bool _ | .jY _ | .ptr _ _ | .xG _ _ | .kC | .jo | .zl | .qJ _ _ _ _ | .fn _ _ | .und | .raw _=>0
def wJ:List V→Nat
 | []=>0
 | v::vs=>qV v+wJ vs
end
theorem Je {α : Type} (f : α → V):∀ l:List α,wJ (l.map f)=kM (fun x=>qV (f x)) l
 | []=>rfl
 | x::l=>by simp only [List.map_cons,wJ,Je f l,kM,List.sum_cons]
theorem wN {α : Type} (f : α → V) (l:List α):qV (.sl 0 (l.map f))=bY (fun x=>qV (f x)) l:=by simp only [qV,List.length_map,Je,bY]
theorem uw {α : Type} {f : α → V} {l:List α} {x : α} (h:x∈l):qV (f x)≤qV (.sl 0 (l.map f)):=by
 obtain ⟨i,hi,rfl⟩:=List.getElem_of_mem h
 rw [wN]
 exact iB (f:=fun x=>qV (f x)) hi
theorem xW {α : Type} (f : α → V) (l:List α):l.length≤qV (.sl 0 (l.map f)):=by rw [wN];exact jA _ l
structure qZ (α : Type) where
 tables:List Int
 on:List (List α)
 xO:List α
 order:List (α × Bool)
 items:List α
 names:List (List UInt8)
 distinct:Bool
 limit:Int
inductive PE where
 | mk (kind op:Int) (nt:Bool) (value:Val) (up pos:Int) (kids:List PE) (sub:List (qZ PE))
abbrev PL:=qZ PE
def PE.kind:PE→Int | .mk a _ _ _ _ _ _ _=>a
def PE.op:PE→Int | .mk _ a _ _ _ _ _ _=>a
def PE.nt:PE→Bool | .mk _ _ a _ _ _ _ _=>a
def PE.value:PE→Val | .mk _ _ _ a _ _ _ _=>a
def PE.up:PE→Int | .mk _ _ _ _ a _ _ _=>a
def PE.pos:PE→Int | .mk _ _ _ _ _ a _ _=>a
def PE.kids:PE→List PE | .mk _ _ _ _ _ _ a _=>a
def PE.sub:PE→List PL | .mk _ _ _ _ _ _ _ a=>a
def qZ.parts {α : Type} (p:qZ α):List α := p.on.flatten++p.xO++p.order.map (·.1)++p.items
mutual
def PE.zF:PE→V
 | .mk kind op nt value up pos kids sub => .agg [.int .i64 kind,.int .i64 op,.bool nt,.int .i64 value.kind,.int .i64 value.num,.str value.text,.int .i64 up,.int .i64 pos,.sl 0 (PE.VX kids),.sl 0 (PE.XL sub)]
def PE.VX:List PE→List V
 | []=>[]
 | k::ks=>k.zF::PE.VX ks
def PE.XL:List (qZ PE)→List V
 | []=>[]
 | p::ps=>PE.xu p::PE.XL ps
def PE.xu:qZ PE→V
 | ⟨t,on,w,o,i,n,d,l⟩ => .agg [.sl 0 (t.map iV),.sl 0 (PE.Md on),.sl 0 (PE.VX w),.sl 0 (PE.XM o),.sl 0 (PE.VX i),.sl 0 (n.map sV),.bool d,.int .i64 l]
def PE.Md:List (List PE)→List V
 | []=>[]
 | k::ks => .sl 0 (PE.VX k)::PE.Md ks
def PE.XM:List (PE × Bool)→List V
 | []=>[]
 | x::ks=>PE.sortV x::PE.XM ks
def PE.sortV:PE × Bool→V
 |(e,b) => .agg (e.zF.cells++[.bool b])
end
def PE.v (x:PE):V := .agg [.int .i64 x.kind,.int .i64 x.op,.bool x.nt,.int .i64 x.value.kind,.int .i64 x.value.num,.str x.value.text,.int .i64 x.up,.int .i64 x.pos,.sl 0 (x.kids.map PE.zF),.sl 0 (x.sub.map PE.xu)]
def PE.vS (l:List PE):V := .sl 0 (l.map PE.zF)
def PE.sv (x:PE × Bool):V := .agg [.int .i64 x.1.kind,.int .i64 x.1.op,.bool x.1.nt,.int .i64 x.1.value.kind,.int .i64 x.1.value.num,.str x.1.value.text,.int .i64 x.1.up,.int .i64 x.1.pos,.sl 0 (x.1.kids.map PE.zF),.sl 0 (x.1.sub.map PE.xu),.bool x.2]
def PL.v (p:PL):V := .agg [.sl 0 (p.tables.map iV),.sl 0 (p.on.map PE.vS),.sl 0 (p.xO.map PE.zF),.sl 0 (p.order.map PE.sv),.sl 0 (p.items.map PE.zF),.sl 0 (p.names.map sV),.bool p.distinct,.int .i64 p.limit]
theorem PE.sJ:∀ l:List PE,PE.VX l=l.map PE.zF
 | []=>rfl
 | x::l=>by simp only [PE.VX,PE.sJ l,List.map_cons]
theorem PE.QH:∀ l:List PL,PE.XL l=l.map PE.xu
 | []=>rfl
 | x::l=>by simp only [PE.XL,PE.QH l,List.map_cons]
theorem PE.Au:∀ l:List (List PE),PE.Md l=l.map PE.vS
 | []=>rfl
 | x::l=>by simp only [PE.Md,PE.Au l,List.map_cons,PE.vS,PE.sJ]
theorem PE.qK (x:PE):x.zF=x.v:=by
 cases x
 simp only [PE.zF,PE.v,PE.sJ,PE.QH,PE.kind,PE.op,PE.nt,PE.value,PE.up,PE.pos,PE.kids,PE.sub]
theorem PE.Aa (x:PE × Bool):PE.sortV x=PE.sv x:=by
 obtain ⟨e,b⟩:=x
 simp only [PE.sortV,PE.qK,PE.v,V.cells,List.cons_append,List.nil_append,PE.sv]
theorem PE.QL:∀ l:List (PE × Bool),PE.XM l=l.map PE.sv
 | []=>rfl
 | x::l=>by simp only [PE.XM,PE.QL l,List.map_cons,PE.Aa]
theorem PE.kX (p:PL):PE.xu p=PL.v p:=by
 obtain ⟨t,on,w,o,i,n,d,l⟩:=p
 simp only [PE.xu,PL.v,PE.Au,PE.sJ,PE.QL]
theorem PE.Fw (l:List PL):l.map PE.xu=l.map PL.v:=List.map_congr_left fun p _=>PE.kX p
theorem PE.Ab {e k:PE} (h:k∈e.kids):SizeOf.sizeOf k<SizeOf.sizeOf e:=by
 cases e with
 | mk a b c d u f kids sub =>
   have:=List.sizeOf_lt_of_mem (show k∈kids from h)
   simp only [PE.mk.sizeOf_spec]
   omega
theorem PL.Cz {p:PL} {k:PE} (h:k∈p.parts):SizeOf.sizeOf k<SizeOf.sizeOf p:=by
 obtain ⟨t,on,w,o,i,n,d,l⟩:=p
 simp only [qZ.parts,List.mem_append,List.mem_flatten,List.mem_map] at h
 simp only [qZ.mk.sizeOf_spec]
 rcases h with ((⟨q,h1,h2⟩ | h) | ⟨x,h1,rfl⟩) | h
 · have a1 := List.sizeOf_lt_of_mem h1
   have a2:=List.sizeOf_lt_of_mem h2
   omega
 · have := List.sizeOf_lt_of_mem h
   omega
 · have a1 := List.sizeOf_lt_of_mem h1
   have a2:SizeOf.sizeOf x=1+SizeOf.sizeOf x.1+SizeOf.sizeOf x.2:=by cases x;rfl
   omega
 · have := List.sizeOf_lt_of_mem h
   omega
theorem PE.sub_lt {e k:PE} {p:PL} (h:p∈e.sub) (hk:k∈p.parts):SizeOf.sizeOf k<SizeOf.sizeOf e:=by
 have a2:=PL.Cz hk
 cases e with
 | mk a b c d u f kids sub =>
   have:=List.sizeOf_lt_of_mem (show p∈sub from h)
   simp only [PE.mk.sizeOf_spec]
   omega
theorem PE.ind {M:PE→Prop} (h:∀ e:PE,(∀ k∈e.kids,M k)→(∀ p∈e.sub,∀ k∈p.parts,M k)→M e) (e:PE):M e:=by
 have:∀ n (e:PE),SizeOf.sizeOf e<n→M e:=by
   intro n
   induction n with
   | zero=>intro e he;omega
   | succ n ih=>exact fun e he=>h e (fun k hk=>ih k (by have:=PE.Ab hk;omega)) (fun p hp k hk=>ih k (by have:=PE.sub_lt hp hk;omega))
 exact this _ e (Nat.lt_succ_self _)
theorem qZ.Zm {α : Type} {p:qZ α} {l:List α} {k : α} (h:l∈p.on) (hk:k∈l):k∈p.parts:=by simp only [qZ.parts,List.mem_append,List.mem_flatten];exact .inl (.inl (.inl ⟨l,h,hk⟩))
theorem qZ.aL {α : Type} {p:qZ α} {k : α} (h:k∈p.xO):k∈p.parts:=by simp only [qZ.parts,List.mem_append];exact .inl (.inl (.inr h))
theorem qZ.dK {α : Type} {p:qZ α} {x : α × Bool} (h:x∈p.order):x.1∈p.parts:=by simp only [qZ.parts,List.mem_append,List.mem_map];exact .inl (.inr ⟨x,h,rfl⟩)
theorem qZ.yS {α : Type} {p:qZ α} {k : α} (h:k∈p.items):k∈p.parts:=by simp only [qZ.parts,List.mem_append];exact .inr h
theorem jm {α : Type} {f : α → V} (sz:Nat) (l:List α) (h1:∀ x∈l,(f x).plain=true) (h2:∀ x,(f x).cells.length=sz):V.plain (.sl 0 (l.map f))=true:=by
 simp only [V.plain,Bool.and_eq_true,beq_self_eq_true,true_and,V.aX,List.all_eq_true,List.mem_map]
 refine ⟨QE (sz:=sz) fun x hx=>?_,?_⟩
 · obtain ⟨y, _, rfl⟩ := List.mem_map.1 hx
   exact h2 y
 · rintro x ⟨y, hy, rfl⟩
   exact h1 y hy
theorem PE.qA (x:PE):x.zF.cells.length=10:=by rw [PE.qK];rfl
theorem PE.xC (x:PL):(PE.xu x).cells.length=8:=by rw [PE.kX];rfl
theorem PL.WA (p:PL) (h:∀ k∈p.parts,k.zF.plain=true):p.v.plain=true:=by
 refine zG (wX _) (zG (jm 1 _ (fun l hl=>jm 10 _ (fun x hx=>h x (qZ.Zm hl hx)) PE.qA) (fun _=>rfl)) (zG (jm 10 _ (fun x hx=>h x (qZ.aL hx)) PE.qA)
   (zG (jm 11 _ (fun x hx=>?_) (fun _=>rfl)) (zG (jm 10 _ (fun x hx=>h x (qZ.yS hx)) PE.qA) (zG (lZ _) rfl)))))
 have:=h _ (qZ.dK hx)
 rw [PE.qK] at this
 simp only [PE.v,V.plain,V.xV,Bool.and_true,Bool.true_and] at this
 simp only [PE.sv,V.plain,V.xV,Bool.and_true,Bool.true_and]
 exact this
theorem PE.plain (x:PE):x.zF.plain=true:=by
 induction x using PE.ind with
 | h e ih1 ih2 =>
   rw [PE.qK]
   refine zG rfl (zG rfl (zG rfl (zG rfl (zG rfl (zG rfl (zG rfl (zG rfl (zG (jm 10 _ ih1 PE.qA) (zG (jm 8 _ (fun p hp=>?_) PE.xC) rfl)))))))))
   rw [PE.kX]
   exact PL.WA p (ih2 p hp)
theorem PE.eu (x:PE):x.v.plain=true:=PE.qK x ▸ PE.plain x
theorem PL.plain (p:PL):p.v.plain=true:=PL.WA p fun k _=>PE.plain k
theorem xY (l:List PE):V.plain (.sl 0 (l.map PE.zF))=true:=jm 10 l (fun x _=>PE.plain x) PE.qA
theorem Qx (l:List (List PE)):V.plain (.sl 0 (l.map PE.vS))=true:=jm 1 l (fun x _=>xY x) (fun _=>rfl)
theorem Jf (l:List PL):V.plain (.sl 0 (l.map PE.xu))=true:=jm 8 l (fun x _=>PE.kX x ▸ PL.plain x) PE.xC
theorem PE.Ac (x:PE × Bool):(PE.sv x).plain=true:=by
 have:=PE.eu x.1
 simp only [PE.v,V.plain,V.xV,Bool.and_true,Bool.true_and] at this
 simp only [PE.sv,V.plain,V.xV,Bool.and_true,Bool.true_and]
 exact this
theorem XO (l:List (PE × Bool)):V.plain (.sl 0 (l.map PE.sv))=true:=jm 11 l (fun x _=>PE.Ac x) (fun _=>rfl)
theorem PE.qC (x:PE):qV x.v=x.value.text.length+qV (.sl 0 (x.kids.map PE.zF))+qV (.sl 0 (x.sub.map PE.xu)):=by simp only [PE.v,qV,wJ];omega
theorem PE.sW (x:PE × Bool):qV (PE.sv x)=qV x.1.v:=by simp only [PE.sv,PE.v,qV,wJ]
theorem PL.qC (p:PL):qV p.v=qV (.sl 0 (p.tables.map iV))+qV (.sl 0 (p.on.map PE.vS))+qV (.sl 0 (p.xO.map PE.zF))+qV (.sl 0 (p.order.map PE.sv))+qV (.sl 0 (p.items.map PE.zF))+qV (.sl 0 (p.names.map sV)):=by
 simp only [PL.v,qV,wJ];omega
theorem PL.nH {p:PL} {k:PE} (h:k∈p.parts):qV k.zF≤qV p.v:=by
 have e:=PL.qC p
 simp only [qZ.parts,List.mem_append,List.mem_flatten,List.mem_map] at h
 rcases h with ((⟨q,h1,h2⟩ | h) | ⟨x,h1,rfl⟩) | h
 · have a1 := uw (f := PE.vS) h1
   have a2:=uw (f:=PE.zF) h2
   simp only [PE.vS] at a1
   omega
 · have := uw (f := PE.zF) h
   omega
 · have a1 := uw (f := PE.sv) h1
   rw [PE.sW, ← PE.qK] at a1
   omega
 · have := uw (f := PE.zF) h
   omega
end Go.Proofs.YtolhegocbkckdaaGreat
