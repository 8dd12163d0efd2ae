/-
  The recursive types of the laws: plans' trees and plans, queries' trees and queries; their values and weights.
  Slices of plans' trees hold no variables.
  Values and whether a row's values fit types, of the program and of the reference.
  What has a type of plans' trees is one.
  Copies, sizes and comparisons of plans' trees and plans. Printed by a program of our own; no condition.
  Own work; no condition.
-/
import Derived.Test.YtolhegocbkckdaaMg10
import Derived.Test.YtolhegocbkckdaaMg11
namespace Go.Proofs.Ytolhegocbkckdaa
open Go
set_option linter.unusedSimpArgs false
set_option linter.unusedVariables false
mutual
def wgt:V→Nat
 | .str s=>s.length
 | .agg cs=>wgtL cs
 | .sl _ xs=>xs.length+wgtL xs
 | .int _ _ | .bool _ | .tup _ | .ptr _ _ | .eptr _ _ | .nilp | .zsl | .nilsl | .slm _ _ _ _ | .fn _ _ | .und | .raw _=>0
def wgtL:List V→Nat
 | []=>0
 | v::vs=>wgt v+wgtL vs
end
theorem wgtL_map {α : Type} (f : α → V):∀ l:List α,wgtL (l.map f)=sumW (fun x=>wgt (f x)) l
 | []=>rfl
 | x::l=>by simp only [List.map_cons,wgtL,wgtL_map f l,sumW,List.sum_cons]
theorem wgt_sl {α : Type} (f : α → V) (l:List α):wgt (.sl 0 (l.map f))=slW (fun x=>wgt (f x)) l:=by simp only [wgt,List.length_map,wgtL_map,slW]
theorem wgt_mem {α : Type} {f : α → V} {l:List α} {x : α} (h:x∈l):wgt (f x)≤wgt (.sl 0 (l.map f)):=by
 obtain ⟨i,hi,rfl⟩:=List.getElem_of_mem h
 rw [wgt_sl]
 exact mem_slW (f:=fun x=>wgt (f x)) hi
theorem wgt_len {α : Type} (f : α → V) (l:List α):l.length≤wgt (.sl 0 (l.map f)):=by rw [wgt_sl];exact len_slW _ l
structure PlanOf (α : Type) where
 tables:List Int
 on:List (List α)
 wher:List α
 order:List (α × Bool)
 items:List α
 names:List (List UInt8)
 distinct:Bool
 limit:Int
inductive PE where
 | mk (kind op:Int) (nt:Bool) (value:Val) (up pos:Int) (kids:List PE) (sub:List (PlanOf PE))
abbrev PL:=PlanOf PE
def PE.kind:PE→Int | .mk a _ _ _ _ _ _ _=>a
def PE.op:PE→Int | .mk _ a _ _ _ _ _ _=>a
def PE.nt:PE→Bool | .mk _ _ a _ _ _ _ _=>a
def PE.value:PE→Val | .mk _ _ _ a _ _ _ _=>a
def PE.up:PE→Int | .mk _ _ _ _ a _ _ _=>a
def PE.pos:PE→Int | .mk _ _ _ _ _ a _ _=>a
def PE.kids:PE→List PE | .mk _ _ _ _ _ _ a _=>a
def PE.sub:PE→List PL | .mk _ _ _ _ _ _ _ a=>a
def PlanOf.parts {α : Type} (p:PlanOf α):List α := p.on.flatten++p.wher++p.order.map (·.1)++p.items
mutual
def PE.toV:PE→V
 | .mk kind op nt value up pos kids sub => .agg [.int .i64 kind,.int .i64 op,.bool nt,.int .i64 value.kind,.int .i64 value.num,.str value.text,.int .i64 up,.int .i64 pos,.sl 0 (PE.toVL kids),.sl 0 (PE.plansV sub)]
def PE.toVL:List PE→List V
 | []=>[]
 | k::ks=>k.toV::PE.toVL ks
def PE.plansV:List (PlanOf PE)→List V
 | []=>[]
 | p::ps=>PE.planV p::PE.plansV ps
def PE.planV:PlanOf PE→V
 | ⟨t,on,w,o,i,n,d,l⟩ => .agg [.sl 0 (t.map iV),.sl 0 (PE.onV on),.sl 0 (PE.toVL w),.sl 0 (PE.orderV o),.sl 0 (PE.toVL i),.sl 0 (n.map sV),.bool d,.int .i64 l]
def PE.onV:List (List PE)→List V
 | []=>[]
 | k::ks => .sl 0 (PE.toVL k)::PE.onV ks
def PE.orderV:List (PE × Bool)→List V
 | []=>[]
 | x::ks=>PE.sortV x::PE.orderV ks
def PE.sortV:PE × Bool→V
 |(e,b) => .agg (e.toV.cells++[.bool b])
end
def PE.v (x:PE):V := .agg [.int .i64 x.kind,.int .i64 x.op,.bool x.nt,.int .i64 x.value.kind,.int .i64 x.value.num,.str x.value.text,.int .i64 x.up,.int .i64 x.pos,.sl 0 (x.kids.map PE.toV),.sl 0 (x.sub.map PE.planV)]
def PE.vS (l:List PE):V := .sl 0 (l.map PE.toV)
def PE.sv (x:PE × Bool):V := .agg [.int .i64 x.1.kind,.int .i64 x.1.op,.bool x.1.nt,.int .i64 x.1.value.kind,.int .i64 x.1.value.num,.str x.1.value.text,.int .i64 x.1.up,.int .i64 x.1.pos,.sl 0 (x.1.kids.map PE.toV),.sl 0 (x.1.sub.map PE.planV),.bool x.2]
def PL.v (p:PL):V := .agg [.sl 0 (p.tables.map iV),.sl 0 (p.on.map PE.vS),.sl 0 (p.wher.map PE.toV),.sl 0 (p.order.map PE.sv),.sl 0 (p.items.map PE.toV),.sl 0 (p.names.map sV),.bool p.distinct,.int .i64 p.limit]
theorem PE.toVL_eq:∀ l:List PE,PE.toVL l=l.map PE.toV
 | []=>rfl
 | x::l=>by simp only [PE.toVL,PE.toVL_eq l,List.map_cons]
theorem PE.plansV_eq:∀ l:List PL,PE.plansV l=l.map PE.planV
 | []=>rfl
 | x::l=>by simp only [PE.plansV,PE.plansV_eq l,List.map_cons]
theorem PE.onV_eq:∀ l:List (List PE),PE.onV l=l.map PE.vS
 | []=>rfl
 | x::l=>by simp only [PE.onV,PE.onV_eq l,List.map_cons,PE.vS,PE.toVL_eq]
theorem PE.toV_eq (x:PE):x.toV=x.v:=by
 cases x
 simp only [PE.toV,PE.v,PE.toVL_eq,PE.plansV_eq,PE.kind,PE.op,PE.nt,PE.value,PE.up,PE.pos,PE.kids,PE.sub]
theorem PE.sortV_eq (x:PE × Bool):PE.sortV x=PE.sv x:=by
 obtain ⟨e,b⟩:=x
 simp only [PE.sortV,PE.toV_eq,PE.v,V.cells,List.cons_append,List.nil_append,PE.sv]
theorem PE.orderV_eq:∀ l:List (PE × Bool),PE.orderV l=l.map PE.sv
 | []=>rfl
 | x::l=>by simp only [PE.orderV,PE.orderV_eq l,List.map_cons,PE.sortV_eq]
theorem PE.planV_eq (p:PL):PE.planV p=PL.v p:=by
 obtain ⟨t,on,w,o,i,n,d,l⟩:=p
 simp only [PE.planV,PL.v,PE.onV_eq,PE.toVL_eq,PE.orderV_eq]
theorem PE.plans_map (l:List PL):l.map PE.planV=l.map PL.v:=List.map_congr_left fun p _=>PE.planV_eq p
theorem PE.kid_lt {e k:PE} (h:k∈e.kids):SizeOf.sizeOf k<SizeOf.sizeOf e:=by
 cases e with
 | mk a b c d u f kids sub =>
   have:=List.sizeOf_lt_of_mem (show k∈kids from h)
   simp only [PE.mk.sizeOf_spec]
   omega
theorem PL.part_lt {p:PL} {k:PE} (h:k∈p.parts):SizeOf.sizeOf k<SizeOf.sizeOf p:=by
 obtain ⟨t,on,w,o,i,n,d,l⟩:=p
 simp only [PlanOf.parts,List.mem_append,List.mem_flatten,List.mem_map] at h
 simp only [PlanOf.mk.sizeOf_spec]
 rcases h with ((⟨q,h1,h2⟩ | h) | ⟨x,h1,rfl⟩) | h
 · have a1:=List.sizeOf_lt_of_mem h1
   have a2:=List.sizeOf_lt_of_mem h2
   omega
 · have:=List.sizeOf_lt_of_mem h
   omega
 · have a1:=List.sizeOf_lt_of_mem h1
   have a2:SizeOf.sizeOf x=1+SizeOf.sizeOf x.1+SizeOf.sizeOf x.2:=by cases x;rfl
   omega
 · have:=List.sizeOf_lt_of_mem h
   omega
theorem PE.sub_lt {e k:PE} {p:PL} (h:p∈e.sub) (hk:k∈p.parts):SizeOf.sizeOf k<SizeOf.sizeOf e:=by
 have a2:=PL.part_lt hk
 cases e with
 | mk a b c d u f kids sub =>
   have:=List.sizeOf_lt_of_mem (show p∈sub from h)
   simp only [PE.mk.sizeOf_spec]
   omega
theorem PE.ind {M:PE→Prop} (h:∀ e:PE,(∀ k∈e.kids,M k)→(∀ p∈e.sub,∀ k∈p.parts,M k)→M e) (e:PE):M e:=by
 have:∀ n (e:PE),SizeOf.sizeOf e<n→M e:=by
   intro n
   induction n with
   | zero=>intro e he;omega
   | succ n ih=>exact fun e he=>h e (fun k hk=>ih k (by have:=PE.kid_lt hk;omega)) (fun p hp k hk=>ih k (by have:=PE.sub_lt hp hk;omega))
 exact this _ e (Nat.lt_succ_self _)
theorem PlanOf.mem_on {α : Type} {p:PlanOf α} {l:List α} {k : α} (h:l∈p.on) (hk:k∈l):k∈p.parts:=by simp only [PlanOf.parts,List.mem_append,List.mem_flatten];exact .inl (.inl (.inl ⟨l,h,hk⟩))
theorem PlanOf.mem_wher {α : Type} {p:PlanOf α} {k : α} (h:k∈p.wher):k∈p.parts:=by simp only [PlanOf.parts,List.mem_append];exact .inl (.inl (.inr h))
theorem PlanOf.mem_order {α : Type} {p:PlanOf α} {x : α × Bool} (h:x∈p.order):x.1∈p.parts:=by simp only [PlanOf.parts,List.mem_append,List.mem_map];exact .inl (.inr ⟨x,h,rfl⟩)
theorem PlanOf.mem_items {α : Type} {p:PlanOf α} {k : α} (h:k∈p.items):k∈p.parts:=by simp only [PlanOf.parts,List.mem_append];exact .inr h
theorem plain_slice {α : Type} {f : α → V} (sz:Nat) (l:List α) (h1:∀ x∈l,(f x).plain=true) (h2:∀ x,(f x).cells.length=sz):V.plain (.sl 0 (l.map f))=true:=by
 simp only [V.plain,Bool.and_eq_true,beq_self_eq_true,true_and,V.plainL_eq,List.all_eq_true,List.mem_map]
 refine ⟨sameSz_of (sz:=sz) fun x hx=>?_,?_⟩
 · obtain ⟨y,_,rfl⟩:=List.mem_map.1 hx
   exact h2 y
 · rintro x ⟨y,hy,rfl⟩
   exact h1 y hy
theorem PE.cells_len (x:PE):x.toV.cells.length=10:=by rw [PE.toV_eq];rfl
theorem PE.planV_len (x:PL):(PE.planV x).cells.length=8:=by rw [PE.planV_eq];rfl
theorem PL.plain_r (p:PL) (h:∀ k∈p.parts,k.toV.plain=true):p.v.plain=true:=by
 refine plainL_cons (plain_IntS _) (plainL_cons (plain_slice 1 _ (fun l hl=>plain_slice 10 _ (fun x hx=>h x (PlanOf.mem_on hl hx)) PE.cells_len) (fun _=>rfl)) (plainL_cons (plain_slice 10 _ (fun x hx=>h x (PlanOf.mem_wher hx)) PE.cells_len)
   (plainL_cons (plain_slice 11 _ (fun x hx=>?_) (fun _=>rfl)) (plainL_cons (plain_slice 10 _ (fun x hx=>h x (PlanOf.mem_items hx)) PE.cells_len) (plainL_cons (plain_StringS _) rfl)))))
 have:=h _ (PlanOf.mem_order hx)
 rw [PE.toV_eq] at this
 simp only [PE.v,V.plain,V.plainL,Bool.and_true,Bool.true_and] at this
 simp only [PE.sv,V.plain,V.plainL,Bool.and_true,Bool.true_and]
 exact this
theorem PE.plain (x:PE):x.toV.plain=true:=by
 induction x using PE.ind with
 | h e ih1 ih2 =>
   rw [PE.toV_eq]
   refine plainL_cons rfl (plainL_cons rfl (plainL_cons rfl (plainL_cons rfl (plainL_cons rfl (plainL_cons rfl (plainL_cons rfl (plainL_cons rfl (plainL_cons (plain_slice 10 _ ih1 PE.cells_len) (plainL_cons (plain_slice 8 _ (fun p hp=>?_) PE.planV_len) rfl)))))))))
   rw [PE.planV_eq]
   exact PL.plain_r p (ih2 p hp)
theorem PE.plainv (x:PE):x.v.plain=true:=PE.toV_eq x ▸ PE.plain x
theorem PL.plain (p:PL):p.v.plain=true:=PL.plain_r p fun k _=>PE.plain k
theorem plain_PExprS (l:List PE):V.plain (.sl 0 (l.map PE.toV))=true:=plain_slice 10 l (fun x _=>PE.plain x) PE.cells_len
theorem plain_PExprSS (l:List (List PE)):V.plain (.sl 0 (l.map PE.vS))=true:=plain_slice 1 l (fun x _=>plain_PExprS x) (fun _=>rfl)
theorem plain_PlanS (l:List PL):V.plain (.sl 0 (l.map PE.planV))=true:=plain_slice 8 l (fun x _=>PE.planV_eq x ▸ PL.plain x) PE.planV_len
theorem PE.plains (x:PE × Bool):(PE.sv x).plain=true:=by
 have:=PE.plainv x.1
 simp only [PE.v,V.plain,V.plainL,Bool.and_true,Bool.true_and] at this
 simp only [PE.sv,V.plain,V.plainL,Bool.and_true,Bool.true_and]
 exact this
theorem plain_PSortS (l:List (PE × Bool)):V.plain (.sl 0 (l.map PE.sv))=true:=plain_slice 11 l (fun x _=>PE.plains x) (fun _=>rfl)
theorem PE.wgt_eq (x:PE):wgt x.v=x.value.text.length+wgt (.sl 0 (x.kids.map PE.toV))+wgt (.sl 0 (x.sub.map PE.planV)):=by simp only [PE.v,wgt,wgtL];omega
theorem PE.wgt_eqs (x:PE × Bool):wgt (PE.sv x)=wgt x.1.v:=by simp only [PE.sv,PE.v,wgt,wgtL]
theorem PL.wgt_eq (p:PL):wgt p.v=wgt (.sl 0 (p.tables.map iV))+wgt (.sl 0 (p.on.map PE.vS))+wgt (.sl 0 (p.wher.map PE.toV))+wgt (.sl 0 (p.order.map PE.sv))+wgt (.sl 0 (p.items.map PE.toV))+wgt (.sl 0 (p.names.map sV)):=by
 simp only [PL.v,wgt,wgtL];omega
theorem PL.wgt_part {p:PL} {k:PE} (h:k∈p.parts):wgt k.toV≤wgt p.v:=by
 have e:=PL.wgt_eq p
 simp only [PlanOf.parts,List.mem_append,List.mem_flatten,List.mem_map] at h
 rcases h with ((⟨q,h1,h2⟩ | h) | ⟨x,h1,rfl⟩) | h
 · have a1:=wgt_mem (f:=PE.vS) h1
   have a2:=wgt_mem (f:=PE.toV) h2
   simp only [PE.vS] at a1
   omega
 · have:=wgt_mem (f:=PE.toV) h
   omega
 · have a1:=wgt_mem (f:=PE.sv) h1
   rw [PE.wgt_eqs, ← PE.toV_eq] at a1
   omega
 · have:=wgt_mem (f:=PE.toV) h
   omega
end Go.Proofs.Ytolhegocbkckdaa

namespace Go.Proofs.Ytolhegocbkckdaa
open Go
theorem plainL_of' {id:Nat} {xs:List V} (h:V.plain (.sl id xs)=true):V.plainL xs=true:=by
 simp only [V.plain,Bool.and_eq_true] at h
 exact h.2
@[simp] theorem PE.under_S (n:Nat) (l:List PE):V.underL n (l.map PE.toV)=true:=underL_dat (plainL_dat _ (plainL_of' (plain_PExprS l)))
@[simp] theorem PE.under_SS (n:Nat) (l:List (List PE)):V.underL n (l.map PE.vS)=true:=underL_dat (plainL_dat _ (plainL_of' (plain_PExprSS l)))
@[simp] theorem PE.under_O (n:Nat) (l:List (PE × Bool)):V.underL n (l.map PE.sv)=true:=underL_dat (plainL_dat _ (plainL_of' (plain_PSortS l)))
@[simp] theorem PE.under_P (n:Nat) (l:List PL):V.underL n (l.map PE.planV)=true:=underL_dat (plainL_dat _ (plainL_of' (plain_PlanS l)))
end Go.Proofs.Ytolhegocbkckdaa

namespace Go.Proofs.Ytolhegocbkckdaa
open Go
set_option linter.unusedSimpArgs false
set_option linter.unusedVariables false
def inR (x lo hi:Int):Bool:=decide (lo≤x)&&decide (x≤hi)
theorem specl1In_v (x lo hi:Int) (s:S):VCalls Try.prog 36 [.int .i64 x,.int .i64 lo,.int .i64 hi] s (fun v s'=>v = .bool (inR x lo hi)∧s'=s):=by
 refine LCalls.pure Try.func36 rfl (by kernel_rfl) (by simp) ?_
 repeat' first |(refine kOps ?_;first |(refine LOps.nil ?_) |(refine kG ?_;first |(refine LOps.gT rfl rfl rfl ?_) |(refine LOps.gF rfl rfl rfl ?_) |(refine LOps.gC rfl rfl rfl (fun h=>?_) (fun h=>?_))) |(refine LOps.ev tT_ok rfl ?_)) |(refine kWL ?_;first |(refine WL.seq ?_) |(refine WL.region (by kernel_rfl) ?_) |(refine WL.ret ?_)) |(refine lthen_n ?_) |(refine LPost.r1 (r := .tmp 6) (.inl rfl) (Res1.tmp rfl) ?_) |(refine PureR.mk ?_)
 all_goals (simp_all [inR] <;> omega)
def Val.ok (v:Val):Bool :=
 if v.kind=0 then decide (v.num=0)&&decide (v.text=[]) else if v.kind=1 then decide (v.text=[]) else
 if v.kind=2 then decide (v.num=0)&&decide ((v.text.length:Int)≤200) else if v.kind=3 then inR v.num 0 1&&decide (v.text=[]) else false
def Val.fits (v:Val) (ty:Int):Bool:=v.ok&&(decide (v.kind=0) || decide (v.kind=ty))
theorem inR01 {n:Int}:inR n 0 1=(decide (n=0) || decide (n=1)):=by
 unfold inR
 by_cases h0:n=0
 · subst h0;decide
 by_cases h1:n=1
 · subst h1;decide
 simp only [h0,h1,decide_false,Bool.or_self,Bool.and_eq_false_iff,decide_eq_false_iff_not]
 omega
theorem specValueOk_v (v:Val) (s:S):VCalls Try.prog 152 [v.toV] s (fun r s'=>r = .bool v.ok∧s'=s):=by
 refine LCalls.pure Try.func152 rfl (by kernel_rfl) (by simp) ?_
 repeat' first |(refine kOps ?_;first |(refine LOps.nil ?_) |(refine kG ?_;first |(refine LOps.gT rfl rfl rfl ?_) |(refine LOps.gF rfl rfl rfl ?_) |(refine LOps.gC rfl rfl rfl (fun h=>?_) (fun h=>?_))) |(refine LOps.ev tT_ok rfl ?_) |(refine kBox ?_;refine LOps.box rfl rfl rfl rfl ?_) |(refine kLoad ?_;first |(refine LOps.ans (AnsL.loadP tT_ok rfl rfl rfl rfl) ?_)) |(refine kCallN 36 ?_;first |(refine LOps.ans (AnsL.callP rfl rfl rfl (ok36) (specl1In_v _ _ _ _)) ?_))) |(refine kWL ?_;first |(refine WL.seq ?_) |(refine WL.region (by kernel_rfl) ?_) |(refine WL.block ?_) |(refine WL.skip ?_) |(refine WL.ret ?_) |(refine kCond ?_;first |(refine WL.cond rfl (fun h=>?_) (fun h=>?_)))) |(refine lthen_n ?_) |(refine lthen_r ?_) |(refine lblock_n ?_) |(refine lblock_r ?_) |(refine LPost.r1 (r := .tmp 2) (.inl rfl) (Res1.tmp rfl) ?_) |(refine PureR.mk ?_)
 all_goals simp_all [Val.ok]
theorem implValueOk_v (v:Val) (s:S):VCalls Try.prog 148 [v.toV] s (fun r s'=>r = .bool v.ok∧s'=s):=by
 refine LCalls.pure Try.func148 rfl (by kernel_rfl) (by simp) ?_
 repeat' first |(refine kOps ?_;first |(refine LOps.nil ?_) |(refine kG ?_;first |(refine LOps.gT rfl rfl rfl ?_) |(refine LOps.gF rfl rfl rfl ?_) |(refine LOps.gC rfl rfl rfl (fun h=>?_) (fun h=>?_))) |(refine LOps.ev tT_ok rfl ?_) |(refine kBox ?_;refine LOps.box rfl rfl rfl rfl ?_) |(refine kLoad ?_;first |(refine LOps.ans (AnsL.loadP tT_ok rfl rfl rfl rfl) ?_))) |(refine kWL ?_;first |(refine WL.seq ?_) |(refine WL.region (by kernel_rfl) ?_) |(refine WL.block ?_) |(refine WL.skip ?_) |(refine WL.ret ?_) |(refine kCond ?_;first |(refine WL.cond rfl (fun h=>?_) (fun h=>?_)))) |(refine lthen_n ?_) |(refine lthen_r ?_) |(refine lblock_n ?_) |(refine lblock_r ?_) |(refine LPost.r1 (r := .tmp 2) (.inl rfl) (Res1.tmp rfl) ?_) |(refine PureR.mk ?_)
 all_goals simp_all [Val.ok,inR01]
def fitsAll:List Val→List Int→Bool
 | v::vs,t::ts=>v.fits t&&fitsAll vs ts
 | _,_=>true
def rowFits (row:List Val) (types:List Int):Bool:=decide (row.length=types.length)&&fitsAll row types
end Go.Proofs.Ytolhegocbkckdaa

namespace Go.Proofs.Ytolhegocbkckdaa
open Go
set_option linter.unusedSimpArgs false
set_option linter.unusedVariables false
end Go.Proofs.Ytolhegocbkckdaa

namespace Go.Proofs.Ytolhegocbkckdaa
open Go
set_option linter.unusedSimpArgs false
set_option linter.unusedVariables false
def ToC (P:Program) (g:FuncId) (d:V):Prop:=∀ t:S,VCalls P g [d] t (fun v t'=>Own2 d v t')
def SzC (P:Program) (g:FuncId) (d:V):Prop:=∀ (left:Int) (s:S),0≤left→left≤1048576→VCalls P g [d,.int .i64 left] s (fun v s'=>v = .int .i64 (szI (wgt d) left)∧s'=s)
def EqC (P:Program) (g:FuncId) (d:V):Prop:=∀ s:S,VCalls P g [d,d] s (fun v s'=>v = .bool true∧s'=s)
theorem ToC.pure {P:Program} {g:FuncId} {d:V} (h:ToC P g d) (hd:d.plain=true) (s:S):VCalls P g [d] s (fun v s'=>v=d∧s'=s):=VCalls.pureOf (plainL_cons hd rfl) hd h s
theorem plainL_of {id:Nat} {xs:List V} (h:V.plain (.sl id xs)=true):V.plainL xs=true:=by
 simp only [V.plain,Bool.and_eq_true] at h
 exact h.2
theorem PE.wgt_eq2 (x:PE):wgt x.v=x.value.wt+wgt (.sl 0 (x.kids.map PE.toV))+wgt (.sl 0 (x.sub.map PE.planV)):=PE.wgt_eq x
theorem PExprS_len (l:List PE):∀ x∈l.map PE.toV,x.cells.length=10:=by
 intro v hv
 obtain ⟨x,_,rfl⟩:=List.mem_map.1 hv
 rw [PE.toV_eq];rfl
theorem PExprS_wgt (l:List PE):wgt (.sl 0 (l.map PE.toV))=slW (fun x=>wgt (PE.v x)) l:=by
 rw [wgt_sl]
 simp only [PE.toV_eq]
theorem PExprSS_len (l:List (List PE)):∀ x∈l.map PE.vS,x.cells.length=1:=by
 intro v hv
 obtain ⟨x,_,rfl⟩:=List.mem_map.1 hv
 rfl
theorem PExprSS_wgt (l:List (List PE)):wgt (.sl 0 (l.map PE.vS))=slW (fun x=>wgt (PE.vS x)) l:=by
 rw [wgt_sl]
theorem PSortS_len (l:List (PE × Bool)):∀ x∈l.map PE.sv,x.cells.length=11:=by
 intro v hv
 obtain ⟨x,_,rfl⟩:=List.mem_map.1 hv
 rfl
theorem PSortS_wgt (l:List (PE × Bool)):wgt (.sl 0 (l.map PE.sv))=slW (fun x=>wgt (PE.sv x)) l:=by
 rw [wgt_sl]
theorem PlanS_len (l:List PL):∀ x∈l.map PE.planV,x.cells.length=8:=by
 intro v hv
 obtain ⟨x,_,rfl⟩:=List.mem_map.1 hv
 rw [PE.planV_eq];rfl
theorem PlanS_wgt (l:List PL):wgt (.sl 0 (l.map PE.planV))=slW (fun x=>wgt (PL.v x)) l:=by
 rw [wgt_sl]
 simp only [PE.planV_eq]
theorem PE.thw_v (m:Nat) (e:PE):(thw m (PE.v e)).1 = .agg [.int .i64 e.kind,.int .i64 e.op,.bool e.nt,.int .i64 e.value.kind,.int .i64 e.value.num,.str e.value.text,.int .i64 e.up,.int .i64 e.pos,(thw m (.sl 0 (e.kids.map PE.toV))).1,(thw (m+cv (.sl 0 (e.kids.map PE.toV))) (.sl 0 (e.sub.map PE.planV))).1]:=by
 simp only [PE.v,thw_agg,thwL_nil,thwL_int,thwL_str,thwL_bool,thwL_sl]
theorem PE.wgt_kid {e k:PE} (h:k∈e.kids):wgt k.v≤wgt e.v:=by
 have h1:=wgt_mem (f:=PE.toV) h
 rw [PE.toV_eq] at h1
 have:=PE.wgt_eq2 e
 omega
theorem PE.wgt_sub {e:PE} {p:PL} (h:p∈e.sub):wgt p.v≤wgt e.v:=by
 have h1:=wgt_mem (f:=PE.planV) h
 rw [PE.planV_eq] at h1
 have:=PE.wgt_eq2 e
 omega
theorem PL.wgt_part2 {p:PL} {k:PE} (h:k∈p.parts):wgt k.v≤wgt p.v:=by
 have:=PL.wgt_part h
 rwa [PE.toV_eq] at this
theorem PL.wgt_on {p:PL} {l:List PE} (h:l∈p.on):wgt (.sl 0 (l.map PE.toV))≤wgt p.v:=by
 have h1:=wgt_mem (f:=PE.vS) h
 have:=PL.wgt_eq p
 simp only [PE.vS] at h1
 omega
end Go.Proofs.Ytolhegocbkckdaa
