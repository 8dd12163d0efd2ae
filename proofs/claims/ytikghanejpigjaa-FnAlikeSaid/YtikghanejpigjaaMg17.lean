/-
  Strings of bytes that a law is given.
  The recursive types of the laws: plans' trees and plans, queries' trees and queries; their values and weights.
  Own work; no condition.
-/
import Derived.Test.YtikghanejpigjaaDCur
import Derived.Test.YtikghanejpigjaaVRow
import Derived.Test.YtikghanejpigjaaMg10
import Derived.Test.YtikghanejpigjaaMg15
namespace Go.Proofs.Ytikghanejpigjaa
open Go
set_option linter.unusedSimpArgs false
set_option linter.unusedVariables false
theorem bytes_list:∀ {xs:List V},(∀ x∈xs,∃ m:Int,x = .int .u8 m)→V.wfL xs=true→∃ bs:List UInt8,xs=bs.map byteV
 | [],_,_=>⟨[],rfl⟩
 | x::xs,h,hw=>by
   simp only [V.wfL,Bool.and_eq_true] at hw
   obtain ⟨m,rfl⟩:=h x (by simp)
   obtain ⟨bs,rfl⟩:=bytes_list (xs:=xs) (fun y hy=>h y (by simp [hy])) hw.2
   have hm:=hw.1
   simp only [V.wf,min_u8,max_u8,Bool.and_eq_true,decide_eq_true_eq] at hm
   refine ⟨UInt8.ofNat m.toNat::bs,?_⟩
   simp only [List.map_cons,byteV,UInt8.toNat_ofNat']
   congr 2
   omega
theorem bytes_has {P:Program} {n:Nat} {t e:TypeId} {v:V} (ht:P.underlying t=some (.slice e)) (he:P.underlying e=some (.int .u8)) (h:Has P n t v) (hw:v.wf=true):Bytes v:=by
 rcases Has.slice ht h with rfl | ⟨n,xs,rfl,hx⟩
 · exact .inl rfl
 · simp only [V.wf, Bool.and_eq_true, decide_eq_true_eq] at hw
   obtain ⟨bs,rfl⟩:=bytes_list (fun x hx'=>Has.int he (hx x hx')) hw.2
   exact .inr ⟨bs,rfl,by simpa using hw.1⟩
theorem big_v {b:V} (hb:Bytes b):∃ c:Bool,∀ s:S,VCalls Try.prog 5 [b] s (fun v s'=>v = .bool c∧s'=s):=by
 rcases hb with rfl | ⟨bs,rfl,hlen⟩
 · refine ⟨false, fun s => ?_⟩
   refine LCalls.pure Try.func5 rfl (by kernel_rfl) (by simp) ?_
   repeat' first |(refine kOps ?_;first |(refine LOps.nil ?_) |(refine LOps.ev tT_ok rfl ?_) |(refine kLen ?_;first |(refine LOps.ans (AnsL.lenM tT_ok rfl rfl rfl) ?_) |(refine LOps.ans (AnsL.lenS tT_ok rfl rfl rfl rfl) ?_) |(refine LOps.ans (AnsL.lenG tT_ok rfl rfl rfl) ?_))) |(refine kWL ?_;first |(refine WL.seq ?_) |(refine WL.region (by kernel_rfl) ?_) |(refine WL.skip ?_) |(refine WL.ret ?_) |(refine kCond ?_;first |(refine WL.condT rfl ?_) |(refine WL.condF rfl ?_) |(refine WL.condT' rfl ?_ ?_;(focus (first |(assumption) |(exact decide_eq_true (by assumption)) |(exact decide_eq_false (by assumption)) |(simp <;> omega) |(simp <;> fail)))) |(refine WL.condF' rfl ?_ ?_;(focus (first |(assumption) |(exact decide_eq_true (by assumption)) |(exact decide_eq_false (by assumption)) |(simp <;> omega) |(simp <;> fail)))) |(refine WL.cond rfl (fun h=>?_) (fun h=>?_)))) |(refine lthen_n ?_) |(refine lthen_r ?_) |(refine lback_r ?_) |(refine lback_e ?_) |(refine lbackD_r ?_) |(refine lbackD_e ?_) |(refine lbackH_r ?_) |(refine lbackH_e ?_) |(refine LPost.r1 (r := .tmp 2) (.inl rfl) (Res1.tmp rfl) ?_) |(refine PureR.mk ?_)
   rfl
 · refine ⟨decide ((1048576 : Int) < bs.length), fun s => ?_⟩
   refine LCalls.pure Try.func5 rfl (by kernel_rfl) (by simp) ?_
   repeat' first |(refine kOps ?_;first |(refine LOps.nil ?_) |(refine LOps.ev tT_ok rfl ?_) |(refine kLen ?_;first |(refine LOps.ans (AnsL.lenM tT_ok rfl rfl rfl) ?_) |(refine LOps.ans (AnsL.lenS tT_ok rfl rfl rfl rfl) ?_) |(refine LOps.ans (AnsL.lenG tT_ok rfl rfl rfl) ?_))) |(refine kWL ?_;first |(refine WL.seq ?_) |(refine WL.region (by kernel_rfl) ?_) |(refine WL.skip ?_) |(refine WL.ret ?_) |(refine kCond ?_;first |(refine WL.condT rfl ?_) |(refine WL.condF rfl ?_) |(refine WL.condT' rfl ?_ ?_;(focus (first |(assumption) |(exact decide_eq_true (by assumption)) |(exact decide_eq_false (by assumption)) |(simp <;> omega) |(simp <;> fail)))) |(refine WL.condF' rfl ?_ ?_;(focus (first |(assumption) |(exact decide_eq_true (by assumption)) |(exact decide_eq_false (by assumption)) |(simp <;> omega) |(simp <;> fail)))) |(refine WL.cond rfl (fun h=>?_) (fun h=>?_)))) |(refine lthen_n ?_) |(refine lthen_r ?_) |(refine lback_r ?_) |(refine lback_e ?_) |(refine lbackD_r ?_) |(refine lbackD_e ?_) |(refine lbackH_r ?_) |(refine lbackH_e ?_) |(refine LPost.r1 (r := .tmp 2) (.inl rfl) (Res1.tmp rfl) ?_) |(refine PureR.mk ?_)
   rfl
end Go.Proofs.Ytikghanejpigjaa

namespace Go.Proofs.Ytikghanejpigjaa
open Go
set_option linter.unusedSimpArgs false
set_option linter.unusedVariables false
mutual
def wgt:V→Nat
 | .str s=>s.length
 | .agg cs=>wgtL cs
 | .sl _ xs=>xs.length+wgtL xs
 | .int _ _ | .bool _ | .tup _ | .ptr _ _ | .eptr _ _ | .nilp | .zsl | .nilsl | .slm _ _ _ _ | .fn _ _ | .und | .raw _=>0
def wgtL:List V→Nat
 | []=>0
 | v::vs=>wgt v+wgtL vs
end
theorem wgtL_map {α : Type} (f : α → V):∀ l:List α,wgtL (l.map f)=sumW (fun x=>wgt (f x)) l
 | []=>rfl
 | x::l=>by simp only [List.map_cons,wgtL,wgtL_map f l,sumW,List.sum_cons]
theorem wgt_sl {α : Type} (f : α → V) (l:List α):wgt (.sl 0 (l.map f))=slW (fun x=>wgt (f x)) l:=by simp only [wgt,List.length_map,wgtL_map,slW]
theorem wgt_mem {α : Type} {f : α → V} {l:List α} {x : α} (h:x∈l):wgt (f x)≤wgt (.sl 0 (l.map f)):=by
 obtain ⟨i,hi,rfl⟩:=List.getElem_of_mem h
 rw [wgt_sl]
 exact mem_slW (f:=fun x=>wgt (f x)) hi
theorem wgt_len {α : Type} (f : α → V) (l:List α):l.length≤wgt (.sl 0 (l.map f)):=by rw [wgt_sl];exact len_slW _ l
structure PlanOf (α : Type) where
 tables:List Int
 on:List (List α)
 wher:List α
 order:List (α × Bool)
 items:List α
 names:List (List UInt8)
 distinct:Bool
 limit:Int
inductive PE where
 | mk (kind op:Int) (nt:Bool) (value:Val) (up pos:Int) (kids:List PE) (sub:List (PlanOf PE))
abbrev PL:=PlanOf PE
def PE.kind:PE→Int | .mk a _ _ _ _ _ _ _=>a
def PE.op:PE→Int | .mk _ a _ _ _ _ _ _=>a
def PE.nt:PE→Bool | .mk _ _ a _ _ _ _ _=>a
def PE.value:PE→Val | .mk _ _ _ a _ _ _ _=>a
def PE.up:PE→Int | .mk _ _ _ _ a _ _ _=>a
def PE.pos:PE→Int | .mk _ _ _ _ _ a _ _=>a
def PE.kids:PE→List PE | .mk _ _ _ _ _ _ a _=>a
def PE.sub:PE→List PL | .mk _ _ _ _ _ _ _ a=>a
def PlanOf.parts {α : Type} (p:PlanOf α):List α := p.on.flatten++p.wher++p.order.map (·.1)++p.items
mutual
def PE.toV:PE→V
 | .mk kind op nt value up pos kids sub => .agg [.int .i64 kind,.int .i64 op,.bool nt,.int .i64 value.kind,.int .i64 value.num,.str value.text,.int .i64 up,.int .i64 pos,.sl 0 (PE.toVL kids),.sl 0 (PE.plansV sub)]
def PE.toVL:List PE→List V
 | []=>[]
 | k::ks=>k.toV::PE.toVL ks
def PE.plansV:List (PlanOf PE)→List V
 | []=>[]
 | p::ps=>PE.planV p::PE.plansV ps
def PE.planV:PlanOf PE→V
 | ⟨t,on,w,o,i,n,d,l⟩ => .agg [.sl 0 (t.map iV),.sl 0 (PE.onV on),.sl 0 (PE.toVL w),.sl 0 (PE.orderV o),.sl 0 (PE.toVL i),.sl 0 (n.map sV),.bool d,.int .i64 l]
def PE.onV:List (List PE)→List V
 | []=>[]
 | k::ks => .sl 0 (PE.toVL k)::PE.onV ks
def PE.orderV:List (PE × Bool)→List V
 | []=>[]
 | x::ks=>PE.sortV x::PE.orderV ks
def PE.sortV:PE × Bool→V
 |(e,b) => .agg (e.toV.cells++[.bool b])
end
def PE.v (x:PE):V := .agg [.int .i64 x.kind,.int .i64 x.op,.bool x.nt,.int .i64 x.value.kind,.int .i64 x.value.num,.str x.value.text,.int .i64 x.up,.int .i64 x.pos,.sl 0 (x.kids.map PE.toV),.sl 0 (x.sub.map PE.planV)]
def PE.vS (l:List PE):V := .sl 0 (l.map PE.toV)
def PE.sv (x:PE × Bool):V := .agg [.int .i64 x.1.kind,.int .i64 x.1.op,.bool x.1.nt,.int .i64 x.1.value.kind,.int .i64 x.1.value.num,.str x.1.value.text,.int .i64 x.1.up,.int .i64 x.1.pos,.sl 0 (x.1.kids.map PE.toV),.sl 0 (x.1.sub.map PE.planV),.bool x.2]
def PL.v (p:PL):V := .agg [.sl 0 (p.tables.map iV),.sl 0 (p.on.map PE.vS),.sl 0 (p.wher.map PE.toV),.sl 0 (p.order.map PE.sv),.sl 0 (p.items.map PE.toV),.sl 0 (p.names.map sV),.bool p.distinct,.int .i64 p.limit]
theorem PE.toVL_eq:∀ l:List PE,PE.toVL l=l.map PE.toV
 | []=>rfl
 | x::l=>by simp only [PE.toVL,PE.toVL_eq l,List.map_cons]
theorem PE.plansV_eq:∀ l:List PL,PE.plansV l=l.map PE.planV
 | []=>rfl
 | x::l=>by simp only [PE.plansV,PE.plansV_eq l,List.map_cons]
theorem PE.onV_eq:∀ l:List (List PE),PE.onV l=l.map PE.vS
 | []=>rfl
 | x::l=>by simp only [PE.onV,PE.onV_eq l,List.map_cons,PE.vS,PE.toVL_eq]
theorem PE.toV_eq (x:PE):x.toV=x.v:=by
 cases x
 simp only [PE.toV,PE.v,PE.toVL_eq,PE.plansV_eq,PE.kind,PE.op,PE.nt,PE.value,PE.up,PE.pos,PE.kids,PE.sub]
theorem PE.sortV_eq (x:PE × Bool):PE.sortV x=PE.sv x:=by
 obtain ⟨e,b⟩:=x
 simp only [PE.sortV,PE.toV_eq,PE.v,V.cells,List.cons_append,List.nil_append,PE.sv]
theorem PE.orderV_eq:∀ l:List (PE × Bool),PE.orderV l=l.map PE.sv
 | []=>rfl
 | x::l=>by simp only [PE.orderV,PE.orderV_eq l,List.map_cons,PE.sortV_eq]
theorem PE.planV_eq (p:PL):PE.planV p=PL.v p:=by
 obtain ⟨t,on,w,o,i,n,d,l⟩:=p
 simp only [PE.planV,PL.v,PE.onV_eq,PE.toVL_eq,PE.orderV_eq]
theorem PE.plans_map (l:List PL):l.map PE.planV=l.map PL.v:=List.map_congr_left fun p _=>PE.planV_eq p
theorem PE.kid_lt {e k:PE} (h:k∈e.kids):SizeOf.sizeOf k<SizeOf.sizeOf e:=by
 cases e with
 | mk a b c d u f kids sub =>
   have:=List.sizeOf_lt_of_mem (show k∈kids from h)
   simp only [PE.mk.sizeOf_spec]
   omega
theorem PL.part_lt {p:PL} {k:PE} (h:k∈p.parts):SizeOf.sizeOf k<SizeOf.sizeOf p:=by
 obtain ⟨t,on,w,o,i,n,d,l⟩:=p
 simp only [PlanOf.parts,List.mem_append,List.mem_flatten,List.mem_map] at h
 simp only [PlanOf.mk.sizeOf_spec]
 rcases h with ((⟨q,h1,h2⟩ | h) | ⟨x,h1,rfl⟩) | h
 · have a1 := List.sizeOf_lt_of_mem h1
   have a2:=List.sizeOf_lt_of_mem h2
   omega
 · have := List.sizeOf_lt_of_mem h
   omega
 · have a1 := List.sizeOf_lt_of_mem h1
   have a2:SizeOf.sizeOf x=1+SizeOf.sizeOf x.1+SizeOf.sizeOf x.2:=by cases x;rfl
   omega
 · have := List.sizeOf_lt_of_mem h
   omega
theorem PE.sub_lt {e k:PE} {p:PL} (h:p∈e.sub) (hk:k∈p.parts):SizeOf.sizeOf k<SizeOf.sizeOf e:=by
 have a2:=PL.part_lt hk
 cases e with
 | mk a b c d u f kids sub =>
   have:=List.sizeOf_lt_of_mem (show p∈sub from h)
   simp only [PE.mk.sizeOf_spec]
   omega
theorem PE.ind {M:PE→Prop} (h:∀ e:PE,(∀ k∈e.kids,M k)→(∀ p∈e.sub,∀ k∈p.parts,M k)→M e) (e:PE):M e:=by
 have:∀ n (e:PE),SizeOf.sizeOf e<n→M e:=by
   intro n
   induction n with
   | zero=>intro e he;omega
   | succ n ih=>exact fun e he=>h e (fun k hk=>ih k (by have:=PE.kid_lt hk;omega)) (fun p hp k hk=>ih k (by have:=PE.sub_lt hp hk;omega))
 exact this _ e (Nat.lt_succ_self _)
theorem PlanOf.mem_on {α : Type} {p:PlanOf α} {l:List α} {k : α} (h:l∈p.on) (hk:k∈l):k∈p.parts:=by simp only [PlanOf.parts,List.mem_append,List.mem_flatten];exact .inl (.inl (.inl ⟨l,h,hk⟩))
theorem PlanOf.mem_wher {α : Type} {p:PlanOf α} {k : α} (h:k∈p.wher):k∈p.parts:=by simp only [PlanOf.parts,List.mem_append];exact .inl (.inl (.inr h))
theorem PlanOf.mem_order {α : Type} {p:PlanOf α} {x : α × Bool} (h:x∈p.order):x.1∈p.parts:=by simp only [PlanOf.parts,List.mem_append,List.mem_map];exact .inl (.inr ⟨x,h,rfl⟩)
theorem PlanOf.mem_items {α : Type} {p:PlanOf α} {k : α} (h:k∈p.items):k∈p.parts:=by simp only [PlanOf.parts,List.mem_append];exact .inr h
theorem plain_slice {α : Type} {f : α → V} (sz:Nat) (l:List α) (h1:∀ x∈l,(f x).plain=true) (h2:∀ x,(f x).cells.length=sz):V.plain (.sl 0 (l.map f))=true:=by
 simp only [V.plain,Bool.and_eq_true,beq_self_eq_true,true_and,V.plainL_eq,List.all_eq_true,List.mem_map]
 refine ⟨sameSz_of (sz:=sz) fun x hx=>?_,?_⟩
 · obtain ⟨y, _, rfl⟩ := List.mem_map.1 hx
   exact h2 y
 · rintro x ⟨y, hy, rfl⟩
   exact h1 y hy
theorem PE.cells_len (x:PE):x.toV.cells.length=10:=by rw [PE.toV_eq];rfl
theorem PE.planV_len (x:PL):(PE.planV x).cells.length=8:=by rw [PE.planV_eq];rfl
theorem PL.plain_r (p:PL) (h:∀ k∈p.parts,k.toV.plain=true):p.v.plain=true:=by
 refine plainL_cons (plain_IntS _) (plainL_cons (plain_slice 1 _ (fun l hl=>plain_slice 10 _ (fun x hx=>h x (PlanOf.mem_on hl hx)) PE.cells_len) (fun _=>rfl)) (plainL_cons (plain_slice 10 _ (fun x hx=>h x (PlanOf.mem_wher hx)) PE.cells_len)
   (plainL_cons (plain_slice 11 _ (fun x hx=>?_) (fun _=>rfl)) (plainL_cons (plain_slice 10 _ (fun x hx=>h x (PlanOf.mem_items hx)) PE.cells_len) (plainL_cons (plain_StringS _) rfl)))))
 have:=h _ (PlanOf.mem_order hx)
 rw [PE.toV_eq] at this
 simp only [PE.v,V.plain,V.plainL,Bool.and_true,Bool.true_and] at this
 simp only [PE.sv,V.plain,V.plainL,Bool.and_true,Bool.true_and]
 exact this
theorem PE.plain (x:PE):x.toV.plain=true:=by
 induction x using PE.ind with
 | h e ih1 ih2 =>
   rw [PE.toV_eq]
   refine plainL_cons rfl (plainL_cons rfl (plainL_cons rfl (plainL_cons rfl (plainL_cons rfl (plainL_cons rfl (plainL_cons rfl (plainL_cons rfl (plainL_cons (plain_slice 10 _ ih1 PE.cells_len) (plainL_cons (plain_slice 8 _ (fun p hp=>?_) PE.planV_len) rfl)))))))))
   rw [PE.planV_eq]
   exact PL.plain_r p (ih2 p hp)
theorem PE.plainv (x:PE):x.v.plain=true:=PE.toV_eq x ▸ PE.plain x
theorem PL.plain (p:PL):p.v.plain=true:=PL.plain_r p fun k _=>PE.plain k
theorem plain_PExprS (l:List PE):V.plain (.sl 0 (l.map PE.toV))=true:=plain_slice 10 l (fun x _=>PE.plain x) PE.cells_len
theorem plain_PExprSS (l:List (List PE)):V.plain (.sl 0 (l.map PE.vS))=true:=plain_slice 1 l (fun x _=>plain_PExprS x) (fun _=>rfl)
theorem plain_PlanS (l:List PL):V.plain (.sl 0 (l.map PE.planV))=true:=plain_slice 8 l (fun x _=>PE.planV_eq x ▸ PL.plain x) PE.planV_len
theorem PE.plains (x:PE × Bool):(PE.sv x).plain=true:=by
 have:=PE.plainv x.1
 simp only [PE.v,V.plain,V.plainL,Bool.and_true,Bool.true_and] at this
 simp only [PE.sv,V.plain,V.plainL,Bool.and_true,Bool.true_and]
 exact this
theorem plain_PSortS (l:List (PE × Bool)):V.plain (.sl 0 (l.map PE.sv))=true:=plain_slice 11 l (fun x _=>PE.plains x) (fun _=>rfl)
theorem PE.wgt_eq (x:PE):wgt x.v=x.value.text.length+wgt (.sl 0 (x.kids.map PE.toV))+wgt (.sl 0 (x.sub.map PE.planV)):=by simp only [PE.v,wgt,wgtL];omega
theorem PE.wgt_eqs (x:PE × Bool):wgt (PE.sv x)=wgt x.1.v:=by simp only [PE.sv,PE.v,wgt,wgtL]
theorem PL.wgt_eq (p:PL):wgt p.v=wgt (.sl 0 (p.tables.map iV))+wgt (.sl 0 (p.on.map PE.vS))+wgt (.sl 0 (p.wher.map PE.toV))+wgt (.sl 0 (p.order.map PE.sv))+wgt (.sl 0 (p.items.map PE.toV))+wgt (.sl 0 (p.names.map sV)):=by
 simp only [PL.v,wgt,wgtL];omega
theorem PL.wgt_part {p:PL} {k:PE} (h:k∈p.parts):wgt k.toV≤wgt p.v:=by
 have e:=PL.wgt_eq p
 simp only [PlanOf.parts,List.mem_append,List.mem_flatten,List.mem_map] at h
 rcases h with ((⟨q,h1,h2⟩ | h) | ⟨x,h1,rfl⟩) | h
 · have a1 := wgt_mem (f := PE.vS) h1
   have a2:=wgt_mem (f:=PE.toV) h2
   simp only [PE.vS] at a1
   omega
 · have := wgt_mem (f := PE.toV) h
   omega
 · have a1 := wgt_mem (f := PE.sv) h1
   rw [PE.wgt_eqs, ← PE.toV_eq] at a1
   omega
 · have := wgt_mem (f := PE.toV) h
   omega
end Go.Proofs.Ytikghanejpigjaa
