/-
  Copies as results of new memory alone. Printed by a program of our own; no condition.
  Matches, StarOf and Find, of the program and of the reference.
  TypesOf, Matches and StarOf: results in new memory, and the laws.
  EmptyDb and RowTypes: results in new memory, and the laws.
  Own work; no condition.
-/
import Derived.Test.YtolhegocbkckdaaMg10
import Derived.Test.YtolhegocbkckdaaMg11
import Derived.Test.YtolhegocbkckdaaMg12
namespace Go.Proofs.Ytolhegocbkckdaa
open Go
set_option linter.unusedSimpArgs false
set_option linter.unusedVariables false
end Go.Proofs.Ytolhegocbkckdaa

namespace Go.Proofs.Ytolhegocbkckdaa
open Go
set_option linter.unusedSimpArgs false
set_option linter.unusedVariables false
def findV (r:Bind × Int):V := .tup [r.1.toV,.int .i64 r.2]
@[simp] theorem findV_dat (r:Bind × Int):(findV r).dat=true:=by simp [findV]
end Go.Proofs.Ytolhegocbkckdaa

namespace Go.Proofs.Ytolhegocbkckdaa
open Go
set_option linter.unusedSimpArgs false
set_option linter.unusedVariables false
def Tab.types (t:Tab):List Int:=t.cols.map Col.type
theorem hits_take {α : Type} (p : α → Bool) (xs:List α):hits p xs xs.length=hits p xs xs.length:=rfl
theorem sc_ints (l:List Int):sc (ints l)≤l.length:=by
 have:=scL_map (f:=iV) 1 (fun _=>Nat.le_refl 1) l
 simp only [ints,sc];omega
theorem nk_ints (l:List Int) (h:l.length≤10000000):nkT (ints l) 1≤4000000000000:=by
 have h1:=sc_ints l
 have h2:=nkT_sc (ints l) 1
 omega
theorem implTypesOf_o (t:Tab) (ht:t.wt≤1048576) (s:S):VCalls Try.prog 131 [t.toV] s (fun v t'=>Own2 (ints t.types) v t'):=by
 simp only [Tab.wt] at ht
 have hl:=len_slW Col.wt t.cols
 refine LCalls.body Try.func131 rfl (by kernel_rfl) ?_
 repeat' first |(refine kOps ?_;first |(refine LOps.nil ?_) |(refine LOps.ev tT_ok rfl ?_) |(refine kBox ?_;refine LOps.box rfl rfl rfl rfl ?_) |(refine kBsl ?_;first |(refine LOps.bsl0 tT_ok rfl rfl rfl rfl rfl ?_)) |(refine kLoad ?_;first |(refine LOps.ans (AnsL.loadP tT_ok rfl rfl rfl rfl) ?_)) |(refine kLen ?_;first |(refine LOps.ans (AnsL.lenM tT_ok rfl rfl rfl) ?_))) |(refine kWL ?_;first |(refine WL.seq ?_) |(refine WL.region (by kernel_rfl) ?_) |(refine WL.block ?_)) |(refine lthen_n ?_)
 refine WL.zfam (t:=3) 1 rfl rfl rfl rfl ?_
 refine WL.loopD (fun i:Nat=>t.cols.length - i) (fun i=>[(8,.sl 0 (t.cols.map Col.toV)),(9,.int .i64 t.cols.length),(3,.sl (s.next+1) (((t.cols.take i).map Col.type).map iV)),(10,.int .i64 (i:Int))])
   (fun i=>[.var [.str t.name,.sl 0 (t.cols.map Col.toV)],.fam i 1]) (fun i=>i≤t.cols.length) 2 0 (by simp) (fun _=>rfl) ⟨rfl,rfl,rfl,rfl,trivial⟩ rfl (fun i hi=>?_) (fun i hi=>?_)
 · simp [UnderK,UnderX,Own.under,V.under,V.underL]
 rcases Nat.lt_or_ge i t.cols.length with hlt | hge
 · skip
   repeat' first |(refine kOps ?_;first |(refine LOps.nil ?_) |(refine kStore ?_;refine LOps.storeP tT_ok rfl rfl rfl rfl rfl rfl rfl rfl rfl ?_) |(refine LOps.ev tT_ok rfl ?_) |(refine kAlloc ?_;refine LOps.alloc tT_ok rfl rfl rfl rfl ?_) |(refine kBsl ?_;first |(refine LOps.bsl tT_ok rfl rfl rfl rfl rfl rfl rfl rfl rfl rfl rfl ?_)) |(refine kApp ?_;first |(refine LOps.app tT_ok rfl rfl rfl rfl rfl rfl rfl rfl rfl rfl rfl ?_ ?_ (AppB.of ?_ rfl) ?_;(focus (first | rfl |(simp;omega)));(focus (first | exact Elems.of rfl | exact Elems.map fun _=>rfl | exact PE.els _ (fun _=>rfl) _));(focus (first | omega |(simp;omega))))) |(refine kLoad ?_;first |(refine LOps.ans (AnsL.loadP tT_ok rfl rfl rfl rfl) ?_)) |(refine kBin ?_;first |(refine LOps.ans (AnsL.add rfl rfl ?_) ?_;(focus (constructor <;> omega)))) |(refine kIdx ?_;first |(refine LOps.ans (AnsL.idxA tT_ok rfl rfl rfl rfl rfl (by omega) rfl rfl) ?_))) |(refine kWL ?_;first |(refine WL.seq ?_) |(refine WL.region (by kernel_rfl) ?_) |(refine WL.block ?_) |(refine WL.skip ?_) |(refine kCond ?_;first |(refine WL.condT' rfl ?_ ?_;(focus (first |(simp <;> omega)))))) |(refine lthen_n ?_) |(refine lblock_n ?_)
   all_goals
     refine lbackD.of (i+1) ?_ ?_ ?_ ?_
     · first | omega |(refine ⟨?_,?_⟩;(focus (first | omega |(simp;omega)));(first | omega |(simp_all [hi] <;> fail) |(simp_all [hi];omega))) |(simp_all [hi] <;> fail) |(simp_all [hi];omega)
     · first | omega |(simp;omega) | simp_all
     · repeat' first
         | exact SubL.nil
         |(refine SubL.mk rfl ?_ ?_)
         | rfl
         |(simp only [List.take_succ_eq_append_getElem hlt,List.map_append,List.map_cons,List.map_nil];rfl)
         |(simp only [List.take_succ_eq_append_getElem hlt,List.map_append,List.map_cons,List.map_nil];simp [hi] <;> fail)
         |(simp only [List.take_succ_eq_append_getElem hlt,List.map_append,List.map_cons,List.map_nil];simp [hi];omega)
         |(simp [hi] <;> fail)
         |(simp [hi];omega)
     · first | rfl |(simp only [List.take_succ_eq_append_getElem hlt,List.map_append,List.map_cons,List.map_nil];rfl) |(simp only [List.take_succ_eq_append_getElem hlt,List.map_append,List.map_cons,List.map_nil];simp [hi] <;> fail) |(simp only [List.take_succ_eq_append_getElem hlt,List.map_append,List.map_cons,List.map_nil];simp [hi];omega) |(simp [hi] <;> fail) |(simp [hi];omega)
 · have hi2:i=t.cols.length:=by omega
   subst hi2
   repeat' first |(refine kOps ?_;first |(refine LOps.nil ?_) |(refine LOps.ev tT_ok rfl ?_)) |(refine kWL ?_;first |(refine WL.seq ?_) |(refine WL.region (by kernel_rfl) ?_) |(refine WL.exit ?_) |(refine WL.ret ?_) |(refine kCond ?_;first |(refine WL.condF' rfl ?_ ?_;(focus (first |(simp <;> omega)))))) |(refine lthen_n ?_) |(refine lthen_e ?_) |(refine lblock_e ?_) |(refine lbackD_e ?_) |(refine LPost.r1 (r := .tmp 2) (.inl rfl) (Res1.tmp rfl) ?_)
   rw [List.take_length]
   exact Own2.fam (f:=iV) (cs:=t.types) (szf:=1) 1 (by simp [Tab.types,nthO]) (fun _=>rfl) (fun _=>rfl)
theorem specTypesOf_o (t:Tab) (ht:t.wt≤1048576) (s:S):VCalls Try.prog 143 [t.toV] s (fun v t'=>Own2 (ints t.types) v t'):=by
 simp only [Tab.wt] at ht
 have hl:=len_slW Col.wt t.cols
 refine LCalls.body Try.func143 rfl (by kernel_rfl) ?_
 repeat' first |(refine kOps ?_;first |(refine LOps.nil ?_) |(refine LOps.ev tT_ok rfl ?_) |(refine kBox ?_;refine LOps.box rfl rfl rfl rfl ?_) |(refine kBsl ?_;first |(refine LOps.bsl0 tT_ok rfl rfl rfl rfl rfl ?_))) |(refine kWL ?_;first |(refine WL.seq ?_) |(refine WL.region (by kernel_rfl) ?_) |(refine WL.block ?_)) |(refine lthen_n ?_)
 refine WL.zfam (t:=3) 1 rfl rfl rfl rfl ?_
 refine WL.loopD (fun i:Nat=>t.cols.length - i) (fun i=>[(1,.ptr (s.next+0) 0),(3,.sl (s.next+1) (((t.cols.take i).map Col.type).map iV)),(4,.int .i64 (i:Int))])
   (fun i=>[.var [.str t.name,.sl 0 (t.cols.map Col.toV)],.fam i 1]) (fun i=>i≤t.cols.length) 2 0 (by simp) (fun _=>rfl) ⟨rfl,rfl,rfl,trivial⟩ rfl (fun i hi=>?_) (fun i hi=>?_)
 · simp [UnderK,UnderX,Own.under,V.under,V.underL]
 rcases Nat.lt_or_ge i t.cols.length with hlt | hge
 · skip
   repeat' first |(refine kOps ?_;first |(refine LOps.nil ?_) |(refine LOps.ev tT_ok rfl ?_) |(refine kBsl ?_;first |(refine LOps.bsl tT_ok rfl rfl rfl rfl rfl rfl rfl rfl rfl rfl rfl ?_)) |(refine kApp ?_;first |(refine LOps.app tT_ok rfl rfl rfl rfl rfl rfl rfl rfl rfl rfl rfl ?_ ?_ (AppB.of ?_ rfl) ?_;(focus (first | rfl |(simp;omega)));(focus (first | exact Elems.of rfl | exact Elems.map fun _=>rfl | exact PE.els _ (fun _=>rfl) _));(focus (first | omega |(simp;omega))))) |(refine kLoad ?_;first |(refine LOps.ans (AnsL.loadP tT_ok rfl rfl rfl rfl) ?_)) |(refine kLen ?_;first |(refine LOps.ans (AnsL.lenM tT_ok rfl rfl rfl) ?_)) |(refine kBin ?_;first |(refine LOps.ans (AnsL.add rfl rfl ?_) ?_;(focus (constructor <;> omega)))) |(refine kIdx ?_;first |(refine LOps.ans (AnsL.idxA tT_ok rfl rfl rfl rfl rfl (by omega) rfl rfl) ?_))) |(refine kWL ?_;first |(refine WL.seq ?_) |(refine WL.region (by kernel_rfl) ?_) |(refine WL.block ?_) |(refine WL.skip ?_) |(refine kCond ?_;first |(refine WL.condT' rfl ?_ ?_;(focus (first |(simp <;> omega)))))) |(refine lthen_n ?_) |(refine lblock_n ?_)
   all_goals
     refine lbackD.of (i+1) ?_ ?_ ?_ ?_
     · first | omega |(refine ⟨?_,?_⟩;(focus (first | omega |(simp;omega)));(first | omega |(simp_all [hi] <;> fail) |(simp_all [hi];omega))) |(simp_all [hi] <;> fail) |(simp_all [hi];omega)
     · first | omega |(simp;omega) | simp_all
     · repeat' first
         | exact SubL.nil
         |(refine SubL.mk rfl ?_ ?_)
         | rfl
         |(simp only [List.take_succ_eq_append_getElem hlt,List.map_append,List.map_cons,List.map_nil];rfl)
         |(simp only [List.take_succ_eq_append_getElem hlt,List.map_append,List.map_cons,List.map_nil];simp [hi] <;> fail)
         |(simp only [List.take_succ_eq_append_getElem hlt,List.map_append,List.map_cons,List.map_nil];simp [hi];omega)
         |(simp [hi] <;> fail)
         |(simp [hi];omega)
     · first | rfl |(simp only [List.take_succ_eq_append_getElem hlt,List.map_append,List.map_cons,List.map_nil];rfl) |(simp only [List.take_succ_eq_append_getElem hlt,List.map_append,List.map_cons,List.map_nil];simp [hi] <;> fail) |(simp only [List.take_succ_eq_append_getElem hlt,List.map_append,List.map_cons,List.map_nil];simp [hi];omega) |(simp [hi] <;> fail) |(simp [hi];omega)
 · have hi2:i=t.cols.length:=by omega
   subst hi2
   repeat' first |(refine kOps ?_;first |(refine LOps.nil ?_) |(refine LOps.ev tT_ok rfl ?_) |(refine kLoad ?_;first |(refine LOps.ans (AnsL.loadP tT_ok rfl rfl rfl rfl) ?_)) |(refine kLen ?_;first |(refine LOps.ans (AnsL.lenM tT_ok rfl rfl rfl) ?_))) |(refine kWL ?_;first |(refine WL.seq ?_) |(refine WL.region (by kernel_rfl) ?_) |(refine WL.exit ?_) |(refine WL.ret ?_) |(refine kCond ?_;first |(refine WL.condF' rfl ?_ ?_;(focus (first |(simp <;> omega)))))) |(refine lthen_n ?_) |(refine lthen_e ?_) |(refine lblock_e ?_) |(refine lbackD_e ?_) |(refine LPost.r1 (r := .tmp 2) (.inl rfl) (Res1.tmp rfl) ?_)
   rw [List.take_length]
   exact Own2.fam (f:=iV) (cs:=t.types) (szf:=1) 1 (by simp [Tab.types,nthO]) (fun _=>rfl) (fun _=>rfl)
end Go.Proofs.Ytolhegocbkckdaa

namespace Go.Proofs.Ytolhegocbkckdaa
open Go
set_option linter.unusedSimpArgs false
set_option linter.unusedVariables false
theorem slW_cons' {α : Type} (f : α → Nat) (a : α) (b:List α):slW f (a::b)=1+f a+slW f b:=by
 simp only [slW,sumW,List.length_cons,List.map_cons,List.sum_cons];omega
def emptyDb (c:Cat):Db:=⟨List.replicate c.tables.length ⟨[]⟩⟩
theorem Own2.agg1 {d v:V} {t:S} (h:Own2 d v t):Own2 (.agg [d]) (.agg [v]) t:=by
 obtain ⟨ls,h1,h2⟩:=h
 exact ⟨ls++[],.agg (.cons h1 .nil),by rw [List.append_nil];exact h2⟩
theorem emptyDb_toV (c:Cat):(emptyDb c).toV = .agg [.sl 0 (List.replicate c.tables.length (Data.toV ⟨[]⟩))]:=by simp [emptyDb,Db.toV]
theorem plain_Tab (x:Tab):x.toV.plain=true:=plainL_cons rfl (plainL_cons (plain_ColS _) rfl)
def rowsOf (c:Cat) (ts:List Int):List Int:=ts.flatMap fun k=>(c.tables[k.toNat]?.map Tab.types).getD []
def rowIn (c:Cat) (k:Int):Bool:=inR k 0 ((c.tables.length:Int) - 1)
def rowTy (c:Cat) (ts:List Int):List Int × Bool:=if ts.all (rowIn c) then (rowsOf c ts,true) else ([],false)
theorem rowsOf_len (c:Cat) (h:c.wt≤1048576) (ts:List Int):(rowsOf c ts).length≤1048576*ts.length:=by
 induction ts with
 | nil=>simp [rowsOf]
 | cons k ts ih =>
   have h1:((c.tables[k.toNat]?.map Tab.types).getD []).length≤1048576:=by
     cases hk:c.tables[k.toNat]? with
     | none=>simp
     | some t =>
       obtain ⟨hlt,e⟩:=List.getElem?_eq_some_iff.1 hk
       have h2:=mem_slW (f:=Tab.wt) hlt
       rw [e] at h2
       have h3:=len_slW Col.wt t.cols
       simp only [Cat.wt] at h
       simp only [Tab.wt] at h2
       simp only [Option.map_some,Option.getD_some,Tab.types,List.length_map]
       omega
   simp only [rowsOf,List.flatMap_cons,List.length_append,List.length_cons] at *
   omega
theorem rowsOf_take {c:Cat} {ts:List Int} {i n:Nat} (hi:i<ts.length) (hn:ts[i]=(n:Int)) (hlt:n<c.tables.length):rowsOf c (ts.take (i+1))=rowsOf c (ts.take i)++c.tables[n].types:=by
 rw [List.take_succ_eq_append_getElem hi]
 simp [rowsOf,hn,hlt]
theorem all_take {α : Type} {p : α → Bool} {l:List α} {i:Nat} (hi:i<l.length):(l.take (i+1)).all p=((l.take i).all p&&p l[i]):=by
 rw [List.take_succ_eq_append_getElem hi,List.all_append]
 simp
theorem rowTy_no {c:Cat} {ts:List Int} {i:Nat} (hi:i<ts.length) (h:rowIn c ts[i]=false):rowTy c ts=([],false):=by
 have:ts.all (rowIn c)=false:=by
   rw [List.all_eq_false]
   exact ⟨ts[i],List.getElem_mem hi,by simp [h]⟩
 simp [rowTy,this]
theorem rowIn_nat {c:Cat} {k:Int} (h:rowIn c k=true):∃ n:Nat,k=(n:Int)∧n<c.tables.length:=by
 simp only [rowIn,inR,Bool.and_eq_true,decide_eq_true_eq] at h
 exact ⟨k.toNat,by omega,by omega⟩
def rowV (r:List Int × Bool):V := .tup [ints r.1,.bool r.2]
theorem specRowTypes_o (c:Cat) (ts:List Int) (h:c.wt≤1048576) (ht:ts.length≤1048576) (s:S):VCalls Try.prog 118 [c.toV,ints ts] s (fun v t=>Own2 (.tup [ints (rowTy c ts).1,.bool (rowTy c ts).2]) v t):=by
 have hl:=len_slW Tab.wt c.tables
 have hcw:=h
 simp only [Cat.wt] at hcw
 refine LCalls.body Try.func118 rfl (by kernel_rfl) ?_
 repeat' first |(refine kOps ?_;first |(refine LOps.nil ?_) |(refine LOps.ev tT_ok rfl ?_) |(refine kBox ?_;refine LOps.box rfl rfl rfl rfl ?_) |(refine kBsl ?_;first |(refine LOps.bsl0 tT_ok rfl rfl rfl rfl rfl ?_))) |(refine kWL ?_;first |(refine WL.seq ?_) |(refine WL.region (by kernel_rfl) ?_) |(refine WL.block ?_)) |(refine lthen_n ?_)
 refine WL.zfam (t:=6) 1 rfl rfl rfl rfl ?_
 refine WL.loopD (fun i:Nat=>ts.length - i) (fun i=>[(1,ints ts),(2,.ptr (s.next+0) 0),(6,.sl (s.next+1) ((rowsOf c (ts.take i)).map iV)),(7,.int .i64 (i:Int))]) (fun i=>[.var [.sl 0 (c.tables.map Tab.toV)],.fam (rowsOf c (ts.take i)).length 1])
   (fun i=>i≤ts.length∧(ts.take i).all (rowIn c)=true) 2 0 (by simp) (fun _=>rfl) ⟨rfl,rfl,rfl,rfl,trivial⟩ rfl (fun i hi=>?_) (fun i hi=>?_)
 · simp [UnderK,UnderX,Own.under,V.under,V.underL,ints]
 obtain ⟨hi,ha⟩:=hi
 have hlen:=rowsOf_len c h (ts.take i)
 rw [List.length_take,Nat.min_eq_left hi] at hlen
 rcases Nat.lt_or_ge i ts.length with hlt | hge
 · cases hr:rowIn c ts[i]
   · rw [rowTy_no hlt hr]
     have hga:(ts.map iV)[i]?=some (iV ts[i]):=by simp [hlt]
     generalize ts[i]=k at hga hr
     have hI:∀ t,VCalls Try.prog 36 [.int .i64 k,.int .i64 0,.int .i64 ((c.tables.length:Int) - 1)] t (fun v t'=>v = .bool false∧t'=t):=fun t=>by rw [← hr];exact specl1In_v _ _ _ t
     repeat' first |(refine kOps ?_;first |(refine LOps.nil ?_) |(refine LOps.ev tT_ok rfl ?_) |(refine kBsl ?_;first |(refine LOps.bsl0 tT_ok rfl rfl rfl rfl rfl ?_)) |(refine kLen ?_;first |(refine LOps.ans (AnsL.lenM tT_ok rfl rfl rfl) ?_))) |(refine kWL ?_;first |(refine WL.seq ?_) |(refine WL.region (by kernel_rfl) ?_) |(refine WL.drawn (id:=5) [0,1,2,3,4,5,6,7,8,9] [] [[],[],[0,1],[0,1,2],[],[4],[4,5],[4,5,6],[0,1,2,3,4,5,6,7],[0,1,2,3,4,5,6,7,8]] (by kernel_rfl) (by kernel_rfl) ?_) |(refine WL.block ?_) |(refine WL.skip ?_) |(refine WL.ret ?_) |(refine kCond ?_;first |(refine WL.condT rfl ?_) |(refine WL.condT' rfl ?_ ?_;(focus (first |(simp <;> omega)))))) |(refine kDr ?_;first |(refine LDr.nil ?_) |(refine LDr.fl rfl rfl (.ev tT_ok rfl) ?_) |(refine kDLoad rfl ?_;first |(refine LDr.fl rfl rfl (AnsL.loadP tT_ok rfl rfl rfl rfl) ?_)) |(refine kDLen rfl ?_;first |(refine LDr.fl rfl rfl (AnsL.lenM tT_ok rfl rfl rfl) ?_)) |(refine kDBin rfl ?_;first |(refine LDr.fl rfl rfl (AnsL.sub rfl rfl ?_) ?_;(focus (constructor <;> omega)))) |(refine kDIdx rfl ?_;first |(refine LDr.fl rfl rfl (AnsL.idx tT_ok rfl rfl rfl rfl rfl hga rfl rfl) ?_)) |(refine kDCallN 36 rfl ?_;first |(refine LDr.fl rfl rfl (AnsL.callP rfl rfl rfl (ok36) (hI _)) ?_))) |(refine lthen_n ?_) |(refine lthen_r ?_) |(refine lblock_r ?_) |(refine lbackD_r ?_) |(refine LPost.r2 (r := .tmp 4) (r' := .tmp 5) (.inl rfl) (Res1.tmp rfl) (Res1.tmp rfl) ?_)
     exact Own2.tup1 ⟨[],.zsl,List.nodup_nil⟩ rfl
   · have hall:=all_take (p:=rowIn c) hlt
     rw [ha,hr] at hall
     obtain ⟨n,hn,hnt⟩:=rowIn_nat hr
     have htk:=rowsOf_take hlt hn hnt
     have hga:(ts.map iV)[i]?=some (iV (n:Int)):=by simp [hlt,hn]
     have hw:=mem_slW (f:=Tab.wt) hnt
     have hT:∀ t,VCalls Try.prog 143 [c.tables[n].toV] t (fun v t'=>v=ints c.tables[n].types∧t'=t):=fun t =>
       VCalls.pureOf (plainL_cons (plain_Tab _) rfl) (plain_IntS _) (fun t=>specTypesOf_o c.tables[n] (by omega) t) t
     have hgb:(c.tables.map Tab.toV)[n]?=some c.tables[n].toV:=by simp [hnt]
     have htl:c.tables[n].types.length≤1048576:=by
       have h3:=len_slW Col.wt c.tables[n].cols
       simp only [Tab.wt] at hw
       simp only [Tab.types,List.length_map]
       omega
     have hrn:inR (n:Int) 0 ((c.tables.length:Int) - 1)=true:=by rw [← hn];exact hr
     generalize c.tables[n]=tb at hgb htk hT htl
     have hI:∀ t,VCalls Try.prog 36 [.int .i64 (n:Int),.int .i64 0,.int .i64 ((c.tables.length:Int) - 1)] t (fun v t'=>v = .bool true∧t'=t):=fun t=>by rw [← hrn];exact specl1In_v _ _ _ t
     repeat' first |(refine kOps ?_;first |(refine LOps.nil ?_) |(refine LOps.ev tT_ok rfl ?_) |(refine kApp ?_;first |(refine LOps.app tT_ok rfl rfl rfl rfl rfl rfl rfl rfl rfl rfl rfl ?_ ?_ (AppB.of ?_ rfl) ?_;(focus (first | rfl |(simp <;> fail)));(focus (first | exact Elems.of rfl | exact Elems.map fun _=>rfl | exact PE.els _ (fun _=>rfl) _));(focus (first | omega |(simp;omega))))) |(refine kLen ?_;first |(refine LOps.ans (AnsL.lenM tT_ok rfl rfl rfl) ?_)) |(refine kBin ?_;first |(refine LOps.ans (AnsL.add rfl rfl ?_) ?_;(focus (constructor <;> omega))))) |(refine kWL ?_;first |(refine WL.seq ?_) |(refine WL.region (by kernel_rfl) ?_) |(refine WL.drawn (id:=5) [0,1,2,3,4,5,6,7,8,9] [] [[],[],[0,1],[0,1,2],[],[4],[4,5],[4,5,6],[0,1,2,3,4,5,6,7],[0,1,2,3,4,5,6,7,8]] (by kernel_rfl) (by kernel_rfl) ?_) |(refine WL.drawn (id:=7) [0,1,2,3,4,5,6,7,8,9,10,11] [10,11] [[],[],[1],[],[],[3,4],[3,4,5],[1,2,3,4,5,6],[1,2,3,4,5,6,7],[1,2,3,4,5,6,7,8],[0,1,2,3,4,5,6,7,8,9],[0,1,2,3,4,5,6,7,8,9,10]] (by kernel_rfl) (by kernel_rfl) ?_) |(refine WL.block ?_) |(refine WL.skip ?_) |(refine kCond ?_;first |(refine WL.condF rfl ?_) |(refine WL.condT' rfl ?_ ?_;(focus (first |(simp <;> omega)))))) |(refine kDr ?_;first |(refine LDr.nil ?_) |(refine LDr.fl rfl rfl (.ev tT_ok rfl) ?_) |(refine kDLoad rfl ?_;first |(refine LDr.fl rfl rfl (AnsL.loadP tT_ok rfl rfl rfl rfl) ?_)) |(refine kDLen rfl ?_;first |(refine LDr.fl rfl rfl (AnsL.lenM tT_ok rfl rfl rfl) ?_)) |(refine kDBin rfl ?_;first |(refine LDr.fl rfl rfl (AnsL.sub rfl rfl ?_) ?_;(focus (constructor <;> omega)))) |(refine kDIdx rfl ?_;first |(refine LDr.fl rfl rfl (AnsL.idx tT_ok rfl rfl rfl rfl rfl hga rfl rfl) ?_) |(refine LDr.fl rfl rfl (AnsL.idx tT_ok rfl rfl rfl rfl rfl hgb rfl rfl) ?_)) |(refine kDCallN 143 rfl ?_;first |(refine LDr.fl rfl rfl (AnsL.callP rfl rfl rfl (ok143) (hT _)) ?_)) |(refine kDCallN 36 rfl ?_;first |(refine LDr.fl rfl rfl (AnsL.callP rfl rfl rfl (ok36) (hI _)) ?_)) |(refine LDr.eff rfl rfl rfl ?_)) |(refine lthen_n ?_) |(refine lblock_n ?_) |(refine And.intro ?_ ?_) |(exact StsL.nil)
     refine lbackD.of (i+1) ⟨by omega,hall⟩ (by omega) ?_ ?_
     · rw [htk,List.map_append]
       exact ⟨rfl,rfl,rfl,rfl,trivial⟩
     · rw [htk]
       simp
 · rw [List.take_of_length_le hge] at ha ⊢
   repeat' first |(refine kOps ?_;first |(refine LOps.nil ?_) |(refine LOps.ev tT_ok rfl ?_) |(refine kLen ?_;first |(refine LOps.ans (AnsL.lenM tT_ok rfl rfl rfl) ?_))) |(refine kWL ?_;first |(refine WL.seq ?_) |(refine WL.region (by kernel_rfl) ?_) |(refine WL.exit ?_) |(refine WL.ret ?_) |(refine kCond ?_;first |(refine WL.condF' rfl ?_ ?_;(focus (first |(simp <;> omega)))))) |(refine lthen_n ?_) |(refine lthen_e ?_) |(refine lblock_e ?_) |(refine lbackD_e ?_) |(refine LPost.r2 (r := .tmp 4) (r' := .tmp 5) (.inl rfl) (Res1.tmp rfl) (Res1.tmp rfl) ?_)
   have e:rowTy c ts=(rowsOf c ts,true):=by simp only [rowTy,ha,if_true]
   rw [e]
   exact Own2.tup1 (Own2.fam (f:=iV) (cs:=rowsOf c ts) (szf:=1) 1 rfl (fun _=>rfl) (fun _=>rfl)) rfl
end Go.Proofs.Ytolhegocbkckdaa
