/-
 The tokens of a query's tree, plainly; and the small functions that write them: keywords, operators, literals, levels. Own work; no condition.
-/
import Derived.Test.YtikghanejpigjaaMg20
import Derived.Test.YtikghanejpigjaaDPd4
import Derived.Test.YtikghanejpigjaaDDig
namespace Go.Proofs.Ytikghanejpigjaa
open Go
set_option linter.unusedSimpArgs false
set_option linter.unusedVariables false
def keyL:List (List UInt8):=[[],[83,69,76,69,67,84],[68,73,83,84,73,78,67,84],[70,82,79,77],[74,79,73,78],[79,78],[87,72,69,82,69],[79,82,68,69,82],[66,89],[65,83,67],[68,69,83,67],[76,73,77,73,84],[65,83],[65,78,68],[79,82],[78,79,84],[73,83],[73,78],[66,69,84,87,69,69,78],[69,88,73,83,84,83],[78,85,76,76],[84,82,85,69],[70,65,76,83,69],[73,78,83,69,82,84],[73,78,84,79],[86,65,76,85,69,83],[85,80,68,65,84,69],[83,69,84],[68,69,76,69,84,69]]
theorem keyL_V:keyL.map V.str=l2W:=rfl
def keyT (k:Nat):Token:=⟨1,keyL.getD k [],0⟩
def sgn (c:UInt8):Token:=⟨5,[c],0⟩
def nameT (s:List UInt8):Token:=⟨2,s,0⟩
def opL:List (List UInt8):=[[],[79,82],[65,78,68],[61],[60,62],[60],[60,61],[62],[62,61],[124,124],[43],[45],[42],[47],[37],[78,79,84],[45]]
def opText (op:Int):List UInt8:=if 1≤op∧op≤16 then opL.getD op.toNat [] else []
def opT (op:Int):Token:=⟨if op=1∨op=2∨op=15 then 1 else 5,opText op,0⟩
def litT (v:Val):Token:=if v.kind=1 then ⟨3,Lib.itoa v.num,0⟩ else if v.kind=2 then ⟨4,v.text,0⟩ else if v.kind=3 then (if v.num=1 then keyT 21 else keyT 22) else keyT 20
def lvlL:List Int:=[0,1,2,4,4,4,4,4,4,5,6,6,7,7,7]
def lvl (kind op:Int):Int :=
 if kind=1∨kind=2∨kind=9 then 9 else if kind=5∨kind=6∨kind=7∨kind=8 then 4 else if kind=3 then (if op=15 then 3 else if op=16 then 8 else 0)
 else if kind=4∧1≤op∧op≤14 then lvlL.getD op.toNat 0 else 0
def need (kind op:Int) (n:Nat) (k:Int):Int :=
 if ¬ (0≤k∧k≤(n:Int) - 1)∨lvl kind op=0∨lvl kind op=9 then 0 else if kind=3 then lvl kind op else if kind=4 then (if lvl kind op=4 then 5 else if k=0 then lvl kind op else lvl kind op+1) else if kind=7∧k>0 then 1 else 5
def wraps (all:Bool) (l n:Int):Bool:=decide (l<n) ||(all&&decide (l<9))
def wrapT (all:Bool) (n:Int) (x:Int × List Token):List Token:=if wraps all x.1 n=true then sgn 40::(x.2++[sgn 41]) else x.2
def notT (b:Bool):List Token:=if b then [keyT 15] else []
def asT (s:List UInt8):List Token:=if s=[] then [] else [keyT 12,nameT s]
def qualT (s:List UInt8):List Token:=if s=[] then [] else [nameT s,sgn 46]
def sepC (l:List (List Token)):Nat→List Token
 | 0=>[]
 | n+1=>sepC l n++((if 0<n then [sgn 44] else [])++l.getD n [])
def kidT (all:Bool) (kind op:Int) (ks:List (Int × List Token)) (k:Nat):List Token:=wrapT all (need kind op ks.length k) (ks.getD k (9,[]))
def inT (all:Bool) (kind op:Int) (ks:List (Int × List Token)):List Token:=sepC ((List.range (ks.length - 1)).map fun j=>kidT all kind op ks (j+1)) (ks.length - 1)
def asm (all:Bool) (kind op:Int) (nt:Bool) (value:Val) (qual name:List UInt8) (ks:List (Int × List Token)) (qs:List (List Token)):List Token :=
 if kind=1 then [litT value]
 else if kind=2 then qualT qual++[nameT name]
 else if kind=3 then opT op::kidT all kind op ks 0
 else if kind=9 then keyT 19::sgn 40::(qs.getD 0 []++[sgn 41])
 else kidT all kind op ks 0++(
   if kind=4 then opT op::kidT all kind op ks 1
   else if kind=5 then keyT 16::(notT nt++[keyT 20])
   else if kind=6 then notT nt++keyT 18::(kidT all kind op ks 1++keyT 13::kidT all kind op ks 2)
   else notT nt++keyT 17::sgn 40::((if kind=8 then qs.getD 0 [] else inT all kind op ks)++[sgn 41]))
def itemT (star:Bool) (qual als:List UInt8) (e:List Token):List Token:=if star then qualT qual++[sgn 42] else e++asT als
def srcT (table als:List UInt8) (on:List (List Token)):Bool × List Token:=(!on.isEmpty,nameT table::(asT als++match on with | []=>[] | e::_=>keyT 5::e))
def fromT (l:List (Bool × List Token)):Nat→List Token
 | 0=>[]
 | n+1=>fromT l n++((if 0<n then [if (l.getD n (false,[])).1 then keyT 4 else sgn 44] else [])++(l.getD n (false,[])).2)
def whereT:List (List Token)→List Token
 | []=>[]
 | e::_=>keyT 6::e
def ordT (l:List (List Token × Bool)):Nat→List Token
 | 0=>[]
 | n+1=>ordT l n++((if n=0 then [keyT 7,keyT 8] else [sgn 44])++((l.getD n ([],false)).1++if (l.getD n ([],false)).2 then [keyT 10] else []))
def limT (n:Int):List Token:=if 0≤n then [keyT 11,⟨3,Lib.itoa n,0⟩] else []
def asmQ (d:Bool) (items:List (List Token)) (src:List (Bool × List Token)) (wher:List (List Token)) (ord:List (List Token × Bool)) (lim:Int):List Token :=
 keyT 1::((if d then [keyT 2] else [])++(sepC items items.length++keyT 3::(fromT src src.length++(whereT wher++(ordT ord ord.length++limT lim)))))
mutual
def EE.tk (all:Bool):EE→List Token
 | .mk kind op nt value qual name kids sub=>asm all kind op nt value qual name (EE.tkL all kids) (EE.tkQs all sub)
def EE.tkL (all:Bool):List EE→List (Int × List Token)
 | []=>[]
 | k::ks=>(lvl k.kind k.op,EE.tk all k)::EE.tkL all ks
def EE.tkQs (all:Bool):List (QueryOf EE)→List (List Token)
 | []=>[]
 | q::qs=>EE.tkQ all q::EE.tkQs all qs
def EE.tkQ (all:Bool):QueryOf EE→List Token
 | ⟨d,i,f,w,o,l⟩=>asmQ d (EE.tkI all i) (EE.tkS all f) (EE.tkW all w) (EE.tkO all o) l
def EE.tkI (all:Bool):List (ItemOf EE)→List (List Token)
 | []=>[]
 | x::xs=>EE.tkI1 all x::EE.tkI all xs
def EE.tkI1 (all:Bool):ItemOf EE→List Token
 | ⟨s,q,e,a⟩=>itemT s q a (EE.tk all e)
def EE.tkS (all:Bool):List (SrcOf EE)→List (Bool × List Token)
 | []=>[]
 | x::xs=>EE.tkS1 all x::EE.tkS all xs
def EE.tkS1 (all:Bool):SrcOf EE→Bool × List Token
 | ⟨t,a,on⟩=>srcT t a (EE.tkW all on)
def EE.tkW (all:Bool):List EE→List (List Token)
 | []=>[]
 | k::ks=>EE.tk all k::EE.tkW all ks
def EE.tkO (all:Bool):List (EE × Bool)→List (List Token × Bool)
 | []=>[]
 | x::xs=>EE.tkO1 all x::EE.tkO all xs
def EE.tkO1 (all:Bool):EE × Bool→List Token × Bool
 |(e,b)=>(EE.tk all e,b)
end
def EE.kt (all:Bool) (e:EE):List (Int × List Token):=e.kids.map fun k=>(lvl k.kind k.op,k.tk all)
theorem EE.tkL_eq (all:Bool):∀ l:List EE,EE.tkL all l=l.map fun k=>(lvl k.kind k.op,k.tk all)
 | []=>rfl
 | x::l=>by simp only [EE.tkL,EE.tkL_eq all l,List.map_cons]
theorem EE.tkW_eq (all:Bool):∀ l:List EE,EE.tkW all l=l.map (EE.tk all)
 | []=>rfl
 | x::l=>by simp only [EE.tkW,EE.tkW_eq all l,List.map_cons]
theorem EE.tkQs_eq (all:Bool):∀ l:List EQ,EE.tkQs all l=l.map (EE.tkQ all)
 | []=>rfl
 | x::l=>by simp only [EE.tkQs,EE.tkQs_eq all l,List.map_cons]
theorem EE.tkI_eq (all:Bool):∀ l:List EItem,EE.tkI all l=l.map fun x=>itemT x.star x.qual x.als (x.e.tk all)
 | []=>rfl
 | ⟨_,_,_,_⟩::l=>by simp only [EE.tkI,EE.tkI1,EE.tkI_eq all l,List.map_cons]
theorem EE.tkS_eq (all:Bool):∀ l:List ESrc,EE.tkS all l=l.map fun x=>srcT x.table x.als (x.on.map (EE.tk all))
 | []=>rfl
 | ⟨_,_,_⟩::l=>by simp only [EE.tkS,EE.tkS1,EE.tkW_eq,EE.tkS_eq all l,List.map_cons]
theorem EE.tkO_eq (all:Bool):∀ l:List (EE × Bool),EE.tkO all l=l.map fun x=>(x.1.tk all,x.2)
 | []=>rfl
 |(_,_)::l=>by simp only [EE.tkO,EE.tkO1,EE.tkO_eq all l,List.map_cons]
theorem EE.tk_eq (all:Bool) (e:EE):e.tk all=asm all e.kind e.op e.nt e.value e.qual e.name (e.kt all) (e.sub.map (EE.tkQ all)):=by
 cases e
 simp only [EE.tk,EE.kt,EE.tkL_eq,EE.tkQs_eq,EE.kind,EE.op,EE.nt,EE.value,EE.qual,EE.name,EE.kids,EE.sub]
theorem EE.tkQ_eq (all:Bool) (q:EQ):EE.tkQ all q=asmQ q.distinct (q.items.map fun x=>itemT x.star x.qual x.als (x.e.tk all)) (q.src.map fun x=>srcT x.table x.als (x.on.map (EE.tk all))) (q.wher.map (EE.tk all)) (q.order.map fun x=>(x.1.tk all,x.2)) q.limit:=by
 cases q
 simp only [EE.tkQ,EE.tkI_eq,EE.tkS_eq,EE.tkW_eq,EE.tkO_eq]
theorem specl1In_b (x lo hi:Int) (s:S):VCalls Try.prog 92 [.int .i64 x,.int .i64 lo,.int .i64 hi] s (fun v s'=>v = .bool (decide (lo≤x)&&decide (x≤hi))∧s'=s):=by
 by_cases h1:x≥lo
 · have h1' : lo ≤ x := h1
   by_cases h2:x≤hi
   all_goals
     refine LCalls.pure Try.func92 rfl (by kernel_rfl) (by simp) ?_
     repeat' first |(refine kOps ?_;first |(refine LOps.nil ?_) |(refine kG ?_;first |(refine LOps.gT rfl rfl rfl ?_) |(refine LOps.gD true rfl rfl rfl ?_ ?_;(focus (first |(exact decide_eq_true (by assumption)))))) |(refine LOps.ev tT_ok rfl ?_)) |(refine kWL ?_;first |(refine WL.seq ?_) |(refine WL.region (by kernel_rfl) ?_) |(refine WL.ret ?_)) |(refine lthen_n ?_) |(refine LPost.r1 (r := .tmp 6) (.inl rfl) (Res1.tmp rfl) ?_) |(refine PureR.mk ?_)
     simp [h1',h2]
 · have h1' : ¬ lo ≤ x := h1
   refine LCalls.pure Try.func92 rfl (by kernel_rfl) (by simp) ?_
   repeat' first |(refine kOps ?_;first |(refine LOps.nil ?_) |(refine kG ?_;first |(refine LOps.gF rfl rfl rfl ?_) |(refine LOps.gD false rfl rfl rfl ?_ ?_;(focus (first |(exact decide_eq_false (by assumption)))))) |(refine LOps.ev tT_ok rfl ?_)) |(refine kWL ?_;first |(refine WL.seq ?_) |(refine WL.region (by kernel_rfl) ?_) |(refine WL.ret ?_)) |(refine lthen_n ?_) |(refine LPost.r1 (r := .tmp 6) (.inl rfl) (Res1.tmp rfl) ?_) |(refine PureR.mk ?_)
   simp [h1']
theorem specl1In_t {x lo hi:Int} (h:lo≤x∧x≤hi) (s:S):VCalls Try.prog 92 [.int .i64 x,.int .i64 lo,.int .i64 hi] s (fun v s'=>v = .bool true∧s'=s):=by
 have:=specl1In_b x lo hi s
 rwa [show (decide (lo≤x)&&decide (x≤hi))=true by simp [h.1,h.2]] at this
theorem specl1In_f {x lo hi:Int} (h:¬ (lo≤x∧x≤hi)) (s:S):VCalls Try.prog 92 [.int .i64 x,.int .i64 lo,.int .i64 hi] s (fun v s'=>v = .bool false∧s'=s):=by
 have:=specl1In_b x lo hi s
 rwa [show (decide (lo≤x)&&decide (x≤hi))=false by simp;omega] at this
theorem strs_at {l:List (List UInt8)} {k:Nat} (h:k<l.length):(l.map V.str)[k]?=some (.str (l.getD k [])):=by simp [h]
theorem specKeyText_v (k:Nat) (hk:1≤k∧k≤28) (s:S):VCalls Try.prog 103 [.int .i64 (k:Int)] s (fun v s'=>v = .str (keyL.getD k [])∧s'=s):=by
 have hg:l2W[((k:Int)).toNat]?=some (.str (keyL.getD k [])):=by rw [← keyL_V,Int.toNat_natCast];exact strs_at (by show k<29;omega)
 generalize keyL.getD k []=r at hg
 refine LCalls.pure Try.func103 rfl (by kernel_rfl) (by simp) ?_
 repeat' first |(refine kOps ?_;first |(refine LOps.nil ?_) |(refine LOps.ev tT_ok rfl ?_) |(refine kIdx ?_;first |(refine LOps.ans (AnsL.idxZ tT_ok rfl rfl rfl rfl rfl ?_ hg rfl rfl) ?_;(focus (omega)))) |(refine kCallN 90 ?_;first |(refine LOps.ans (AnsL.callP rfl rfl rfl (ok90) (specl2Words_v _)) ?_)) |(refine kCallN 92 ?_;first |(refine LOps.ans (AnsL.callP rfl rfl rfl (ok92) (specl1In_t (by omega) _)) ?_))) |(refine kWL ?_;first |(refine WL.seq ?_) |(refine WL.region (by kernel_rfl) ?_) |(refine WL.skip ?_) |(refine WL.ret ?_) |(refine kCond ?_;first |(refine WL.condF rfl ?_))) |(refine lthen_n ?_) |(refine LPost.r1 (r := .tmp 2) (.inl rfl) (Res1.tmp rfl) ?_) |(refine PureR.mk ?_)
 rfl
theorem specl10Key_v (k:Nat) (hk:1≤k∧k≤28) (s:S):VCalls Try.prog 72 [.int .i64 (k:Int)] s (fun v s'=>v=(keyT k).toV∧s'=s):=by
 refine LCalls.pure Try.func72 rfl (by kernel_rfl) (by simp) ?_
 repeat' first |(refine kOps ?_;first |(refine LOps.nil ?_) |(refine kStore ?_;refine LOps.storeP tT_ok rfl rfl rfl rfl rfl rfl rfl rfl rfl ?_) |(refine LOps.ev tT_ok rfl ?_) |(refine kAlloc ?_;refine LOps.alloc tT_ok rfl rfl rfl rfl ?_) |(refine kCallN 103 ?_;first |(refine LOps.ans (AnsL.callP rfl rfl rfl (ok103) (specKeyText_v k hk _)) ?_))) |(refine kWL ?_;first |(refine WL.seq ?_) |(refine WL.region (by kernel_rfl) ?_) |(refine WL.ret ?_)) |(refine lthen_n ?_) |(refine LPost.r1 (r := .cell 2 30) (.inl rfl) (Res1.cell tT_ok rfl rfl rfl rfl) ?_) |(refine PureR.mk ?_)
 rfl
theorem specl10Sign_v (t:List UInt8) (s:S):VCalls Try.prog 40 [.str t] s (fun v s'=>v=(⟨5,t,0⟩:Token).toV∧s'=s):=by
 refine LCalls.pure Try.func40 rfl (by kernel_rfl) (by simp) ?_
 repeat' first |(refine kOps ?_;first |(refine LOps.nil ?_) |(refine kStore ?_;refine LOps.storeP tT_ok rfl rfl rfl rfl rfl rfl rfl rfl rfl ?_) |(refine LOps.ev tT_ok rfl ?_) |(refine kAlloc ?_;refine LOps.alloc tT_ok rfl rfl rfl rfl ?_)) |(refine kWL ?_;first |(refine WL.seq ?_) |(refine WL.region (by kernel_rfl) ?_) |(refine WL.ret ?_)) |(refine lthen_n ?_) |(refine LPost.r1 (r := .cell 2 30) (.inl rfl) (Res1.cell tT_ok rfl rfl rfl rfl) ?_) |(refine PureR.mk ?_)
 rfl
theorem specl10Name_v (t:List UInt8) (s:S):VCalls Try.prog 68 [.str t] s (fun v s'=>v=(nameT t).toV∧s'=s):=by
 refine LCalls.pure Try.func68 rfl (by kernel_rfl) (by simp) ?_
 repeat' first |(refine kOps ?_;first |(refine LOps.nil ?_) |(refine kStore ?_;refine LOps.storeP tT_ok rfl rfl rfl rfl rfl rfl rfl rfl rfl ?_) |(refine LOps.ev tT_ok rfl ?_) |(refine kAlloc ?_;refine LOps.alloc tT_ok rfl rfl rfl rfl ?_)) |(refine kWL ?_;first |(refine WL.seq ?_) |(refine WL.region (by kernel_rfl) ?_) |(refine WL.ret ?_)) |(refine lthen_n ?_) |(refine LPost.r1 (r := .cell 2 30) (.inl rfl) (Res1.cell tT_ok rfl rfl rfl rfl) ?_) |(refine PureR.mk ?_)
 rfl
theorem specOpText_v (op:Int) (s:S):VCalls Try.prog 99 [.int .i64 op] s (fun v s'=>v = .str (opText op)∧s'=s):=by
 by_cases h:1≤op∧op≤16
 · obtain ⟨k, rfl⟩ : ∃ k : Nat, op = (k : Int) := ⟨op.toNat, by omega⟩
   have hg:(opL.map V.str)[((k:Int)).toNat]?=some (.str (opText (k:Int))):=by
     rw [Int.toNat_natCast,strs_at (by show k<17;omega)]
     unfold opText
     rw [if_pos h,Int.toNat_natCast]
   generalize opText (k:Int)=r at hg
   refine LCalls.pure Try.func99 rfl (by kernel_rfl) (by simp) ?_
   repeat' first |(refine kOps ?_;first |(refine LOps.nil ?_) |(refine LOps.ev tT_ok rfl ?_) |(refine kBsl ?_;first |(refine LOps.bsl tT_ok rfl rfl rfl rfl rfl rfl rfl rfl rfl rfl rfl ?_)) |(refine kIdx ?_;first |(refine LOps.ans (AnsL.idxZ tT_ok rfl rfl rfl rfl rfl ?_ hg rfl rfl) ?_;(focus (omega)))) |(refine kCallN 92 ?_;first |(refine LOps.ans (AnsL.callP rfl rfl rfl (ok92) (specl1In_t h _)) ?_))) |(refine kWL ?_;first |(refine WL.seq ?_) |(refine WL.region (by kernel_rfl) ?_) |(refine WL.skip ?_) |(refine WL.ret ?_) |(refine kCond ?_;first |(refine WL.condF rfl ?_))) |(refine lthen_n ?_) |(refine LPost.r1 (r := .tmp 2) (.inl rfl) (Res1.tmp rfl) ?_) |(refine PureR.mk ?_)
   rfl
 · skip
   refine LCalls.pure Try.func99 rfl (by kernel_rfl) (by simp) ?_
   repeat' first |(refine kOps ?_;first |(refine LOps.nil ?_) |(refine LOps.ev tT_ok rfl ?_) |(refine kCallN 92 ?_;first |(refine LOps.ans (AnsL.callP rfl rfl rfl (ok92) (specl1In_f h _)) ?_))) |(refine kWL ?_;first |(refine WL.seq ?_) |(refine WL.region (by kernel_rfl) ?_) |(refine WL.ret ?_) |(refine kCond ?_;first |(refine WL.condT rfl ?_))) |(refine lthen_n ?_) |(refine lthen_r ?_) |(refine LPost.r1 (r := .tmp 2) (.inl rfl) (Res1.tmp rfl) ?_) |(refine PureR.mk ?_)
   unfold opText
   rw [if_neg h]
   rfl
theorem specl10Op_v (op:Int) (s:S):VCalls Try.prog 70 [.int .i64 op] s (fun v s'=>v=(opT op).toV∧s'=s):=by
 unfold opT
 by_cases h1:op=1
 · skip
   refine LCalls.pure Try.func70 rfl (by kernel_rfl) (by simp) ?_
   repeat' first |(refine kOps ?_;first |(refine LOps.nil ?_) |(refine kG ?_;first |(refine LOps.gF rfl rfl rfl ?_) |(refine LOps.gD true rfl rfl rfl ?_ ?_;(focus (first |(exact decide_eq_true (by assumption)))))) |(refine kStore ?_;refine LOps.storeP tT_ok rfl rfl rfl rfl rfl rfl rfl rfl rfl ?_) |(refine LOps.ev tT_ok rfl ?_) |(refine kAlloc ?_;refine LOps.alloc tT_ok rfl rfl rfl rfl ?_) |(refine kCallN 99 ?_;first |(refine LOps.ans (AnsL.callP rfl rfl rfl (ok99) (specOpText_v op _)) ?_))) |(refine kWL ?_;first |(refine WL.seq ?_) |(refine WL.region (by kernel_rfl) ?_) |(refine WL.ret ?_) |(refine kCond ?_;first |(refine WL.condT rfl ?_))) |(refine lthen_n ?_) |(refine lthen_r ?_) |(refine LPost.r1 (r := .cell 2 30) (.inl rfl) (Res1.cell tT_ok rfl rfl rfl rfl) ?_) |(refine PureR.mk ?_)
   rw [if_pos (.inl h1)];rfl
 · by_cases h2 : op = 2
   · skip
     refine LCalls.pure Try.func70 rfl (by kernel_rfl) (by simp) ?_
     repeat' first |(refine kOps ?_;first |(refine LOps.nil ?_) |(refine kG ?_;first |(refine LOps.gT rfl rfl rfl ?_) |(refine LOps.gF rfl rfl rfl ?_) |(refine LOps.gD true rfl rfl rfl ?_ ?_;(focus (first |(exact decide_eq_true (by assumption))))) |(refine LOps.gD false rfl rfl rfl ?_ ?_;(focus (first |(exact decide_eq_false (by assumption)))))) |(refine kStore ?_;refine LOps.storeP tT_ok rfl rfl rfl rfl rfl rfl rfl rfl rfl ?_) |(refine LOps.ev tT_ok rfl ?_) |(refine kAlloc ?_;refine LOps.alloc tT_ok rfl rfl rfl rfl ?_) |(refine kCallN 99 ?_;first |(refine LOps.ans (AnsL.callP rfl rfl rfl (ok99) (specOpText_v op _)) ?_))) |(refine kWL ?_;first |(refine WL.seq ?_) |(refine WL.region (by kernel_rfl) ?_) |(refine WL.ret ?_) |(refine kCond ?_;first |(refine WL.condT rfl ?_))) |(refine lthen_n ?_) |(refine lthen_r ?_) |(refine LPost.r1 (r := .cell 2 30) (.inl rfl) (Res1.cell tT_ok rfl rfl rfl rfl) ?_) |(refine PureR.mk ?_)
     rw [if_pos (.inr (.inl h2))];rfl
   · by_cases h3 : op = 15
     · skip
       refine LCalls.pure Try.func70 rfl (by kernel_rfl) (by simp) ?_
       repeat' first |(refine kOps ?_;first |(refine LOps.nil ?_) |(refine kG ?_;first |(refine LOps.gT rfl rfl rfl ?_) |(refine LOps.gD false rfl rfl rfl ?_ ?_;(focus (first |(exact decide_eq_false (by assumption)))))) |(refine kStore ?_;refine LOps.storeP tT_ok rfl rfl rfl rfl rfl rfl rfl rfl rfl ?_) |(refine LOps.ev tT_ok rfl ?_) |(refine kAlloc ?_;refine LOps.alloc tT_ok rfl rfl rfl rfl ?_) |(refine kCallN 99 ?_;first |(refine LOps.ans (AnsL.callP rfl rfl rfl (ok99) (specOpText_v op _)) ?_))) |(refine kWL ?_;first |(refine WL.seq ?_) |(refine WL.region (by kernel_rfl) ?_) |(refine WL.ret ?_) |(refine kCond ?_;first |(refine WL.condT' rfl ?_ ?_;(focus (first |(exact decide_eq_true (by assumption))))))) |(refine lthen_n ?_) |(refine lthen_r ?_) |(refine LPost.r1 (r := .cell 2 30) (.inl rfl) (Res1.cell tT_ok rfl rfl rfl rfl) ?_) |(refine PureR.mk ?_)
       rw [if_pos (.inr (.inr h3))];rfl
     · skip
       refine LCalls.pure Try.func70 rfl (by kernel_rfl) (by simp) ?_
       repeat' first |(refine kOps ?_;first |(refine LOps.nil ?_) |(refine kG ?_;first |(refine LOps.gT rfl rfl rfl ?_) |(refine LOps.gD false rfl rfl rfl ?_ ?_;(focus (first |(exact decide_eq_false (by assumption)))))) |(refine kStore ?_;refine LOps.storeP tT_ok rfl rfl rfl rfl rfl rfl rfl rfl rfl ?_) |(refine LOps.ev tT_ok rfl ?_) |(refine kAlloc ?_;refine LOps.alloc tT_ok rfl rfl rfl rfl ?_) |(refine kCallN 40 ?_;first |(refine LOps.ans (AnsL.callP rfl rfl rfl (ok40) (specl10Sign_v _ _)) ?_)) |(refine kCallN 99 ?_;first |(refine LOps.ans (AnsL.callP rfl rfl rfl (ok99) (specOpText_v op _)) ?_))) |(refine kWL ?_;first |(refine WL.seq ?_) |(refine WL.region (by kernel_rfl) ?_) |(refine WL.skip ?_) |(refine WL.ret ?_) |(refine kCond ?_;first |(refine WL.condF' rfl ?_ ?_;(focus (first |(exact decide_eq_false (by assumption))))))) |(refine lthen_n ?_) |(refine LPost.r1 (r := .cell 2 30) (.inl rfl) (Res1.cell tT_ok rfl rfl rfl rfl) ?_) |(refine PureR.mk ?_)
       rw [if_neg (by simp [h1,h2,h3])];rfl
theorem specl10Lit_v (x:Val) (s:S):VCalls Try.prog 67 [.agg [.int .i64 x.kind,.int .i64 x.num,.str x.text]] s (fun v s'=>v=(litT x).toV∧s'=s):=by
 unfold litT
 by_cases h1:x.kind=1
 · skip
   refine LCalls.pure Try.func67 rfl (by kernel_rfl) (by simp) ?_
   repeat' first |(refine kOps ?_;first |(refine LOps.nil ?_) |(refine kStore ?_;refine LOps.storeP tT_ok rfl rfl rfl rfl rfl rfl rfl rfl rfl ?_) |(refine LOps.ev tT_ok rfl ?_) |(refine kBox ?_;refine LOps.box rfl rfl rfl rfl ?_) |(refine kAlloc ?_;refine LOps.alloc tT_ok rfl rfl rfl rfl ?_) |(refine kLoad ?_;first |(refine LOps.ans (AnsL.loadP tT_ok rfl rfl rfl rfl) ?_)) |(refine kCallN 96 ?_;first |(refine LOps.ans (AnsL.callP rfl rfl rfl (ok96) (specDigits_v _ _)) ?_))) |(refine kWL ?_;first |(refine WL.seq ?_) |(refine WL.region (by kernel_rfl) ?_) |(refine WL.block ?_) |(refine WL.ret ?_) |(refine kCond ?_;first |(refine WL.condT' rfl ?_ ?_;(focus (first |(exact decide_eq_true (by assumption))))))) |(refine lthen_n ?_) |(refine lthen_r ?_) |(refine lblock_r ?_) |(refine LPost.r1 (r := .cell 2 30) (.inl rfl) (Res1.cell tT_ok rfl rfl rfl rfl) ?_) |(refine PureR.mk ?_)
   rw [if_pos h1];rfl
 · rw [if_neg h1]
   by_cases h2:x.kind=2
   · skip
     refine LCalls.pure Try.func67 rfl (by kernel_rfl) (by simp) ?_
     repeat' first |(refine kOps ?_;first |(refine LOps.nil ?_) |(refine kStore ?_;refine LOps.storeP tT_ok rfl rfl rfl rfl rfl rfl rfl rfl rfl ?_) |(refine LOps.ev tT_ok rfl ?_) |(refine kBox ?_;refine LOps.box rfl rfl rfl rfl ?_) |(refine kAlloc ?_;refine LOps.alloc tT_ok rfl rfl rfl rfl ?_) |(refine kLoad ?_;first |(refine LOps.ans (AnsL.loadP tT_ok rfl rfl rfl rfl) ?_))) |(refine kWL ?_;first |(refine WL.seq ?_) |(refine WL.region (by kernel_rfl) ?_) |(refine WL.block ?_) |(refine WL.ret ?_) |(refine kCond ?_;first |(refine WL.condT' rfl ?_ ?_;(focus (first |(exact decide_eq_true (by assumption))))) |(refine WL.condF' rfl ?_ ?_;(focus (first |(exact decide_eq_false (by assumption))))))) |(refine lthen_n ?_) |(refine lthen_r ?_) |(refine lblock_r ?_) |(refine LPost.r1 (r := .cell 2 30) (.inl rfl) (Res1.cell tT_ok rfl rfl rfl rfl) ?_) |(refine PureR.mk ?_)
     rw [if_pos h2];rfl
   · rw [if_neg h2]
     by_cases h3:x.kind=3
     · rw [if_pos h3]
       by_cases h4:x.num=1
       · skip
         refine LCalls.pure Try.func67 rfl (by kernel_rfl) (by simp) ?_
         repeat' first |(refine kOps ?_;first |(refine LOps.nil ?_) |(refine kStore ?_;refine LOps.storeP tT_ok rfl rfl rfl rfl rfl rfl rfl rfl rfl ?_) |(refine LOps.ev tT_ok rfl ?_) |(refine kBox ?_;refine LOps.box rfl rfl rfl rfl ?_) |(refine kAlloc ?_;refine LOps.alloc tT_ok rfl rfl rfl rfl ?_) |(refine kLoad ?_;first |(refine LOps.ans (AnsL.loadP tT_ok rfl rfl rfl rfl) ?_)) |(refine kCallN 72 ?_;first |(refine LOps.ans (AnsL.callP rfl rfl rfl (ok72) (specl10Key_v 21 (by omega) _)) ?_))) |(refine kWL ?_;first |(refine WL.seq ?_) |(refine WL.region (by kernel_rfl) ?_) |(refine WL.block ?_) |(refine WL.ret ?_) |(refine kCond ?_;first |(refine WL.condT' rfl ?_ ?_;(focus (first |(exact decide_eq_true (by assumption))))) |(refine WL.condF' rfl ?_ ?_;(focus (first |(exact decide_eq_false (by assumption))))))) |(refine lthen_n ?_) |(refine lthen_r ?_) |(refine lblock_r ?_) |(refine LPost.r1 (r := .cell 2 30) (.inl rfl) (Res1.cell tT_ok rfl rfl rfl rfl) ?_) |(refine PureR.mk ?_)
         rw [if_pos h4];rfl
       · skip
         refine LCalls.pure Try.func67 rfl (by kernel_rfl) (by simp) ?_
         repeat' first |(refine kOps ?_;first |(refine LOps.nil ?_) |(refine kStore ?_;refine LOps.storeP tT_ok rfl rfl rfl rfl rfl rfl rfl rfl rfl ?_) |(refine LOps.ev tT_ok rfl ?_) |(refine kBox ?_;refine LOps.box rfl rfl rfl rfl ?_) |(refine kAlloc ?_;refine LOps.alloc tT_ok rfl rfl rfl rfl ?_) |(refine kLoad ?_;first |(refine LOps.ans (AnsL.loadP tT_ok rfl rfl rfl rfl) ?_)) |(refine kCallN 72 ?_;first |(refine LOps.ans (AnsL.callP rfl rfl rfl (ok72) (specl10Key_v 22 (by omega) _)) ?_))) |(refine kWL ?_;first |(refine WL.seq ?_) |(refine WL.region (by kernel_rfl) ?_) |(refine WL.block ?_) |(refine WL.skip ?_) |(refine WL.ret ?_) |(refine kCond ?_;first |(refine WL.condT' rfl ?_ ?_;(focus (first |(exact decide_eq_true (by assumption))))) |(refine WL.condF' rfl ?_ ?_;(focus (first |(exact decide_eq_false (by assumption))))))) |(refine lthen_n ?_) |(refine lthen_r ?_) |(refine lblock_r ?_) |(refine LPost.r1 (r := .cell 2 30) (.inl rfl) (Res1.cell tT_ok rfl rfl rfl rfl) ?_) |(refine PureR.mk ?_)
         rw [if_neg h4];rfl
     · skip
       refine LCalls.pure Try.func67 rfl (by kernel_rfl) (by simp) ?_
       repeat' first |(refine kOps ?_;first |(refine LOps.nil ?_) |(refine kStore ?_;refine LOps.storeP tT_ok rfl rfl rfl rfl rfl rfl rfl rfl rfl ?_) |(refine LOps.ev tT_ok rfl ?_) |(refine kBox ?_;refine LOps.box rfl rfl rfl rfl ?_) |(refine kAlloc ?_;refine LOps.alloc tT_ok rfl rfl rfl rfl ?_) |(refine kLoad ?_;first |(refine LOps.ans (AnsL.loadP tT_ok rfl rfl rfl rfl) ?_)) |(refine kCallN 72 ?_;first |(refine LOps.ans (AnsL.callP rfl rfl rfl (ok72) (specl10Key_v 20 (by omega) _)) ?_))) |(refine kWL ?_;first |(refine WL.seq ?_) |(refine WL.region (by kernel_rfl) ?_) |(refine WL.block ?_) |(refine WL.skip ?_) |(refine WL.ret ?_) |(refine kCond ?_;first |(refine WL.condF' rfl ?_ ?_;(focus (first |(exact decide_eq_false (by assumption))))))) |(refine lthen_n ?_) |(refine lblock_n ?_) |(refine LPost.r1 (r := .cell 2 30) (.inl rfl) (Res1.cell tT_ok rfl rfl rfl rfl) ?_) |(refine PureR.mk ?_)
       rw [if_neg h3];rfl
theorem specLevelOf_v (e:EE) (s:S):VCalls Try.prog 98 [e.v] s (fun v s'=>v = .int .i64 (lvl e.kind e.op)∧s'=s):=by
 unfold lvl EE.v
 generalize e.kind=kd
 generalize e.op=op
 by_cases h1:kd=1
 · skip
   refine LCalls.pure Try.func98 rfl (by kernel_rfl) (by simp) ?_
   repeat' first |(refine kOps ?_;first |(refine LOps.nil ?_) |(refine LOps.ev tT_ok rfl ?_) |(refine kBox ?_;refine LOps.box rfl rfl rfl rfl ?_) |(refine kLoad ?_;first |(refine LOps.ans (AnsL.loadP tT_ok rfl rfl rfl rfl) ?_))) |(refine kWL ?_;first |(refine WL.seq ?_) |(refine WL.region (by kernel_rfl) ?_) |(refine WL.block ?_) |(refine WL.skip ?_) |(refine WL.ret ?_) |(refine kCond ?_;first |(refine WL.condT' rfl ?_ ?_;(focus (first |(exact decide_eq_true (by assumption))))))) |(refine lthen_n ?_) |(refine lthen_r ?_) |(refine lblock_r ?_) |(refine LPost.r1 (r := .tmp 2) (.inl rfl) (Res1.tmp rfl) ?_) |(refine PureR.mk ?_)
   rw [if_pos (.inl h1)];rfl
 by_cases h2:kd=2
 · skip
   refine LCalls.pure Try.func98 rfl (by kernel_rfl) (by simp) ?_
   repeat' first |(refine kOps ?_;first |(refine LOps.nil ?_) |(refine LOps.ev tT_ok rfl ?_) |(refine kBox ?_;refine LOps.box rfl rfl rfl rfl ?_) |(refine kLoad ?_;first |(refine LOps.ans (AnsL.loadP tT_ok rfl rfl rfl rfl) ?_))) |(refine kWL ?_;first |(refine WL.seq ?_) |(refine WL.region (by kernel_rfl) ?_) |(refine WL.block ?_) |(refine WL.skip ?_) |(refine WL.ret ?_) |(refine kCond ?_;first |(refine WL.condT' rfl ?_ ?_;(focus (first |(exact decide_eq_true (by assumption))))) |(refine WL.condF' rfl ?_ ?_;(focus (first |(exact decide_eq_false (by assumption))))))) |(refine lthen_n ?_) |(refine lthen_r ?_) |(refine lblock_r ?_) |(refine LPost.r1 (r := .tmp 2) (.inl rfl) (Res1.tmp rfl) ?_) |(refine PureR.mk ?_)
   rw [if_pos (.inr (.inl h2))];rfl
 by_cases h9:kd=9
 · skip
   refine LCalls.pure Try.func98 rfl (by kernel_rfl) (by simp) ?_
   repeat' first |(refine kOps ?_;first |(refine LOps.nil ?_) |(refine LOps.ev tT_ok rfl ?_) |(refine kBox ?_;refine LOps.box rfl rfl rfl rfl ?_) |(refine kLoad ?_;first |(refine LOps.ans (AnsL.loadP tT_ok rfl rfl rfl rfl) ?_))) |(refine kWL ?_;first |(refine WL.seq ?_) |(refine WL.region (by kernel_rfl) ?_) |(refine WL.block ?_) |(refine WL.ret ?_) |(refine kCond ?_;first |(refine WL.condT' rfl ?_ ?_;(focus (first |(exact decide_eq_true (by assumption))))) |(refine WL.condF' rfl ?_ ?_;(focus (first |(exact decide_eq_false (by assumption))))))) |(refine lthen_n ?_) |(refine lthen_r ?_) |(refine lblock_r ?_) |(refine LPost.r1 (r := .tmp 2) (.inl rfl) (Res1.tmp rfl) ?_) |(refine PureR.mk ?_)
   rw [if_pos (.inr (.inr h9))];rfl
 rw [if_neg (by omega)]
 by_cases h5:kd=5
 · skip
   refine LCalls.pure Try.func98 rfl (by kernel_rfl) (by simp) ?_
   repeat' first |(refine kOps ?_;first |(refine LOps.nil ?_) |(refine LOps.ev tT_ok rfl ?_) |(refine kBox ?_;refine LOps.box rfl rfl rfl rfl ?_) |(refine kLoad ?_;first |(refine LOps.ans (AnsL.loadP tT_ok rfl rfl rfl rfl) ?_))) |(refine kWL ?_;first |(refine WL.seq ?_) |(refine WL.region (by kernel_rfl) ?_) |(refine WL.block ?_) |(refine WL.skip ?_) |(refine WL.ret ?_) |(refine kCond ?_;first |(refine WL.condT' rfl ?_ ?_;(focus (first |(exact decide_eq_true (by assumption))))) |(refine WL.condF' rfl ?_ ?_;(focus (first |(exact decide_eq_false (by assumption))))))) |(refine lthen_n ?_) |(refine lthen_r ?_) |(refine lblock_r ?_) |(refine LPost.r1 (r := .tmp 2) (.inl rfl) (Res1.tmp rfl) ?_) |(refine PureR.mk ?_)
   rw [if_pos (.inl h5)];rfl
 by_cases h6:kd=6
 · skip
   refine LCalls.pure Try.func98 rfl (by kernel_rfl) (by simp) ?_
   repeat' first |(refine kOps ?_;first |(refine LOps.nil ?_) |(refine LOps.ev tT_ok rfl ?_) |(refine kBox ?_;refine LOps.box rfl rfl rfl rfl ?_) |(refine kLoad ?_;first |(refine LOps.ans (AnsL.loadP tT_ok rfl rfl rfl rfl) ?_))) |(refine kWL ?_;first |(refine WL.seq ?_) |(refine WL.region (by kernel_rfl) ?_) |(refine WL.block ?_) |(refine WL.skip ?_) |(refine WL.ret ?_) |(refine kCond ?_;first |(refine WL.condT' rfl ?_ ?_;(focus (first |(exact decide_eq_true (by assumption))))) |(refine WL.condF' rfl ?_ ?_;(focus (first |(exact decide_eq_false (by assumption))))))) |(refine lthen_n ?_) |(refine lthen_r ?_) |(refine lblock_r ?_) |(refine LPost.r1 (r := .tmp 2) (.inl rfl) (Res1.tmp rfl) ?_) |(refine PureR.mk ?_)
   rw [if_pos (.inr (.inl h6))];rfl
 by_cases h7:kd=7
 · skip
   refine LCalls.pure Try.func98 rfl (by kernel_rfl) (by simp) ?_
   repeat' first |(refine kOps ?_;first |(refine LOps.nil ?_) |(refine LOps.ev tT_ok rfl ?_) |(refine kBox ?_;refine LOps.box rfl rfl rfl rfl ?_) |(refine kLoad ?_;first |(refine LOps.ans (AnsL.loadP tT_ok rfl rfl rfl rfl) ?_))) |(refine kWL ?_;first |(refine WL.seq ?_) |(refine WL.region (by kernel_rfl) ?_) |(refine WL.block ?_) |(refine WL.skip ?_) |(refine WL.ret ?_) |(refine kCond ?_;first |(refine WL.condT' rfl ?_ ?_;(focus (first |(exact decide_eq_true (by assumption))))) |(refine WL.condF' rfl ?_ ?_;(focus (first |(exact decide_eq_false (by assumption))))))) |(refine lthen_n ?_) |(refine lthen_r ?_) |(refine lblock_r ?_) |(refine LPost.r1 (r := .tmp 2) (.inl rfl) (Res1.tmp rfl) ?_) |(refine PureR.mk ?_)
   rw [if_pos (.inr (.inr (.inl h7)))];rfl
 by_cases h8:kd=8
 · skip
   refine LCalls.pure Try.func98 rfl (by kernel_rfl) (by simp) ?_
   repeat' first |(refine kOps ?_;first |(refine LOps.nil ?_) |(refine LOps.ev tT_ok rfl ?_) |(refine kBox ?_;refine LOps.box rfl rfl rfl rfl ?_) |(refine kLoad ?_;first |(refine LOps.ans (AnsL.loadP tT_ok rfl rfl rfl rfl) ?_))) |(refine kWL ?_;first |(refine WL.seq ?_) |(refine WL.region (by kernel_rfl) ?_) |(refine WL.block ?_) |(refine WL.ret ?_) |(refine kCond ?_;first |(refine WL.condT' rfl ?_ ?_;(focus (first |(exact decide_eq_true (by assumption))))) |(refine WL.condF' rfl ?_ ?_;(focus (first |(exact decide_eq_false (by assumption))))))) |(refine lthen_n ?_) |(refine lthen_r ?_) |(refine lblock_r ?_) |(refine LPost.r1 (r := .tmp 2) (.inl rfl) (Res1.tmp rfl) ?_) |(refine PureR.mk ?_)
   rw [if_pos (.inr (.inr (.inr h8)))];rfl
 rw [if_neg (by omega)]
 by_cases h3:kd=3
 · rw [if_pos h3]
   by_cases o1:op=15
   · skip
     refine LCalls.pure Try.func98 rfl (by kernel_rfl) (by simp) ?_
     repeat' first |(refine kOps ?_;first |(refine LOps.nil ?_) |(refine LOps.ev tT_ok rfl ?_) |(refine kBox ?_;refine LOps.box rfl rfl rfl rfl ?_) |(refine kLoad ?_;first |(refine LOps.ans (AnsL.loadP tT_ok rfl rfl rfl rfl) ?_))) |(refine kWL ?_;first |(refine WL.seq ?_) |(refine WL.region (by kernel_rfl) ?_) |(refine WL.block ?_) |(refine WL.ret ?_) |(refine kCond ?_;first |(refine WL.condT' rfl ?_ ?_;(focus (first |(exact decide_eq_true (by assumption))))) |(refine WL.condF' rfl ?_ ?_;(focus (first |(exact decide_eq_false (by assumption))))))) |(refine lthen_n ?_) |(refine lthen_r ?_) |(refine lblock_r ?_) |(refine LPost.r1 (r := .tmp 2) (.inl rfl) (Res1.tmp rfl) ?_) |(refine PureR.mk ?_)
     rw [if_pos o1];rfl
   · rw [if_neg o1]
     by_cases o2:op=16
     · skip
       refine LCalls.pure Try.func98 rfl (by kernel_rfl) (by simp) ?_
       repeat' first |(refine kOps ?_;first |(refine LOps.nil ?_) |(refine LOps.ev tT_ok rfl ?_) |(refine kBox ?_;refine LOps.box rfl rfl rfl rfl ?_) |(refine kLoad ?_;first |(refine LOps.ans (AnsL.loadP tT_ok rfl rfl rfl rfl) ?_))) |(refine kWL ?_;first |(refine WL.seq ?_) |(refine WL.region (by kernel_rfl) ?_) |(refine WL.block ?_) |(refine WL.skip ?_) |(refine WL.ret ?_) |(refine kCond ?_;first |(refine WL.condT' rfl ?_ ?_;(focus (first |(exact decide_eq_true (by assumption))))) |(refine WL.condF' rfl ?_ ?_;(focus (first |(exact decide_eq_false (by assumption))))))) |(refine lthen_n ?_) |(refine lthen_r ?_) |(refine lblock_r ?_) |(refine LPost.r1 (r := .tmp 2) (.inl rfl) (Res1.tmp rfl) ?_) |(refine PureR.mk ?_)
       rw [if_pos o2];rfl
     · skip
       refine LCalls.pure Try.func98 rfl (by kernel_rfl) (by simp) ?_
       repeat' first |(refine kOps ?_;first |(refine LOps.nil ?_) |(refine LOps.ev tT_ok rfl ?_) |(refine kBox ?_;refine LOps.box rfl rfl rfl rfl ?_) |(refine kLoad ?_;first |(refine LOps.ans (AnsL.loadP tT_ok rfl rfl rfl rfl) ?_))) |(refine kWL ?_;first |(refine WL.seq ?_) |(refine WL.region (by kernel_rfl) ?_) |(refine WL.block ?_) |(refine WL.skip ?_) |(refine WL.ret ?_) |(refine kCond ?_;first |(refine WL.condT' rfl ?_ ?_;(focus (first |(exact decide_eq_true (by assumption))))) |(refine WL.condF' rfl ?_ ?_;(focus (first |(exact decide_eq_false (by assumption))))))) |(refine lthen_n ?_) |(refine lblock_n ?_) |(refine LPost.r1 (r := .tmp 2) (.inl rfl) (Res1.tmp rfl) ?_) |(refine PureR.mk ?_)
       rw [if_neg o2];rfl
 rw [if_neg h3]
 by_cases h4:kd=4
 · by_cases ho : 1 ≤ op ∧ op ≤ 14
   · rw [if_pos ⟨h4, ho⟩]
     obtain ⟨k,rfl⟩:∃ k:Nat,op=(k:Int):=⟨op.toNat,by omega⟩
     have hg:(lvlL.map (V.int .i64))[((k:Int)).toNat]?=some (.int .i64 (lvlL.getD ((k:Int)).toNat 0)):=by
       have:k<lvlL.length:=by show k<15;omega
       simp [this]
     generalize lvlL.getD ((k:Int)).toNat 0=r at hg
     refine LCalls.pure Try.func98 rfl (by kernel_rfl) (by simp) ?_
     repeat' first |(refine kOps ?_;first |(refine LOps.nil ?_) |(refine LOps.ev tT_ok rfl ?_) |(refine kBox ?_;refine LOps.box rfl rfl rfl rfl ?_) |(refine kBsl ?_;first |(refine LOps.bsl tT_ok rfl rfl rfl rfl rfl rfl rfl rfl rfl rfl rfl ?_)) |(refine kLoad ?_;first |(refine LOps.ans (AnsL.loadP tT_ok rfl rfl rfl rfl) ?_)) |(refine kIdx ?_;first |(refine LOps.ans (AnsL.idxZ tT_ok rfl rfl rfl rfl rfl ?_ hg rfl rfl) ?_;(focus (omega)))) |(refine kCallN 92 ?_;first |(refine LOps.ans (AnsL.callP rfl rfl rfl (ok92) (specl1In_t ho _)) ?_))) |(refine kWL ?_;first |(refine WL.seq ?_) |(refine WL.region (by kernel_rfl) ?_) |(refine WL.block ?_) |(refine WL.ret ?_) |(refine kCond ?_;first |(refine WL.condT rfl ?_) |(refine WL.condT' rfl ?_ ?_;(focus (first |(exact decide_eq_true (by assumption))))) |(refine WL.condF' rfl ?_ ?_;(focus (first |(exact decide_eq_false (by assumption))))))) |(refine lthen_n ?_) |(refine lthen_r ?_) |(refine lblock_r ?_) |(refine LPost.r1 (r := .tmp 2) (.inl rfl) (Res1.tmp rfl) ?_) |(refine PureR.mk ?_)
     rfl
   · rw [if_neg (fun h => ho h.2)]
     refine LCalls.pure Try.func98 rfl (by kernel_rfl) (by simp) ?_
     repeat' first |(refine kOps ?_;first |(refine LOps.nil ?_) |(refine LOps.ev tT_ok rfl ?_) |(refine kBox ?_;refine LOps.box rfl rfl rfl rfl ?_) |(refine kLoad ?_;first |(refine LOps.ans (AnsL.loadP tT_ok rfl rfl rfl rfl) ?_)) |(refine kCallN 92 ?_;first |(refine LOps.ans (AnsL.callP rfl rfl rfl (ok92) (specl1In_f ho _)) ?_))) |(refine kWL ?_;first |(refine WL.seq ?_) |(refine WL.region (by kernel_rfl) ?_) |(refine WL.block ?_) |(refine WL.skip ?_) |(refine WL.ret ?_) |(refine kCond ?_;first |(refine WL.condF rfl ?_) |(refine WL.condT' rfl ?_ ?_;(focus (first |(exact decide_eq_true (by assumption))))) |(refine WL.condF' rfl ?_ ?_;(focus (first |(exact decide_eq_false (by assumption))))))) |(refine lthen_n ?_) |(refine lblock_n ?_) |(refine LPost.r1 (r := .tmp 2) (.inl rfl) (Res1.tmp rfl) ?_) |(refine PureR.mk ?_)
     rfl
 · rw [if_neg (fun h => h4 h.1)]
   refine LCalls.pure Try.func98 rfl (by kernel_rfl) (by simp) ?_
   repeat' first |(refine kOps ?_;first |(refine LOps.nil ?_) |(refine LOps.ev tT_ok rfl ?_) |(refine kBox ?_;refine LOps.box rfl rfl rfl rfl ?_) |(refine kLoad ?_;first |(refine LOps.ans (AnsL.loadP tT_ok rfl rfl rfl rfl) ?_))) |(refine kWL ?_;first |(refine WL.seq ?_) |(refine WL.region (by kernel_rfl) ?_) |(refine WL.block ?_) |(refine WL.skip ?_) |(refine WL.ret ?_) |(refine kCond ?_;first |(refine WL.condF' rfl ?_ ?_;(focus (first |(exact decide_eq_false (by assumption))))))) |(refine lthen_n ?_) |(refine lblock_n ?_) |(refine LPost.r1 (r := .tmp 2) (.inl rfl) (Res1.tmp rfl) ?_) |(refine PureR.mk ?_)
   rfl
theorem lvl_le (kd op:Int):0≤lvl kd op∧lvl kd op≤9:=by
 unfold lvl
 split
 · omega
 · split
   · omega
   · split
     · split
       · omega
       · split <;> omega
     · split
       · rename_i h
         have h2:op.toNat<15:=by omega
         have h3:∀ n,n<15→0≤lvlL.getD n 0∧lvlL.getD n 0≤9:=by decide
         exact h3 _ h2
       · omega
end Go.Proofs.Ytikghanejpigjaa
