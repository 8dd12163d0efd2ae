/-
  Worlds that a call of the library's leaves behind: draws, and blocks behind the heap.
  Sorting what is held in memory of one's own: a slice of pairs of numbers, by their first ones.
  A stack in memory of one's own: a slice whose variable is open in the books, cut and appended to.
  A slice of one's own, its variable open in the books: cut at both ends, appended to itself in place, cleared behind its end.
  A slice of one's own appended to itself in place; cleared.
  The library's deletion of one element from a slice of one's own, at tokens.
  Pairs of parentheses, plainly: the stack's way and the scan's way are one.
  Pairs of parentheses: what the reference's PairsOf answers.
  The library's sort, by its contract, at slices of numbers compared by their first ones.
  Pairs of parentheses: what the program's PairsOf answers, in new memory.
  Pairs of parentheses: the program's PairsOf, walked.
  A list without one pair of parentheses: the program's way.
  Pairs of parentheses: the reference's PairsOf, walked: its answer in new memory; and the law.
  A list without one pair of parentheses: the program's WithoutPair, walked.
  Own work; no condition.
-/
import Derived.Test.YtikghanejpigjaaVRel
import Derived.Sort.Grow
import Derived.Sort.Row
import Derived.Deep.Draws
import Derived.Test.YtikghanejpigjaaMg25
import Derived.Test.YtikghanejpigjaaMg45
import Derived.Test.YtikghanejpigjaaMg15
import Derived.Test.YtikghanejpigjaaMg10
import Derived.Shelf.SlSortCmp.NoneTotal
import Derived.Shelf.SlicesG.Cmp
namespace Go.Proofs.Ytikghanejpigjaa
open Go
set_option linter.unusedSimpArgs false
set_option linter.unusedVariables false
end Go.Proofs.Ytikghanejpigjaa

namespace Go.Proofs.Ytikghanejpigjaa
open Go
set_option linter.unusedSimpArgs false
set_option linter.unusedVariables false
def pairV (p:Int × Int):V := .sl 0 [.int .i64 p.1,.int .i64 p.2]
theorem OwL.at {s:S}:∀ {vs ds:List V} {ls:List (Bool × Nat)},OwL s vs ds ls→∀ {i:Nat} {v d:V},vs[i]?=some v→ds[i]?=some d→∃ a,Ow s v d a∧∀ p∈a,p∈ls
 | _,_,_,.nil,i,v,d,h,_=>by simp at h
 | _,_,_,.cons (a:=a) h1 t,0,v,d,hv,hd=>by
   simp at hv hd;subst hv;subst hd
   exact ⟨a,h1,fun p hp=>List.mem_append_left _ hp⟩
 | _,_,_,.cons h1 t,i+1,v,d,hv,hd=>by
   obtain ⟨a,h2,h3⟩:=t.at (i:=i) (by simpa using hv) (by simpa using hd)
   exact ⟨a,h2,fun p hp=>List.mem_append_right _ (h3 p hp)⟩
end Go.Proofs.Ytikghanejpigjaa

namespace Go.Proofs.Ytikghanejpigjaa
open Go
set_option linter.unusedSimpArgs false
set_option linter.unusedVariables false
section
variable {P:Program} {N:Nat} {ops:Array Oper} {l:List Oper} {K:Kn→S→Prop} {L:Kn} {s:S} {tt:BT} {d:Nat} {ty:TypeId} {p:String} {a:Array Edge} {H H1:List BE}
end
end Go.Proofs.Ytikghanejpigjaa

namespace Go.Proofs.Ytikghanejpigjaa
open Go
set_option linter.unusedSimpArgs false
set_option linter.unusedVariables false
theorem bnd {k:IntKind} {a d:Nat}:bound (some (.int k (a:Int))) d=some a:=by simp only [bound,Int.toNat_natCast,Int.natCast_nonneg,if_true]
section
variable {P:Program} {E:Env} {n c a h m:Nat} {ka kb kc:IntKind} {av bv mv:Value}
end
section
variable {P:Program} {N:Nat} {ops:Array Oper} {l:List Oper} {K:Kn→S→Prop} {L:Kn} {s:S} {tt:BT} {d:Nat} {ty:TypeId} {p:String} {a:Array Edge} {H H1:List BE}
end
end Go.Proofs.Ytikghanejpigjaa

namespace Go.Proofs.Ytikghanejpigjaa
open Go
set_option linter.unusedSimpArgs false
set_option linter.unusedVariables false
section
variable {P:Program} {T ty e:TypeId} {i:TypeInfo} {z:Value} {E:Env} {s:S}
end
section
variable {P:Program} {N:Nat} {ops:Array Oper} {l:List Oper} {K:Kn→S→Prop} {L:Kn} {s:S} {tt:BT} {d:Nat} {ty:TypeId} {p:String} {a:Array Edge} {H H1:List BE}
def clearCall (x:Operand) (A:Array TypeId):Op := .call ⟨.builtin .clear, #[x],A⟩
end
end Go.Proofs.Ytikghanejpigjaa

namespace Go.Proofs.Ytikghanejpigjaa
open Go
set_option linter.unusedSimpArgs false
set_option linter.unusedVariables false
theorem tok_sz (l:List Token):∀ u∈l.map Token.toV,u.cells.length=3:=fun u hu=>by obtain ⟨p,_,rfl⟩:=List.mem_map.1 hu;rfl
theorem tok_one (l:List Token):(V.flat (l.map Token.toV)).all V.one=true:=by
 induction l with
 | nil=>rfl
 | cons t l ih=>rw [List.map_cons,flat_cons,List.all_append,ih,Bool.and_true];rfl
end Go.Proofs.Ytikghanejpigjaa

namespace Go.Proofs.Ytikghanejpigjaa
open Go
set_option linter.unusedSimpArgs false
set_option linter.unusedVariables false
def isSign (t:Token) (c:UInt8):Bool:=decide (t.kind=5)&&decide (t.text=[c])
theorem not_both {t:Token} (h:isSign t 40=true):isSign t 41=false:=by
 simp only [isSign,Bool.and_eq_true,decide_eq_true_eq] at h
 simp only [isSign,h.2]
 simp
theorem not_both' {t:Token} (h:isSign t 41=true):isSign t 40=false:=by
 simp only [isSign,Bool.and_eq_true,decide_eq_true_eq] at h
 simp only [isSign,h.2]
 simp
def scanP:Nat→Nat→List Token→Option Nat
 | _,_,[]=>none
 | d,i,t::ts=>if isSign t 40=true then scanP (d+1) (i+1) ts else if isSign t 41=true then (if d=1 then some i else scanP (d - 1) (i+1) ts) else scanP d (i+1) ts
def keyTok (t:Token):Bool:=decide (t.kind=1)&&(decide (t.text=[73,78]) || decide (t.text=[69,88,73,83,84,83]))
def keyAt (l:List Token):Nat→Bool
 | 0=>false
 | q+1=>(l[q]?.map keyTok).getD false
def openP (l:List Token) (p:Nat):Bool:=(l[p]?.map fun t=>isSign t 40).getD false
def shutP (l:List Token) (p:Nat):Option Nat:=scanP 1 (p+1) (l.drop (p+1))
def pairAt (l:List Token) (p:Nat):Option (Int × Int):=if openP l p=true∧keyAt l p=false then (shutP l p).map fun j:Nat=>((p:Int),(j:Int)) else none
def pairs (l:List Token):List (Int × Int):=(List.range l.length).filterMap (pairAt l)
structure InvP (l:List Token) (i:Nat) (st:List Nat) (outs:List (Int × Int)):Prop where
 op:∀ p∈st,openP l p=true∧p<i
 sh:∀ (m:Nat) (p:Nat),st[m]?=some p→shutP l p=scanP (st.length - m) i (l.drop i)
 pm:(outs++st.filterMap (pairAt l)).Perm ((List.range i).filterMap (pairAt l))
theorem InvP.start (l:List Token):InvP l 0 [] []:=⟨fun p h=>(by cases h),fun m p h=>(by simp at h),.refl _⟩
theorem drop_at {l:List Token} {i:Nat} (h:i<l.length):l.drop i=l[i]::l.drop (i+1):=List.drop_eq_getElem_cons h
theorem openP_at {l:List Token} {i:Nat} (h:i<l.length):openP l i=isSign l[i] 40:=by simp [openP,h]
theorem range_fm (l:List Token) (i:Nat):(List.range (i+1)).filterMap (pairAt l)=(List.range i).filterMap (pairAt l)++(pairAt l i).toList:=by
 rw [List.range_succ,List.filterMap_append]
 congr 1
theorem pairAt_none {l:List Token} {i:Nat} (hi:i<l.length) (ho:isSign l[i] 40=false):pairAt l i=none:=by
 unfold pairAt
 rw [if_neg]
 rw [openP_at hi,ho]
 simp
theorem pairAt_fst {l:List Token} {p:Nat} {x:Int × Int} (h:pairAt l p=some x):x.1=p:=by
 unfold pairAt at h
 split at h
 · obtain ⟨j,_,rfl⟩:=Option.map_eq_some_iff.1 h;rfl
 · cases h
theorem pairs_len (l:List Token):(pairs l).length≤l.length:=by
 unfold pairs
 exact Nat.le_trans (List.length_filterMap_le _ _) (by simp)
end Go.Proofs.Ytikghanejpigjaa

namespace Go.Proofs.Ytikghanejpigjaa
open Go
set_option linter.unusedSimpArgs false
set_option linter.unusedVariables false
@[simp] theorem datL_pairs:∀ xs:List (Int × Int),V.datL (xs.map pairV)=true
 | []=>rfl
 | x::xs=>by simp only [List.map_cons,V.datL,datL_pairs xs,Bool.and_true];rfl
@[simp] theorem dat_pairs (xs:List (Int × Int)):V.dat (.sl 0 (xs.map pairV))=true:=datL_pairs xs
@[simp] theorem underL_pairs (n:Nat):∀ xs:List (Int × Int),V.underL n (xs.map pairV)=true
 | []=>by simp [V.underL]
 | x::xs=>by simp [V.underL,V.under,pairV,underL_pairs n xs]
end Go.Proofs.Ytikghanejpigjaa

namespace Go.Proofs
open Go.Shelf
def Try.cmpInts_ren:Go.Shelf.Ren:=⟨fun | 5=>19 | 7=>44 | n=>n,fun | 22=>3 | 3=>3 | 4=>4 | n=>n,fun | n=>n⟩
end Go.Proofs
namespace Go.Proofs.Ytikghanejpigjaa
open Go
set_option linter.unusedSimpArgs false
set_option linter.unusedVariables false
section
open Go.Shelf Go.RowKit Go.Lib Go.Sort
theorem extract_full {α : Type} (d:Array α) {n:Nat} (h:d.size=n):d.extract 0 n=d:=by subst h;exact Array.extract_size
end
end Go.Proofs.Ytikghanejpigjaa

namespace Go.Proofs.Ytikghanejpigjaa
open Go
set_option linter.unusedSimpArgs false
set_option linter.unusedVariables false
def S.trimP (s:S) (l:Nat) (us:List V):S:={ s with vars:=fun x=>if x=l then some us else (s.vars x).map (List.take 2) }
end Go.Proofs.Ytikghanejpigjaa

namespace Go.Proofs.Ytikghanejpigjaa
open Go
set_option linter.unusedSimpArgs false
set_option linter.unusedVariables false
def ips (st:List Nat):List V:=st.map fun p:Nat=>V.int .i64 (p:Int)
def stV (st:List Nat):Option (Nat × Nat × List V)→V
 | none => .slm (.is 0) 0 0 0
 | some (c,l,_) => .slm (.is c) l 0 st.length
def stH (st:List Nat):Option (Nat × Nat × List V)→List BE
 | none=>[]
 | some (_,l,rest)=>[.cell l (ips st++rest)]
def stOk (st:List Nat):Option (Nat × Nat × List V)→Prop
 | none=>st=[]
 | some (c,_,rest)=>rest.length=c - st.length∧st.length≤c
theorem ips_len (st:List Nat):(ips st).length=st.length:=by simp [ips]
theorem flat_ips (st:List Nat):V.flat (ips st)=ips st:=by
 induction st with
 | nil=>rfl
 | cons a st ih=>show V.flat (_::ips st)=_;rw [flat_cons,ih];rfl
theorem ips_app (a b:List Nat):ips (a++b)=ips a++ips b:=by simp [ips]
structure PSt where
 i:Nat
 st:List Nat
 ov:Option (Nat × Nat × List V)
 outs:List (Int × Int)
 oc:Nat
 ol:Nat
end Go.Proofs.Ytikghanejpigjaa

namespace Go.Proofs.Ytikghanejpigjaa
open Go
set_option linter.unusedSimpArgs false
set_option linter.unusedVariables false
def cutP (l:List Token) (a b:Nat):List Token:=l.take a++(l.take b).drop (a+1)++l.drop (b+1)
def wP (l:List Token) (k:Int):List Token:=if 0≤k∧k<((pairs l).length:Int) then (match (pairs l)[k.toNat]? with | some p=>cutP l p.1.toNat p.2.toNat | none=>l) else l
theorem wP_out {l:List Token} {k:Int} (h:¬ (0≤k∧k<((pairs l).length:Int))):wP l k=l:=if_neg h
def S.trimT (s:S) (l:Nat) (us:List V):S:={ s with vars:=fun x=>if x=l then some us else s.vars x }
end Go.Proofs.Ytikghanejpigjaa

namespace Go.Proofs.Ytikghanejpigjaa
open Go
set_option linter.unusedSimpArgs false
set_option linter.unusedVariables false
structure PSp where
 i:Nat
 outs:List (Int × Int)
 oc:Nat
 ol:Nat
end Go.Proofs.Ytikghanejpigjaa

namespace Go.Proofs.Ytikghanejpigjaa
open Go
set_option linter.unusedSimpArgs false
set_option linter.unusedVariables false
theorem plain_pairs (ps:List (Int × Int)):(V.sl 0 (ps.map pairV)).plain=true:=by
 have e:ps.map pairV=(ps.map fun p=>[p.1,p.2]).map ints:=by rw [List.map_map];rfl
 rw [e]
 exact plain_IntSS _
end Go.Proofs.Ytikghanejpigjaa
