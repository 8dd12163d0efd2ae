/-
  Slices of the caller's that a call appends to.
  Slices of plans' trees hold no variables.
  What has a type of plans' trees is one.
  Copies, sizes and comparisons of plans' trees and plans. Printed by a program of our own; no condition.
  Own work; no condition.
-/
import Derived.Test.YtikghanejpigjaaMg10
import Derived.Test.YtikghanejpigjaaMg17
import Derived.Test.YtikghanejpigjaaMg15
namespace Go.Proofs.Ytikghanejpigjaa
open Go
@[simp] theorem setFam_setFam (t:S) (id a b c d:Nat):(t.setFam id a b).setFam id c d=t.setFam id c d:=by
 refine S.ext_eq (fun _=>rfl) (fun x=>?_) rfl
 simp only [S.setFam]
 by_cases h:x=id <;> simp [h]
theorem ext_setFam_lt {t:S} {id:Nat} (h:id<t.next) (xs:List Own) (n sz:Nat):(t.ext xs).setFam id n sz=(t.setFam id n sz).ext xs:=by
 refine S.ext_eq (fun _=>rfl) (fun x=>?_) rfl
 simp only [S.setFam,S.ext]
 by_cases h1:x=id
 · simp [h1,h]
 · simp [h1]
@[simp] theorem setFam_next (t:S) (id n sz:Nat):(t.setFam id n sz).next=t.next:=rfl
@[simp] theorem setFam_vars (t:S) (id n sz l:Nat):(t.setFam id n sz).vars l=t.vars l:=rfl
section
variable {P:Program} {N:Nat} {ops:Array Oper} {l:List Oper} {K:Kn→S→Prop} {L:Kn} {t:S} {xs:List Own} {tt:BT} {d:Nat} {ty:TypeId} {p:String} {a:Array Edge}
theorem LOps.appO (ht:tt.ok P) {T U e:TypeId} {u te:Ty} {x y:Operand} {id n sz:Nat} {us vs:List V} {w:V} (hx:opd L x=some (.sl id us)) (hlt:id<t.next) (hy:opd L y=some w) (hw:spreadO w=some vs)
   (hT:tt.get T=some u) (hkd:u.kd = .slice e) (hte:tt.get e=some te) (hz:(Nat.beq te.zero.length te.size&&Nat.blt 0 te.size)=true) (hm:Nat.beq sz te.size=true) (hU:Nat.beq U T=true) (hn:n=us.length) (hall:Elems te vs) (hb:AppB (us.length+vs.length) te.bytes)
   (hk:LOps P N ops l K ((d,.sl id (us++vs))::L) ((t.setFam id (us.length+vs.length) sz).ext xs)):LOps P N ops (⟨some d,appCall x y #[T,U],ty,p,a,none⟩::l) K L ((t.setFam id n sz).ext xs):=by
 simp only [Bool.and_eq_true] at hz
 have hU':=Nat.eq_of_beq_eq_true hU
 subst hU'
 subst hn
 have hm':=Nat.eq_of_beq_eq_true hm
 subst hm'
 refine .st (fun σ hσ => ?_) hk
 have hf:((t.setFam id us.length te.size).ext xs).fams id=some (us.length,te.size):=by rw [ext_fams_lt _ _ (by simpa using hlt)];simp [S.setFam]
 simp only [appCall,vop,vevL,opd_eq hσ hx,opd_eq hσ hy,vbuiltin,vappend,ht.get hT,hkd,ht.get hte,spreadO_eq hw,Option.bind_some,Option.map_some,if_true]
 rw [if_pos ⟨Nat.eq_of_beq_eq_true hz.1,by simpa using hz.2,hall⟩,hf]
 simp only [Option.bind_some]
 rw [if_pos ⟨trivial,trivial,hb.1,hb.2⟩,ext_setFam_lt (by simpa using hlt),setFam_setFam]
end
end Go.Proofs.Ytikghanejpigjaa

namespace Go.Proofs.Ytikghanejpigjaa
open Go
theorem plainL_of' {id:Nat} {xs:List V} (h:V.plain (.sl id xs)=true):V.plainL xs=true:=by
 simp only [V.plain,Bool.and_eq_true] at h
 exact h.2
@[simp] theorem PE.under_S (n:Nat) (l:List PE):V.underL n (l.map PE.toV)=true:=underL_dat (plainL_dat _ (plainL_of' (plain_PExprS l)))
@[simp] theorem PE.under_SS (n:Nat) (l:List (List PE)):V.underL n (l.map PE.vS)=true:=underL_dat (plainL_dat _ (plainL_of' (plain_PExprSS l)))
@[simp] theorem PE.under_O (n:Nat) (l:List (PE × Bool)):V.underL n (l.map PE.sv)=true:=underL_dat (plainL_dat _ (plainL_of' (plain_PSortS l)))
@[simp] theorem PE.under_P (n:Nat) (l:List PL):V.underL n (l.map PE.planV)=true:=underL_dat (plainL_dat _ (plainL_of' (plain_PlanS l)))
end Go.Proofs.Ytikghanejpigjaa

namespace Go.Proofs.Ytikghanejpigjaa
open Go
set_option linter.unusedSimpArgs false
set_option linter.unusedVariables false
end Go.Proofs.Ytikghanejpigjaa

namespace Go.Proofs.Ytikghanejpigjaa
open Go
set_option linter.unusedSimpArgs false
set_option linter.unusedVariables false
def ToC (P:Program) (g:FuncId) (d:V):Prop:=∀ t:S,VCalls P g [d] t (fun v t'=>Own2 d v t')
def SzC (P:Program) (g:FuncId) (d:V):Prop:=∀ (left:Int) (s:S),0≤left→left≤1048576→VCalls P g [d,.int .i64 left] s (fun v s'=>v = .int .i64 (szI (wgt d) left)∧s'=s)
def EqC (P:Program) (g:FuncId) (d:V):Prop:=∀ s:S,VCalls P g [d,d] s (fun v s'=>v = .bool true∧s'=s)
theorem SzC.ok {P:Program} {g:FuncId} {d:V} (h:SzC P g d) {left:Int} (h1:left≤1048576) (h2:(wgt d:Int)≤left) (s:S):VCalls P g [d,.int .i64 left] s (fun v s'=>v = .int .i64 (left - (wgt d:Nat))∧s'=s):=by
 rw [← szI_pos (w:=wgt d) (by omega)];exact h left s (by omega) h1
theorem ToC.pure {P:Program} {g:FuncId} {d:V} (h:ToC P g d) (hd:d.plain=true) (s:S):VCalls P g [d] s (fun v s'=>v=d∧s'=s):=VCalls.pureOf (plainL_cons hd rfl) hd h s
theorem plainL_of {id:Nat} {xs:List V} (h:V.plain (.sl id xs)=true):V.plainL xs=true:=by
 simp only [V.plain,Bool.and_eq_true] at h
 exact h.2
theorem PE.wgt_eq2 (x:PE):wgt x.v=x.value.wt+wgt (.sl 0 (x.kids.map PE.toV))+wgt (.sl 0 (x.sub.map PE.planV)):=PE.wgt_eq x
theorem PExprS_len (l:List PE):∀ x∈l.map PE.toV,x.cells.length=10:=by
 intro v hv
 obtain ⟨x,_,rfl⟩:=List.mem_map.1 hv
 rw [PE.toV_eq];rfl
theorem PExprS_wgt (l:List PE):wgt (.sl 0 (l.map PE.toV))=slW (fun x=>wgt (PE.v x)) l:=by
 rw [wgt_sl]
 simp only [PE.toV_eq]
theorem PExprSS_len (l:List (List PE)):∀ x∈l.map PE.vS,x.cells.length=1:=by
 intro v hv
 obtain ⟨x,_,rfl⟩:=List.mem_map.1 hv
 rfl
theorem PExprSS_wgt (l:List (List PE)):wgt (.sl 0 (l.map PE.vS))=slW (fun x=>wgt (PE.vS x)) l:=by
 rw [wgt_sl]
theorem PSortS_len (l:List (PE × Bool)):∀ x∈l.map PE.sv,x.cells.length=11:=by
 intro v hv
 obtain ⟨x,_,rfl⟩:=List.mem_map.1 hv
 rfl
theorem PSortS_wgt (l:List (PE × Bool)):wgt (.sl 0 (l.map PE.sv))=slW (fun x=>wgt (PE.sv x)) l:=by
 rw [wgt_sl]
theorem PlanS_len (l:List PL):∀ x∈l.map PE.planV,x.cells.length=8:=by
 intro v hv
 obtain ⟨x,_,rfl⟩:=List.mem_map.1 hv
 rw [PE.planV_eq];rfl
theorem PlanS_wgt (l:List PL):wgt (.sl 0 (l.map PE.planV))=slW (fun x=>wgt (PL.v x)) l:=by
 rw [wgt_sl]
 simp only [PE.planV_eq]
theorem PE.wgt_kid {e k:PE} (h:k∈e.kids):wgt k.v≤wgt e.v:=by
 have h1:=wgt_mem (f:=PE.toV) h
 rw [PE.toV_eq] at h1
 have:=PE.wgt_eq2 e
 omega
theorem PE.wgt_sub {e:PE} {p:PL} (h:p∈e.sub):wgt p.v≤wgt e.v:=by
 have h1:=wgt_mem (f:=PE.planV) h
 rw [PE.planV_eq] at h1
 have:=PE.wgt_eq2 e
 omega
theorem PL.wgt_part2 {p:PL} {k:PE} (h:k∈p.parts):wgt k.v≤wgt p.v:=by
 have:=PL.wgt_part h
 rwa [PE.toV_eq] at this
theorem PL.wgt_on {p:PL} {l:List PE} (h:l∈p.on):wgt (.sl 0 (l.map PE.toV))≤wgt p.v:=by
 have h1:=wgt_mem (f:=PE.vS) h
 have:=PL.wgt_eq p
 simp only [PE.vS] at h1
 omega
end Go.Proofs.Ytikghanejpigjaa
