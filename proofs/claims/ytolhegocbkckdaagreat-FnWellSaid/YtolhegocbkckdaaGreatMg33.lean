/-
  Lists compared element by element: of the program, of the reference and of Go's library. Printed by a program of our own; no condition.
  Plans' trees and plans compared, of the program and of the reference. Printed by a program of our own; no condition.
  What has a type of plans' trees is one.
  Copies, sizes and comparisons of plans' trees and plans. Printed by a program of our own; no condition.
  Own work; no condition.
-/
import Derived.Test.YtolhegocbkckdaaGreatMg15
import Derived.Test.YtolhegocbkckdaaGreatMg17
import Derived.Test.YtolhegocbkckdaaGreatMg14
namespace Go.Proofs.YtolhegocbkckdaaGreat
open Go
set_option linter.unusedSimpArgs false
set_option linter.unusedVariables false
def gV {α : Type} (p : α → α → Bool):List α → List α → Bool
 | x::xs,y::ys=>p x y&&gV p xs ys
 | _,_=>true
def same {α : Type} (p : α → α → Bool) (a b:List α):Bool:=decide (a.length=b.length)&&gV p a b
theorem Mg {α : Type} {p : α → α → Bool} {a b:List α} (h:¬ (a.length:Int)=b.length):same p a b=false:=by
 unfold same
 rw [decide_eq_false (by omega)];rfl
theorem same_eq {α : Type} {p : α → α → Bool} {a b:List α} (h:(a.length:Int)=b.length):same p a b=gV p (a.drop 0) (b.drop 0):=by
 unfold same
 rw [decide_eq_true (by omega)];rfl
theorem Fe {α : Type} {p : α → α → Bool} {a b:List α} {i:Nat} (h:a.length≤i):gV p (a.drop i) (b.drop i)=true:=by rw [List.drop_of_length_le h];unfold gV;rfl
def Ji (a b:Val):Bool:=decide (a.kind=b.kind)&&(decide (a.num=b.num)&&(decide (a.text=b.text)&&true))
def colEq (a b:Col):Bool:=decide (a.name=b.name)&&(decide (a.type=b.type)&&true)
def Ad (a b:Int):Bool:=decide (a=b)
def strEq (a b:List UInt8):Bool:=decide (a=b)
def Lp (a b:List Val):Bool:=same Ji a b
def OL (a b:Data):Bool:=same Lp a.rows b.rows
def PZ (a b:Tab):Bool:=decide (a.name=b.name)&&same colEq a.qO b.qO
end Go.Proofs.YtolhegocbkckdaaGreat

namespace Go.Proofs.YtolhegocbkckdaaGreat
open Go
set_option linter.unusedSimpArgs false
set_option linter.unusedVariables false
theorem aR {id:Nat} {xs:List V} (h:V.plain (.sl id xs)=true):V.xV xs=true:=by
 simp only [V.plain,Bool.and_eq_true] at h
 exact h.2
mutual
def PE.WH:PE→PE→Bool
 | .mk k o n v u p kids sub,y=>decide (k=y.kind)&&(decide (o=y.op)&&(decide (n=y.nt)&&(Ji v y.value&&(decide (u=y.up)&&(decide (p=y.pos)&&(PE.AB kids y.kids&&PE.VW sub y.sub))))))
def PE.AB:List PE→List PE→Bool
 | x::xs,y::ys=>PE.WH x y&&PE.AB xs ys
 | [],[]=>true
 | _,_=>false
def PE.VW:List (qZ PE)→List (qZ PE)→Bool
 | x::xs,y::ys=>PE.Fg x y&&PE.VW xs ys
 | [],[]=>true
 | _,_=>false
def PE.Fg:qZ PE→qZ PE→Bool
 | ⟨t,on,w,o,i,n,d,l⟩,q=>same Ad t q.tables&&(PE.VY on q.on&&(PE.AB w q.xO&&(PE.EZ o q.order&&(PE.AB i q.items&&(same strEq n q.names&&(decide (d=q.distinct)&&decide (l=q.limit)))))))
def PE.VY:List (List PE)→List (List PE)→Bool
 | x::xs,y::ys=>PE.AB x y&&PE.VY xs ys
 | [],[]=>true
 | _,_=>false
def PE.EZ:List (PE × Bool)→List (PE × Bool)→Bool
 | x::xs,y::ys=>PE.Lr x y&&PE.EZ xs ys
 | [],[]=>true
 | _,_=>false
def PE.Lr:PE × Bool→PE × Bool→Bool
 |(e,d),y=>decide (d=y.2)&&PE.WH e y.1
end
theorem dV {α : Type} (p : α → α → Bool) (x y : α) (xs ys:List α):same p (x::xs) (y::ys)=(p x y&&same p xs ys):=by
 unfold same
 simp only [List.length_cons,Nat.add_right_cancel_iff,gV]
 cases p x y <;> cases decide (xs.length=ys.length) <;> rfl
theorem bC {α : Type} (p : α → α → Bool) (x : α) (xs:List α):same p [] (x::xs)=false∧same p (x::xs) []=false:=by constructor <;> simp [same]
theorem PE.X4:∀ (a b:List PE),PE.AB a b=same PE.WH a b
 | x::xs,y::ys=>by rw [dV,PE.AB,PE.X4 xs ys]
 | [],[]=>by simp [PE.AB,same,gV]
 | [],y::ys=>by rw [(bC _ y ys).1];simp [PE.AB]
 | y::ys,[]=>by rw [(bC _ y ys).2];simp [PE.AB]
theorem PE.WM:∀ (a b:List (qZ PE)),PE.VW a b=same PE.Fg a b
 | x::xs,y::ys=>by rw [dV,PE.VW,PE.WM xs ys]
 | [],[]=>by simp [PE.VW,same,gV]
 | [],y::ys=>by rw [(bC _ y ys).1];simp [PE.VW]
 | y::ys,[]=>by rw [(bC _ y ys).2];simp [PE.VW]
theorem PE.Ae:∀ (a b:List (PE × Bool)),PE.EZ a b=same PE.Lr a b
 | x::xs,y::ys=>by rw [dV,PE.EZ,PE.Ae xs ys]
 | [],[]=>by simp [PE.EZ,same,gV]
 | [],y::ys=>by rw [(bC _ y ys).1];simp [PE.EZ]
 | y::ys,[]=>by rw [(bC _ y ys).2];simp [PE.EZ]
theorem PE.WO:∀ (a b:List (List PE)),PE.VY a b=same (same PE.WH) a b
 | x::xs,y::ys=>by rw [dV,PE.VY,PE.WO xs ys,PE.X4]
 | [],[]=>by simp [PE.VY,same,gV]
 | [],y::ys=>by rw [(bC _ y ys).1];simp [PE.VY]
 | y::ys,[]=>by rw [(bC _ y ys).2];simp [PE.VY]
theorem PE.EX (x y:PE):x.WH y=(decide (x.kind=y.kind)&&(decide (x.op=y.op)&&(decide (x.nt=y.nt)&&(Ji x.value y.value&&(decide (x.up=y.up)&&(decide (x.pos=y.pos)&&(same PE.WH x.kids y.kids&&same PE.Fg x.sub y.sub))))))):=by
 cases x
 cases y
 simp only [PE.WH,PE.X4,PE.WM,PE.kind,PE.op,PE.nt,PE.value,PE.up,PE.pos,PE.kids,PE.sub]
 rfl
theorem PE.EK (x y:PE × Bool):PE.Lr x y=(decide (x.2=y.2)&&PE.WH x.1 y.1):=by
 obtain ⟨e,d⟩:=x
 obtain ⟨e2,d2⟩:=y
 simp only [PE.Lr]
theorem PE.EJ (p q:PL):PE.Fg p q=(same Ad p.tables q.tables&&(same (same PE.WH) p.on q.on&&(same PE.WH p.xO q.xO&&(same PE.Lr p.order q.order&&(same PE.WH p.items q.items&&(same strEq p.names q.names&&(decide (p.distinct=q.distinct)&&decide (p.limit=q.limit)))))))):=by
 obtain ⟨t,on,w,o,i,n,d,l⟩:=p
 simp only [PE.Fg,PE.X4,PE.WO,PE.Ae]
theorem vH {α : Type} {p : α → α → Bool}:∀ (l:List α),(∀ x∈l,p x x=true)→same p l l=true
 | [],_=>by simp [same,gV]
 | x::l,h=>by rw [dV,h x (by simp),vH l fun y hy=>h y (by simp [hy])];rfl
theorem VU (v:Val):Ji v v=true:=by simp [Ji]
theorem PE.Af (p:PL) (h:∀ k∈p.parts,PE.WH k k=true):PE.Fg p p=true:=by
 rw [PE.EJ,vH p.tables (by simp [Ad]),vH p.on fun l hl=>vH l fun k hk=>h k (qZ.Zm hl hk),vH p.xO fun k hk=>h k (qZ.aL hk),
   vH p.order fun x hx=>by rw [PE.EK,h x.1 (qZ.dK hx)];simp,vH p.items fun k hk=>h k (qZ.yS hk),vH p.names (by simp [strEq])]
 simp
theorem PE.Ls (x:PE):x.WH x=true:=by
 induction x using PE.ind with
 | h e ih1 ih2=>rw [PE.EX,VU,vH e.kids ih1,vH e.sub fun p hp=>PE.Af p (ih2 p hp)];simp
def PX (P:Program) (g:FuncId) (x:PE):Prop:=∀ (y:PE) (s:S),VCalls P g [x.v,y.v] s (fun v s'=>v = .bool (x.WH y)∧s'=s)
@[simp] theorem PE.Mh (n:Nat) (l:List PE):V.zO n (l.map PE.zF)=true:=yO (wQ _ (aR (xY l)))
@[simp] theorem PE.LZ (n:Nat) (l:List (List PE)):V.zO n (l.map PE.vS)=true:=yO (wQ _ (aR (Qx l)))
@[simp] theorem PE.Mi (n:Nat) (l:List (PE × Bool)):V.zO n (l.map PE.sv)=true:=yO (wQ _ (aR (XO l)))
@[simp] theorem PE.Ml (n:Nat) (l:List PL):V.zO n (l.map PE.xu)=true:=yO (wQ _ (aR (Jf l)))
end Go.Proofs.YtolhegocbkckdaaGreat

namespace Go.Proofs.YtolhegocbkckdaaGreat
open Go
set_option linter.unusedSimpArgs false
set_option linter.unusedVariables false
end Go.Proofs.YtolhegocbkckdaaGreat

namespace Go.Proofs.YtolhegocbkckdaaGreat
open Go
set_option linter.unusedSimpArgs false
set_option linter.unusedVariables false
def Di (P:Program) (g:FuncId) (d:V):Prop:=∀ t:S,VCalls P g [d] t (fun v t'=>Own2 d v t')
def Sq (P:Program) (g:FuncId) (d:V):Prop:=∀ (left:Int) (s:S),0≤left→left≤1048576→VCalls P g [d,.int .i64 left] s (fun v s'=>v = .int .i64 (D8 (qV d) left)∧s'=s)
def Sk (P:Program) (g:FuncId) (d:V):Prop:=∀ s:S,VCalls P g [d,d] s (fun v s'=>v = .bool true∧s'=s)
theorem Di.pure {P:Program} {g:FuncId} {d:V} (h:Di P g d) (hd:d.plain=true) (s:S):VCalls P g [d] s (fun v s'=>v=d∧s'=s):=VCalls.mU (zG hd rfl) hd h s
theorem QO {id:Nat} {xs:List V} (h:V.plain (.sl id xs)=true):V.xV xs=true:=by
 simp only [V.plain,Bool.and_eq_true] at h
 exact h.2
theorem PE.wG (x:PE):qV x.v=x.value.wt+qV (.sl 0 (x.kids.map PE.zF))+qV (.sl 0 (x.sub.map PE.xu)):=PE.qC x
theorem EW (l:List PE):∀ x∈l.map PE.zF,x.cells.length=10:=by
 intro v hv
 obtain ⟨x,_,rfl⟩:=List.mem_map.1 hv
 rw [PE.qK];rfl
theorem VA (l:List PE):qV (.sl 0 (l.map PE.zF))=bY (fun x=>qV (PE.v x)) l:=by
 rw [wN]
 simp only [PE.qK]
theorem Dl (l:List (List PE)):∀ x∈l.map PE.vS,x.cells.length=1:=by
 intro v hv
 obtain ⟨x,_,rfl⟩:=List.mem_map.1 hv
 rfl
theorem Dm (l:List (List PE)):qV (.sl 0 (l.map PE.vS))=bY (fun x=>qV (PE.vS x)) l:=by
 rw [wN]
theorem EY (l:List (PE × Bool)):∀ x∈l.map PE.sv,x.cells.length=11:=by
 intro v hv
 obtain ⟨x,_,rfl⟩:=List.mem_map.1 hv
 rfl
theorem EU (l:List (PE × Bool)):qV (.sl 0 (l.map PE.sv))=bY (fun x=>qV (PE.sv x)) l:=by
 rw [wN]
theorem Fh (l:List PL):∀ x∈l.map PE.xu,x.cells.length=8:=by
 intro v hv
 obtain ⟨x,_,rfl⟩:=List.mem_map.1 hv
 rw [PE.kX];rfl
theorem Fp (l:List PL):qV (.sl 0 (l.map PE.xu))=bY (fun x=>qV (PL.v x)) l:=by
 rw [wN]
 simp only [PE.kX]
theorem PE.vD {e k:PE} (h:k∈e.kids):qV k.v≤qV e.v:=by
 have h1:=uw (f:=PE.zF) h
 rw [PE.qK] at h1
 have:=PE.wG e
 omega
theorem PE.jB {e:PE} {p:PL} (h:p∈e.sub):qV p.v≤qV e.v:=by
 have h1:=uw (f:=PE.xu) h
 rw [PE.kX] at h1
 have:=PE.wG e
 omega
theorem PL.jq {p:PL} {k:PE} (h:k∈p.parts):qV k.v≤qV p.v:=by
 have:=PL.nH h
 rwa [PE.qK] at this
theorem PL.EA {p:PL} {l:List PE} (h:l∈p.on):qV (.sl 0 (l.map PE.zF))≤qV p.v:=by
 have h1:=uw (f:=PE.vS) h
 have:=PL.qC p
 simp only [PE.vS] at h1
 omega
end Go.Proofs.YtolhegocbkckdaaGreat
