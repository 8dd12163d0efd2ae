/-
 The value level's logic with frames known at some slots: rules that one step of unification applies.
 The value level's logic with frames known at some slots: operations, regions, code.
 The value level's logic with frames known at some slots: memory, calls, functions, loops.
 The rule for drawn regions, calls that only compute among what floats; with frames known at some slots.
 Helpers for walks: the way back of a loop, made slices filled in a loop, facts of mapped lists.
 Tests of what stands next, so that a walk tries few rules.
 Own work; no condition.
-/
import Derived.Test.YtolhegocbkckdaaGreatVDrawn
import Derived.Test.YtolhegocbkckdaaGreatVCode
namespace Go.Proofs.YtolhegocbkckdaaGreat
open Go
inductive BT where
 | leaf
 | node (k:Nat) (t:Ty) (l r:BT)
def BT.get:BT→Nat→Option Ty
 | .leaf,_=>none
 | .node k t l r,n=>match Nat.beq n k with
   | true=>some t
   | false=>match Nat.blt n k with
     | true=>l.get n
     | false=>r.get n
def BT.ok (P:Program):BT→Prop
 | .leaf=>True
 | .node k t l r=>xD P k=some t∧l.ok P∧r.ok P
theorem BT.ok.get {P:Program}:∀ {b:BT},b.ok P→∀ {n t},b.get n=some t→xD P n=some t
 | .leaf,_,n,t,h=>by cases h
 | .node k u l r,⟨h1,h2,h3⟩,n,t,h=>by
   unfold BT.get at h
   split at h
   · rename_i e
     cases h
     rw [Nat.eq_of_beq_eq_true e];exact h1
   · split at h
     · exact BT.ok.get h2 h
     · exact BT.ok.get h3 h
abbrev Kn:=List (Nat × V)
def lk:Kn→Nat→Option V
 | [],_=>none
 |(k,v)::L,x=>match Nat.beq k x with
   | true=>some v
   | false=>lk L x
def At (L:Kn) (σ : Fr):Prop:=∀ x v,lk L x=some v → σ x=v
theorem At.nil (σ : Fr):At [] σ := fun _ _ h=>by cases h
theorem At.cons {L:Kn} {σ : Fr} (h:At L σ) (d:Nat) (v:V):At ((d,v)::L) (put σ d v):=by
 intro x u hx
 unfold lk at hx
 unfold put
 split at hx
 · rename_i e
   rw [if_pos (Nat.eq_of_beq_eq_true e).symm]
   cases hx;rfl
 · rename_i e
   have:x≠d:=fun e'=>by rw [e',show Nat.beq d d=true from Nat.beq_refl d] at e;cases e
   rw [if_neg this]
   exact h x u hx
theorem At.shadow {L:Kn} {σ : Fr} (h:At L σ) {d:Nat} {v:V} (hd:lk L d=some v):At ((d,v)::L) σ := by
 intro x u hx
 unfold lk at hx
 split at hx
 · rename_i e
   cases hx
   rw [← Nat.eq_of_beq_eq_true e];exact h d v hd
 · exact h x u hx
def qz:Kn→Kn→Prop
 | [],_=>True
 |(k,v)::A,L=>lk L k=some v∧qz A L
theorem qz.at {A L:Kn} (h:qz A L) {σ : Fr} (ha:At L σ):At A σ := by
 induction A with
 | nil=>exact At.nil σ
 | cons x A ih =>
   obtain ⟨k,v⟩:=x
   exact fun y u hy=>by
     unfold lk at hy
     split at hy
     · rename_i e
       cases hy
       rw [← Nat.eq_of_beq_eq_true e];exact ha k v h.1
     · exact ih h.2 y u hy
def kK {α : Type}:List α → Nat→Option α
 | [],_=>none
 | x::_,0=>some x
 | _::l,n+1=>kK l n
theorem kF {α : Type}:∀ {l:List α} {n:Nat} {x : α},kK l n=some x→l[n]?=some x
 | [],_,_,h=>by cases h
 | _::_,0,_,h=>by simpa [kK] using h
 | _::l,n+1,_,h=>by simpa using kF (l:=l) (n:=n) h
def Xf {α : Type}:List α → Option Nat
 | []=>some 0
 | _::l=>match Xf l with
   | some n=>some (n+1)
   | none=>none
theorem dN {α : Type}:∀ {l:List α} {n:Nat},Xf l=some n→l.length=n
 | [],n,h=>by cases h;rfl
 | x::l,n,h=>by
   unfold Xf at h
   split at h
   · rename_i m e
     cases h
     simp [dN e]
   · cases h
def nY {α : Type}:List α → α → Option (List α)
 | [],y=>some [y]
 | x::l,y=>match nY l y with
   | some r=>some (x::r)
   | none=>none
theorem aC {α : Type}:∀ {l:List α} {y : α} {r:List α},nY l y=some r→r=l++[y]
 | [],y,r,h=>by cases h;rfl
 | x::l,y,r,h=>by
   unfold nY at h
   split at h
   · rename_i q e
     cases h
     simp [aC e]
   · cases h
def fC {α : Type}:List α → Nat → α → Option (List α)
 | [],_,_=>none
 | _::l,0,y=>some (y::l)
 | x::l,n+1,y=>match fC l n y with
   | some r=>some (x::r)
   | none=>none
theorem sw {α : Type}:∀ {l:List α} {n:Nat} {y : α} {r:List α},fC l n y=some r→r=l.set n y
 | [],_,_,_,h=>by cases h
 | _::_,0,_,_,h=>by cases h;rfl
 | x::l,n+1,y,r,h=>by
   unfold fC at h
   split at h
   · rename_i q e
     cases h
     simp [sw e]
   · cases h
def Wv:Nat→List V→Option (List V)
 | 0,l=>some l
 | n+1,_::l=>Wv n l
 | _+1,[]=>none
theorem tL:∀ {n:Nat} {l r:List V},Wv n l=some r→r=l.drop n∧n≤l.length
 | 0,l,r,h=>by cases h;simp
 | n+1,_::l,r,h=>by
   have:=tL (n:=n) (l:=l) h
   simp [this.1];exact this.2
 | _+1,[],_,h=>by cases h
def Xg:Nat→List V→Option (List V)
 | 0,_=>some []
 | n+1,x::l=>match Xg n l with
   | some r=>some (x::r)
   | none=>none
 | _+1,[]=>none
theorem QB:∀ {n:Nat} {l r:List V},Xg n l=some r→r=l.take n∧n≤l.length
 | 0,l,r,h=>by cases h;simp
 | n+1,x::l,r,h=>by
   unfold Xg at h
   split at h
   · rename_i q e
     cases h
     have:=QB e
     simp [this.1];exact this.2
   · cases h
 | _+1,[],_,h=>by cases h
def gq (cs:List V) (off sz:Nat) (agg:Bool):Option V :=
 match Wv off cs with
 | some l=>match agg with
   | true=>(match Xg sz l with
     | some r=>some (.agg r)
     | none=>none)
   | false=>(match Nat.beq sz 1,l with
     | true,x::_=>some x
     | _,_=>none)
 | none=>none
theorem aD {cs:List V} {off sz:Nat} {agg:Bool} {v:V} (h:gq cs off sz agg=some v):eD cs off sz agg=some v:=by
 unfold gq at h
 split at h
 case h_2=>cases h
 rename_i l e
 obtain ⟨rfl,h1⟩:=tL e
 split at h
 · split at h
   case h_2=>cases h
   rename_i r e2
   obtain ⟨rfl,h2⟩:=QB e2
   cases h
   rw [List.length_drop] at h2
   simp [eD,show off+sz≤cs.length by omega]
 · split at h
   case h_2=>cases h
   rename_i x l' e2 e3
   cases h
   have hs:sz=1:=Nat.eq_of_beq_eq_true e2
   subst hs
   have hlt:off<cs.length:=by
     rcases Nat.lt_or_ge off cs.length with hh | hh
     · exact hh
     · rw [List.drop_of_length_le hh] at e3;cases e3
   rw [List.drop_eq_getElem_cons hlt] at e3
   simp only [List.cons.injEq] at e3
   simp [eD,show off+1≤cs.length by omega, ← e3.1,hlt]
def yt:V→Option (List V)
 | .agg cs=>some cs
 | .raw _=>none
 | .int k n=>some [.int k n]
 | .bool b=>some [.bool b]
 | .str s=>some [.str s]
 | .ptr l o=>some [.ptr l o]
 | .xG cs o=>some [.xG cs o]
 | .kC=>some [.kC]
 | .sl i xs=>some [.sl i xs]
 | .jo=>some [.jo]
 | .zl=>some [.zl]
 | .qJ x l o n=>some [.qJ x l o n]
 | .fn f cs=>some [.fn f cs]
 | .jY vs=>some [.jY vs]
 | .und=>some [.und]
theorem vG {v:V} {cs:List V} (h:yt v=some cs):v.cells=cs:=by
 cases v <;> cases h <;> rfl
def eH:List V→Bool
 | []=>true
 | v::l=>match v.one with
   | true=>eH l
   | false=>false
theorem cB:∀ {l:List V},eH l=true→l.all V.one=true
 | [],_=>rfl
 | v::l,h=>by
   unfold eH at h
   split at h
   · rename_i e;simp only [List.all_cons,e,cB h,Bool.and_self]
   · cases h
def Z4 {α : Type}:List α → List α → Option (List α)
 | [],r=>some r
 | x::l,r=>match Z4 l r with
   | some q=>some (x::q)
   | none=>none
theorem su {α : Type}:∀ {l r q:List α},Z4 l r=some q→q=l++r
 | [],r,q,h=>by cases h;rfl
 | x::l,r,q,h=>by
   unfold Z4 at h
   split at h
   · rename_i p e
     cases h
     simp [su e]
   · cases h
def Z5 (cs:List V) (off:Nat) (vs:List V):Option (List V) :=
 match off,cs with
 | 0,cs=>match Wv vs.length cs with
   | some r=>Z4 vs r
   | none=>none
 | n+1,c::cs=>match Z5 cs n vs with
   | some r=>some (c::r)
   | none=>none
 | _+1,[]=>none
theorem iX:∀ {off:Nat} {cs vs r:List V},Z5 cs off vs=some r→r=splice cs off vs∧off+vs.length≤cs.length
 | 0,cs,vs,r,h=>by
   unfold Z5 at h
   split at h
   · rename_i q e
     obtain ⟨rfl,h1⟩:=tL e
     have:=su h
     subst this
     exact ⟨by simp [splice],by omega⟩
   · cases h
 | n+1,c::cs,vs,r,h=>by
   unfold Z5 at h
   split at h
   · rename_i q e
     cases h
     obtain ⟨rfl,h1⟩:=iX e
     exact ⟨by rw [p9],by simp;omega⟩
   · cases h
 | _+1,[],_,_,h=>by cases h
def jf (L:Kn):Operand→Option V
 | .tmp t=>lk L t
 | .const v=>EP v
 | .func f=>some (.fn f [])
 | .global _=>none
theorem qd {L:Kn} {x:Operand} {v:V} {σ : Fr} (ha:At L σ) (h:jf L x=some v):yC σ x=some v:=by
 cases x with
 | tmp t=>simp [yC,ha t v h]
 | const c=>exact h
 | func f=>exact h
 | global g=>exact h
def uE (L:Kn):List Operand→Option (List V)
 | []=>some []
 | x::xs=>match jf L x with
   | some v=>match uE L xs with
     | some vs=>some (v::vs)
     | none=>none
   | none=>none
theorem iK {L:Kn} {σ : Fr} (ha:At L σ):∀ {xs:List Operand} {vs:List V},uE L xs=some vs→uh σ xs=some vs
 | [],vs,h=>by cases h;rfl
 | x::xs,vs,h=>by
   unfold uE at h
   split at h
   case h_2=>cases h
   rename_i v e
   split at h
   case h_2=>cases h
   rename_i us e2
   cases h
   simp only [uh,qd ha e,iK ha e2,Option.bind_some,Option.map_some]
def mJ (L:Kn):List (Nat × Operand)→Option (List (Nat × V))
 | []=>some []
 |(i,x)::xs=>match jf L x with
   | some v=>match mJ L xs with
     | some vs=>some ((i,v)::vs)
     | none=>none
   | none=>none
theorem dO {L:Kn} {σ : Fr} (ha:At L σ):∀ {xs:List (Nat × Operand)} {vs:List (Nat × V)},mJ L xs=some vs→yh σ xs=some vs
 | [],vs,h=>by cases h;rfl
 |(i,x)::xs,vs,h=>by
   unfold mJ at h
   split at h
   case h_2=>cases h
   rename_i v e
   split at h
   case h_2=>cases h
   rename_i us e2
   cases h
   simp only [yh,qd ha e,dO ha e2,Option.bind_some,Option.map_some]
def Vj:Operand→Bool
 | .tmp _=>true
 | .const v=>(EP v).isSome
 | .func _=>true
 | .global _=>false
theorem QC {x:Operand} (h:Vj x=true) (σ : Fr):∃ v,yC σ x=some v:=by
 cases x with
 | tmp t=>exact ⟨_,rfl⟩
 | const v=>exact Option.isSome_iff_exists.1 h
 | func f=>exact ⟨_,rfl⟩
 | global g=>cases h
def FT:IntKind→IntKind→Bool
 | .i8,.i8 | .i16,.i16 | .i32,.i32 | .i64,.i64 | .u8,.u8 | .u16,.u16 | .u32,.u32 | .u64,.u64=>true
 | _,_=>false
theorem Bq {a b:IntKind} (h:FT a b=true):a=b:=by cases a <;> cases b <;> first | rfl | cases h
def Ww (fs:List vT) (cells:List V):List (Nat × V)→Option (List V)
 | []=>some cells
 |(i,v)::rest=>match kK fs i with
   | some f=>(match yt v with
     | some vs=>(match Nat.beq vs.length f.size with
       | true=>(match Z5 cells f.off vs with
         | some cells'=>Ww fs cells' rest
         | none=>none)
       | false=>none)
     | none=>none)
   | none=>none
theorem K4 {fs:List vT}:∀ {ps:List (Nat × V)} {cells r:List V},Ww fs cells ps=some r→yg (aV fs) cells ps=some r
 | [],cells,r,h=>h
 |(i,v)::rest,cells,r,h=>by
   unfold Ww at h
   split at h
   case h_2=>cases h
   rename_i f e1
   split at h
   case h_2=>cases h
   rename_i vs e2
   split at h
   case h_2=>cases h
   rename_i e3
   split at h
   case h_2=>cases h
   rename_i c' e4
   obtain ⟨rfl,h4⟩:=iX e4
   have h3:vs.length=f.size:=Nat.eq_of_beq_eq_true e3
   simp only [yg,aV,kF e1,Option.map_some,Option.bind_some,vG e2,h3,true_and]
   rw [if_pos (by omega)]
   exact K4 h
def CQ:Option Ty→Option V→Option V
 | some ⟨_,_,_,.string⟩,some (.str s)=>some (.int .i64 s.length)
 | some ⟨_,_,_,.slice _⟩,some .zl=>some (.int .i64 0)
 | some ⟨_,_,_,.slice _⟩,some .jo=>some (.int .i64 0)
 | some ⟨_,_,_,.slice _⟩,some (.qJ _ _ _ n)=>some (.int .i64 n)
 | _,_=>none
def pz:Int→Bool
 | .ofNat (_+1)=>true
 | _=>false
def Um (op:BinOp) (k:IntKind) (a b:Int):Option V :=
 match op with
 | .quo=>match pz b with
   | true=>some (.int k (k.wrap (a.tdiv b)))
   | false=>none
 | .rem=>match pz b with
   | true=>some (.int k (a.tmod b))
   | false=>none
 | .shl=>match pz b with
   | true=>some (.int k (k.wrap (a*2 ^ (min b.toNat k.bits))))
   | false=>none
 | .shr=>match pz b with
   | true=>some (.int k (a.fdiv (2 ^ (min b.toNat k.bits))))
   | false=>none
 | .add=>none
 | .sub=>none
 | .mul=>none
 | op=>rC op k a b
def Un (op:BinOp) (a b:List UInt8):Option V :=
 match op with
 | .add=>none
 | op=>sN op a b
def Uo (tt:BT) (op:BinOp) (T:TypeId) (x y:Option V):Option V :=
 match x,y with
 | some (.int k a),some (.int k' b)=>match FT k k' with
   | true=>Um op k a b
   | false=>none
 | some (.str a),some (.str b)=>Un op a b
 | some (.bool a),some (.bool b)=>match tt.get T with
   | some ⟨_,_,_,.bool⟩=>match op with
     | .eql=>some (.bool (decide (a=b)))
     | .neq=>some (.bool (!decide (a=b)))
     | _=>none
   | _=>none
 | some (.agg xs),some (.agg ys)=>match tt.get T with
   | some ⟨_,_,_,.struct fs true⟩=>match op with
     | .eql=>(Uy fs 0 xs ys).map .bool
     | .neq=>(Uy fs 0 xs ys).map fun b => .bool !b
     | _=>none
   | _=>none
 | _,_=>none
theorem iJ {b:Int} (h:pz b=true):0<b:=by
 unfold pz at h
 split at h
 · rename_i n;show (0:Int)<((n+1:Nat):Int);omega
 · cases h
theorem Ur {P:Program} {T:TypeId} {op:BinOp} {k:IntKind} {a b:Int} {v:V} (h:Um op k a b=some v):aJ P op T (.int k a) (.int k b)=some v:=by
 unfold Um at h
 split at h
 · split at h
   · rename_i e; have := iJ e
     simpa [aJ,rC,show b≠0 by omega] using h
   · cases h
 · split at h
   · rename_i e; have := iJ e
     simpa [aJ,rC,show b≠0 by omega] using h
   · cases h
 · split at h
   · rename_i e; have := iJ e
     simpa [aJ,show 0≤b by omega] using h
   · cases h
 · split at h
   · rename_i e; have := iJ e
     simpa [aJ,show 0≤b by omega] using h
   · cases h
 · cases h
 · cases h
 · cases h
 · cases op <;> first|(simp [aJ,rC] at h ⊢;exact h) | simp_all
theorem Us {P:Program} {T:TypeId} {op:BinOp} {a b:List UInt8} {v:V} (h:Un op a b=some v):aJ P op T (.str a) (.str b)=some v:=by
 unfold Un at h
 split at h
 · cases h
 · rename_i hne
   cases op <;> first | exact absurd rfl hne | exact h
theorem Bj {P:Program} {tt:BT} (ht:tt.ok P) {op:BinOp} {T:TypeId} {x y v:V} (h:Uo tt op T (some x) (some y)=some v):aJ P op T x y=some v:=by
 unfold Uo at h
 split at h
 · rename_i k a k' b e1 e2
   cases e1;cases e2
   split at h
   · rename_i e
     have:=Bq e
     subst this
     exact Ur h
   · cases h
 · rename_i e1 e2
   cases e1;cases e2
   exact Us h
 · rename_i e1 e2
   cases e1;cases e2
   split at h
   · rename_i e
     have:=ht.get e
     split at h
     · simpa [aJ,veq,this] using h
     · simpa [aJ,veq,this] using h
     · cases h
   · cases h
 · rename_i e1 e2
   cases e1;cases e2
   split at h
   · rename_i e
     have:=ht.get e
     split at h
     · simpa [aJ,veq,this] using h
     · simpa [aJ,veq,this] using h
     · cases h
   · cases h
 · cases h
def ev (tt:BT) (L:Kn) (op:Op):Option V :=
 match op with
 | .move x=>jf L x
 | .assign x=>jf L x
 | .pick c a b=>match jf L c with
   | some (.bool true)=>match Vj b with
     | true=>jf L a
     | false=>none
   | some (.bool false)=>match Vj a with
     | true=>jf L b
     | false=>none
   | _=>none
 | .fieldAddr T x f=>match tt.get T with
   | some ⟨_,_,_,.struct fs _⟩=>match kK fs f with
     | some fi=>match Nat.beq fi.size 0 with
       | true=>none
       | false=>match jf L x with
         | some (.ptr l o)=>some (.ptr l (o+fi.off))
         | some (.xG cs o)=>some (.xG cs (o+fi.off))
         | _=>none
     | none=>none
   | _=>none
 | .load T x=>match jf L x with
   | some (.xG cs off)=>match tt.get T with
     | some t=>gq cs off t.size t.agg
     | none=>none
   | _=>none
 | .field T x f=>match tt.get T with
   | some ⟨_,_,_,.struct fs _⟩=>match kK fs f with
     | some fi=>match jf L x with
       | some (.agg cs)=>gq cs fi.off fi.size fi.agg
       | _=>none
     | none=>none
   | _=>none
 | .build T parts=>match tt.get T with
   | some ⟨sz,_,zero,.struct fs _⟩=>match Nat.beq zero.length sz&&Nat.blt 0 sz with
     | true=>match mJ L parts.toList with
       | some ps=>(match Ww fs zero ps with
         | some cs=>some (.agg cs)
         | none=>none)
       | none=>none
     | false=>none
   | _=>none
 | .binOp op T x y _=>Uo tt op T (jf L x) (jf L y)
 | .unOp op _ x=>match jf L x with
   | some v=>FC op v
   | none=>none
 | .convert U T x=>match tt.get U with
   | some _=>(match tt.get T,jf L x with
     | some ⟨_,_,_,.int k⟩,some (.int _ n)=>some (.int k (k.wrap n))
     | some ⟨_,_,_,.string⟩,some (.str s)=>some (.str s)
     | _,_=>none)
   | none=>none
 | .extract x i=>match jf L x with
   | some (.jY vs)=>kK vs i
   | _=>none
 | .makeFunc fn first captured=>match fn,first.toList with
   | .func f,[]=>(match uE L captured.toList with
     | some cs=>some (.fn f cs)
     | none=>none)
   | _,_=>none
 | .nilCheck x=>match jf L x with
   | some (.ptr l k)=>some (.ptr l k)
   | some (.xG cs k)=>some (.xG cs k)
   | some (.fn f cs)=>some (.fn f cs)
   | _=>none
 | .call c=>match c.callee,c.args.toList,c.argTypes.toList with
   | .builtin .len,[x],[T]=>CQ (tt.get T) (jf L x)
   | .builtin .max,[x,y],_=>(match jf L x,jf L y with
     | some x,some y=>Ua x y
     | _,_=>none)
   | .builtin .min,[x,y],_=>(match jf L x,jf L y with
     | some x,some y=>Ub x y
     | _,_=>none)
   | _,_,_=>none
 | _=>none
end Go.Proofs.YtolhegocbkckdaaGreat
namespace Go.Proofs.YtolhegocbkckdaaGreat
open Go
theorem CX {P:Program} {tt:BT} (ht:tt.ok P) {L:Kn} {σ : Fr} (ha:At L σ) {op:Op} {v:V} (h:ev tt L op=some v) (dst:Option Nat) (ty:TypeId) (p:String) (a:Array Edge) (g:Option (Nat × Bool)) (s:S) :
   vU P ⟨dst,op,ty,p,a,g⟩ σ s=some (v,s):=by
 unfold ev at h
 split at h
 case h_15=>cases h
 case h_1=>simp only [vU,qd ha h,Option.map_some]
 case h_2=>simp only [vU,qd ha h,Option.map_some]
 case h_3 =>
   split at h
   · rename_i e
     split at h
     case h_2=>cases h
     rename_i e2
     obtain ⟨u,hu⟩:=QC e2 σ
     simp only [vU,qd ha e,qd ha h,hu,Option.bind_some,if_true]
   · rename_i e
     split at h
     case h_2=>cases h
     rename_i e2
     obtain ⟨u,hu⟩:=QC e2 σ
     simp only [vU,qd ha e,qd ha h,hu,Option.bind_some]
     rfl
   · cases h
 case h_4 =>
   split at h
   case h_2=>cases h
   rename_i e1
   split at h
   case h_2=>cases h
   rename_i fi e2
   split at h
   case h_1=>cases h
   rename_i e3
   have hz:¬ fi.size=0:=fun e=>by rw [e] at e3;cases e3
   split at h
   · rename_i e4
     cases h
     simp only [vU,qd ha e4,yD,ht.get e1,kF e2,Option.bind_some,Option.map_some,if_neg hz]
   · rename_i e4
     cases h
     simp only [vU,qd ha e4,yD,ht.get e1,kF e2,Option.bind_some,Option.map_some,if_neg hz]
   · cases h
 case h_5 =>
   split at h
   case h_2=>cases h
   rename_i e1
   split at h
   case h_2=>cases h
   rename_i e2
   simp only [vU,qd ha e1,eF,ht.get e2,aD h,Option.bind_some,Option.map_some]
 case h_6 =>
   split at h
   case h_2=>cases h
   rename_i e1
   split at h
   case h_2=>cases h
   rename_i fi e2
   split at h
   case h_2=>cases h
   rename_i e3
   simp only [vU,qd ha e3,sS,ht.get e1,kF e2,aD h,Option.bind_some,Option.map_some]
 case h_7 =>
   split at h
   case h_2=>cases h
   rename_i e1
   split at h
   case h_2=>cases h
   rename_i e2
   split at h
   case h_2=>cases h
   rename_i e3
   split at h
   case h_2=>cases h
   rename_i e4
   cases h
   simp only [Bool.and_eq_true] at e2
   have h1:=Nat.eq_of_beq_eq_true e2.1
   simp only [vU,dO ha e3,oN,ht.get e1,K4 e4,Option.bind_some,Option.map_some]
   rw [if_pos ⟨h1,by simpa using e2.2⟩]
   rfl
 case h_8 op T x y _ =>
   cases hx:jf L x with
   | none=>rw [hx] at h;simp [Uo] at h
   | some u =>
     cases hy:jf L y with
     | none=>rw [hy] at h;simp [Uo] at h
     | some w =>
       rw [hx,hy] at h
       simp only [vU,qd ha hx,qd ha hy,Bj ht h,Option.bind_some,Option.map_some]
 case h_9 =>
   split at h
   case h_2=>cases h
   rename_i e1
   simp only [vU,qd ha e1,h,Option.bind_some,Option.map_some]
 case h_10 =>
   split at h
   case h_2=>cases h
   rename_i e0
   split at h
   · rename_i e1 e2
     cases h
     simp only [vU,qd ha e2,bS,sP,ht.get e0,ht.get e1,Option.bind_some,Option.map_some]
   · rename_i e1 e2
     cases h
     simp only [vU,qd ha e2,bS,sP,ht.get e0,ht.get e1,Option.bind_some,Option.map_some]
   · cases h
 case h_11 =>
   split at h
   case h_2=>cases h
   rename_i e1
   simp only [vU,qd ha e1,fF,kF h,Option.bind_some,Option.map_some]
 case h_12 =>
   split at h
   case h_2=>cases h
   rename_i e1
   split at h
   case h_2=>cases h
   rename_i e2
   cases h
   simp only [vU,e1,iK ha e2,Option.map_some]
 case h_13 =>
   split at h
   · rename_i e;cases h;simp only [vU,qd ha e,Option.bind_some]
   · rename_i e;cases h;simp only [vU,qd ha e,Option.bind_some]
   · rename_i e;cases h;simp only [vU,qd ha e,Option.bind_some]
   · cases h
 case h_14 c =>
   obtain ⟨callee,args,tys⟩:=c
   simp only at h
   split at h
   · rename_i x T e1 e2
     simp only [vU,j3]
     rw [e1,e2]
     unfold CQ at h
     split at h
     all_goals first
       |(rename_i f1 f2;cases h;simp only [uh,qd ha f2,JM,ht.get f1,Option.bind_some,Option.map_some])
       | cases h
   · rename_i x y e1
     split at h
     case h_2=>cases h
     rename_i f1 f2
     simp only [vU]
     rw [e1]
     simp only [uh,qd ha f1,qd ha f2,j3,Option.bind_some,Option.map_some,h]
   · rename_i x y e1
     split at h
     case h_2=>cases h
     rename_i f1 f2
     simp only [vU]
     rw [e1]
     simp only [uh,qd ha f1,qd ha f2,j3,Option.bind_some,Option.map_some,h]
   · cases h
structure WL (P:Program) (N:Nat) (c:Code) (Q:Exit→Kn→S→Prop) (L:Kn) (s:S):Prop where
 run:∀ σ,At L σ → wY P N c (fun e σ' s'=>∃ L',At L' σ'∧Q e L' s') σ s
structure zq (P:Program) (N:Nat) (ops:Array Oper) (l:List Oper) (K:Kn→S→Prop) (L:Kn) (s:S):Prop where
 run:l.all (aW N)=true→∀ σ,At L σ → Xa P N ops l (fun σ' s'=>∃ L',At L' σ'∧K L' s') σ s
def DR (K:Kn→S→Prop) (Q:Exit→Kn→S→Prop):Exit→Kn→S→Prop
 | .normal,L,s=>K L s
 | e,L,s=>Q e L s
structure Wy (K:Kn→S→Prop) (Q:Exit→Kn→S→Prop) (e:Exit) (L:Kn) (s:S):Prop where
 h:DR K Q e L s
def sZ (id:Nat) (Q:Exit→Kn→S→Prop):Exit→Kn→S→Prop
 | .exit id',L,s=>match Nat.beq id' id with
   | true=>Q .normal L s
   | false=>Q (.exit id') L s
 | e,L,s=>Q e L s
structure tN (id:Nat) (Q:Exit→Kn→S→Prop) (e:Exit) (L:Kn) (s:S):Prop where
 h:sZ id Q e L s
variable {P:Program} {N:Nat}
theorem WL.seq {x y:Code} {Q:Exit→Kn→S→Prop} {L:Kn} {s:S} (h:WL P N x (Wy (fun L s=>WL P N y Q L s) Q) L s):WL P N (.seq x y) Q L s:=by
 refine ⟨fun σ hσ => wY.seq (wY.mono (h.run σ hσ) ?_)⟩
 rintro e σ' s' ⟨L',a,⟨q⟩⟩
 cases e with
 | normal=>exact q.run σ' a
 | _=>exact ⟨L',a,q⟩
theorem WL.sub {c:Code} {Q:Exit→Kn→S→Prop} {L L':Kn} {s:S} (hs:qz L' L) (h:WL P N c Q L' s):WL P N c Q L s:=⟨fun σ hσ => h.run σ (hs.at hσ)⟩
theorem WL.skip {Q:Exit→Kn→S→Prop} {L:Kn} {s:S} (h:Q .normal L s):WL P N .skip Q L s:=⟨fun _ hσ => wY.skip ⟨L,hσ,h⟩⟩
theorem WL.ret {Q:Exit→Kn→S→Prop} {L:Kn} {s:S} (h:Q .ret L s):WL P N .ret Q L s:=⟨fun _ hσ => wY.ret ⟨L,hσ,h⟩⟩
theorem WL.exit {id:Nat} {Q:Exit→Kn→S→Prop} {L:Kn} {s:S} (h:Q (.exit id) L s):WL P N (.exit id) Q L s:=⟨fun _ hσ => wY.exit ⟨L,hσ,h⟩⟩
theorem WL.block {id:Nat} {c:Code} {Q:Exit→Kn→S→Prop} {L:Kn} {s:S} (h:WL P N c (tN id Q) L s):WL P N (.block id c) Q L s:=by
 refine ⟨fun σ hσ => wY.block (wY.mono (h.run σ hσ) ?_)⟩
 rintro e σ' s' ⟨L',a,⟨q⟩⟩
 cases e with
 | exit id' =>
   simp only [ny]
   simp only [sZ] at q
   split at q
   · rename_i e1
     rw [if_pos (Nat.eq_of_beq_eq_true e1)]
     exact ⟨L',a,q⟩
   · rename_i e1
     rw [if_neg (fun e=>by rw [e,Nat.beq_refl] at e1;cases e1)]
     exact ⟨L',a,q⟩
 | _=>exact ⟨L',a,q⟩
theorem WL.qb {x:Operand} {c d:Code} {Q:Exit→Kn→S→Prop} {L:Kn} {s:S} (hx:jf L x=some (.bool true)) (h:WL P N c Q L s):WL P N (.cond x c d) Q L s :=
 ⟨fun σ hσ => wY.qb (qd hσ hx) (h.run σ hσ)⟩
theorem WL.qQ {x:Operand} {c d:Code} {Q:Exit→Kn→S→Prop} {L:Kn} {s:S} (hx:jf L x=some (.bool false)) (h:WL P N d Q L s):WL P N (.cond x c d) Q L s :=
 ⟨fun σ hσ => wY.qQ (qd hσ hx) (h.run σ hσ)⟩
theorem WL.cond {t:Nat} {b:Bool} {c d:Code} {Q:Exit→Kn→S→Prop} {L:Kn} {s:S} (hx:lk L t=some (.bool b)) (hT:b=true→WL P N c Q ((t,.bool true)::L) s) (hF:b=false→WL P N d Q ((t,.bool false)::L) s) :
   WL P N (.cond (.tmp t) c d) Q L s:=by
 refine ⟨fun σ hσ => wY.cond (qd (x := .tmp t) hσ hx) (fun e=>(hT e).run σ ?_) (fun e=>(hF e).run σ ?_)⟩
 · subst e;exact hσ.shadow hx
 · subst e;exact hσ.shadow hx
theorem WL.zJ {t:Nat} {b:Bool} {c d:Code} {Q:Exit→Kn→S→Prop} {L:Kn} {s:S} (hx:lk L t=some (.bool b)) (hb:b=true) (h:WL P N c Q L s):WL P N (.cond (.tmp t) c d) Q L s :=
 WL.qb (by subst hb;exact hx) h
theorem WL.zY {t:Nat} {b:Bool} {c d:Code} {Q:Exit→Kn→S→Prop} {L:Kn} {s:S} (hx:lk L t=some (.bool b)) (hb:b=false) (h:WL P N d Q L s):WL P N (.cond (.tmp t) c d) Q L s :=
 WL.qQ (by subst hb;exact hx) h
theorem WL.region {id:Nat} {ops:Array Oper} {Q:Exit→Kn→S→Prop} {L:Kn} {s:S} (hd:ops.toList.all (aW N)=true) (h:zq P N ops ops.toList (Q .normal) L s):WL P N (.region id ops false) Q L s :=
 ⟨fun σ hσ => wY.region (h.run hd σ hσ)⟩
theorem zw {K:Kn→S→Prop} {Q:Exit→Kn→S→Prop} {L:Kn} {s:S} (h:K L s):Wy K Q .normal L s:=⟨h⟩
theorem zC {K:Kn→S→Prop} {Q:Exit→Kn→S→Prop} {i:Nat} {L:Kn} {s:S} (h:Q (.exit i) L s):Wy K Q (.exit i) L s:=⟨h⟩
theorem zZ {K:Kn→S→Prop} {Q:Exit→Kn→S→Prop} {L:Kn} {s:S} (h:Q .ret L s):Wy K Q .ret L s:=⟨h⟩
theorem zQ {id:Nat} {Q:Exit→Kn→S→Prop} {L:Kn} {s:S} (h:Q .normal L s):tN id Q .normal L s:=⟨h⟩
theorem zB {id:Nat} {Q:Exit→Kn→S→Prop} {L:Kn} {s:S} (h:Q .ret L s):tN id Q .ret L s:=⟨h⟩
theorem zV {id:Nat} {Q:Exit→Kn→S→Prop} {L:Kn} {s:S} (h:Q .normal L s):tN id Q (.exit id) L s:=by
 refine ⟨?_⟩
 simp only [sZ,Nat.beq_refl];exact h
theorem F3 {id i:Nat} {Q:Exit→Kn→S→Prop} {L:Kn} {s:S} (hi:Nat.beq i id=false) (h:Q (.exit i) L s):tN id Q (.exit i) L s:=by
 refine ⟨?_⟩
 simp only [sZ,hi];exact h
variable {ops:Array Oper} {l:List Oper} {K:Kn→S→Prop} {L:Kn}
theorem zq.nil {s:S} (h:K L s):zq P N ops [] K L s:=⟨fun _ _ hσ => ⟨L,hσ,h⟩⟩
theorem K5 {o:Oper} {K:Fr→S→Prop} {σ : Fr} {s s':S} {v:V} (hd:aW N o=true) (hg:o.guard=none) (hv:vU P o σ s=some (v,s')) (hk:K (kP σ o.dst v) s'):iN P N ops o K σ s:=by
 refine ⟨hd,?_⟩
 simp only [xA,hg]
 exact dL hv hk
theorem zq.st {op:Op} {d:Nat} {ty:TypeId} {p:String} {a:Array Edge} {v:V} {s s':S} (hv:∀ σ,At L σ → vU P ⟨some d,op,ty,p,a,none⟩ σ s=some (v,s')) (hk:zq P N ops l K ((d,v)::L) s') :
   zq P N ops (⟨some d,op,ty,p,a,none⟩::l) K L s:=by
 refine ⟨fun hd σ hσ => ?_⟩
 simp only [List.all_cons,Bool.and_eq_true] at hd
 exact K5 hd.1 rfl (hv σ hσ) (hk.run hd.2 _ (hσ.cons d v))
theorem zq.M5 {op:Op} {ty:TypeId} {p:String} {a:Array Edge} {v:V} {s s':S} (hv:∀ σ,At L σ → vU P ⟨none,op,ty,p,a,none⟩ σ s=some (v,s')) (hk:zq P N ops l K L s') :
   zq P N ops (⟨none,op,ty,p,a,none⟩::l) K L s:=by
 refine ⟨fun hd σ hσ => ?_⟩
 simp only [List.all_cons,Bool.and_eq_true] at hd
 exact K5 hd.1 rfl (hv σ hσ) (hk.run hd.2 _ hσ)
theorem zq.ev {tt:BT} (ht:tt.ok P) {op:Op} {d:Nat} {ty:TypeId} {p:String} {a:Array Edge} {v:V} {s:S} (hv:ev tt L op=some v) (hk:zq P N ops l K ((d,v)::L) s) :
   zq P N ops (⟨some d,op,ty,p,a,none⟩::l) K L s := .st (fun _ hσ => CX ht hσ hv _ _ _ _ _ s) hk
def gslot (ops:List Oper) (j:Nat):Option Nat:=match kK ops j with
 | some ⟨some d,_,_,_,_,_⟩=>some d
 | _=>none
theorem aF {ops:Array Oper} {j d:Nat} (h:gslot ops.toList j=some d):(ops[j]?).bind (·.dst)=some d:=by
 unfold gslot at h
 split at h
 · rename_i e
   have:=kF e
   rw [Array.getElem?_toList] at this
   simp only [this,Option.bind_some];exact h
 · cases h
theorem zq.gT {op:Op} {dst:Option Nat} {j d:Nat} {w b:Bool} {ty:TypeId} {p:String} {a:Array Edge} {s:S} (hj:gslot ops.toList j=some d) (hb:lk L d=some (.bool b)) (hw:(b == w)=true)
   (hk:zq P N ops (⟨dst,op,ty,p,a,none⟩::l) K L s):zq P N ops (⟨dst,op,ty,p,a,some (j,w)⟩::l) K L s:=by
 refine ⟨fun hd σ hσ => ?_⟩
 obtain ⟨h1,h2⟩:=hk.run hd σ hσ
 refine ⟨h1,?_⟩
 simp only [xA,aF hj,hσ d _ hb,hw]
 exact h2
theorem zq.gF {op:Op} {dst j d:Nat} {w b:Bool} {ty:TypeId} {p:String} {a:Array Edge} {s:S} (hj:gslot ops.toList j=some d) (hb:lk L d=some (.bool b)) (hw:(b == w)=false)
   (hk:zq P N ops l K ((dst,.und)::L) s):zq P N ops (⟨some dst,op,ty,p,a,some (j,w)⟩::l) K L s:=by
 refine ⟨fun hd σ hσ => ?_⟩
 simp only [List.all_cons,Bool.and_eq_true] at hd
 refine ⟨hd.1,?_⟩
 simp only [xA,aF hj,hσ d _ hb,hw]
 exact hk.run hd.2 _ (hσ.cons dst .und)
theorem zq.gU {op:Op} {dst j d:Nat} {w:Bool} {ty:TypeId} {p:String} {a:Array Edge} {s:S} (hj:gslot ops.toList j=some d) (hb:lk L d=some .und)
   (hk:zq P N ops l K ((dst,.und)::L) s):zq P N ops (⟨some dst,op,ty,p,a,some (j,w)⟩::l) K L s:=by
 refine ⟨fun hd σ hσ => ?_⟩
 simp only [List.all_cons,Bool.and_eq_true] at hd
 refine ⟨hd.1,?_⟩
 simp only [xA,aF hj,hσ d _ hb]
 exact hk.run hd.2 _ (hσ.cons dst .und)
theorem zq.gC {o:Oper} {j d:Nat} {w b:Bool} {s:S} (_:o.guard=some (j,w)) (_:gslot ops.toList j=some d) (hb:lk L d=some (.bool b))
   (hT:b=true→zq P N ops (o::l) K ((d,.bool true)::L) s) (hF:b=false→zq P N ops (o::l) K ((d,.bool false)::L) s):zq P N ops (o::l) K L s:=by
 refine ⟨fun hd σ hσ => ?_⟩
 cases b
 · exact (hF rfl).run hd σ (hσ.shadow hb)
 · exact (hT rfl).run hd σ (hσ.shadow hb)
end Go.Proofs.YtolhegocbkckdaaGreat
namespace Go.Proofs.YtolhegocbkckdaaGreat
open Go
variable {P:Program} {N:Nat} {ops:Array Oper} {l:List Oper} {K:Kn→S→Prop} {L:Kn} {s:S} {xs ys:List Own} {tt:BT}
variable {d:Nat} {ty:TypeId} {p:String} {a:Array Edge}
theorem zq.box {T:TypeId} {x:Operand} {v:V} {cs:List V} {n:Nat} (hx:jf L x=some v) (hc:yt v=some cs) (hl:Xf xs=some n) (hs:nY xs (.var cs)=some ys)
   (hk:zq P N ops l K ((d,.ptr (s.next+n) 0)::L) (s.ext ys)):zq P N ops (⟨some d,.box T x,ty,p,a,none⟩::l) K L (s.ext xs) :=
 .st (fun σ hσ => by simp only [vU,qd hσ hx,Option.map_some,wZ,q8,dN hl,vG hc,aC hs]) hk
theorem zq.alloc (ht:tt.ok P) {T:TypeId} {t:Ty} {n:Nat} (hT:tt.get T=some t) (hz:(Nat.beq t.zero.length t.size&&Nat.blt 0 t.size)=true) (hl:Xf xs=some n) (hs:nY xs (.var t.zero)=some ys)
   (hk:zq P N ops l K ((d,.ptr (s.next+n) 0)::L) (s.ext ys)):zq P N ops (⟨some d,.alloc T,ty,p,a,none⟩::l) K L (s.ext xs):=by
 simp only [Bool.and_eq_true] at hz
 refine .st (fun σ hσ => ?_) hk
 simp only [vU,oG,ht.get hT,Option.bind_some,wZ,q8,dN hl,aC hs]
 rw [if_pos ⟨Nat.eq_of_beq_eq_true hz.1,by simpa using hz.2⟩]
theorem tO {k:Nat} {cs:List V} (hv:kK xs k=some (.var cs)):(s.ext xs).vars (s.next+k)=some cs:=by rw [fO,kF hv];rfl
theorem zq.qD (ht:tt.ok P) {T:TypeId} {t:Ty} {x y:Operand} {k off:Nat} {cs vs cs':List V} {v:V} (hx:jf L x=some (.ptr (s.next+k) off)) (hy:jf L y=some v) (hv:kK xs k=some (.var cs)) (hT:tt.get T=some t)
   (hc:yt v=some vs) (ho:eH vs=true) (hn:Nat.beq vs.length t.size=true) (hsp:Z5 cs off vs=some cs') (hset:fC xs k (.var cs')=some ys)
   (hk:zq P N ops l K L (s.ext ys)):zq P N ops (⟨none,.store T x y,ty,p,a,none⟩::l) K L (s.ext xs):=by
 refine .M5 (v := .und) (fun σ hσ => ?_) hk
 obtain ⟨h1,h2⟩:=iX hsp
 have h3:vs.length=t.size:=Nat.eq_of_beq_eq_true hn
 simp only [vU,qd hσ hx,qd hσ hy,lS,ht.get hT,tO hv,vG hc,Option.bind_some]
 rw [if_pos ⟨h3,by omega,cB ho⟩,Option.map_some,mZ _ _ _ _ (by rw [kF hv];rfl),sw hset,h1]
def Xh:Nat→List (Nat × V)→Option (List V)
 | _,[]=>some []
 | k,(i,v)::l=>match Nat.beq i k with
   | true=>(match Xh (k+1) l with
     | some r=>some (v::r)
     | none=>none)
   | false=>none
def ru (t:Ty):V→Bool
 | .agg cs=>t.agg&&Nat.beq cs.length t.size
 | .raw _=>false
 | v => !t.agg&&v.one&&Nat.beq t.size 1
def pq (t:Ty):List V→Bool
 | []=>true
 | v::l=>match ru t v with
   | true=>pq t l
   | false=>false
theorem dz {t:Ty} {v:V} (h:ru t v=true):v.cells.length=t.size∧v.fits t.agg=true:=by
 cases v <;> simp_all [ru,V.fits,V.cells,V.one]
theorem dx {t:Ty}:∀ {l:List V},pq t l=true→∀ v∈l,ru t v=true
 | [],_,v,hv=>by cases hv
 | u::l,h,v,hv=>by
   unfold pq at h
   split at h
   · rename_i e
     rcases List.mem_cons.1 hv with rfl | hv
     · exact e
     · exact dx h v hv
   · cases h
theorem aQ {sz n:Nat} {z:List V} (hz:z.length=sz):∀ {ps:List (Nat × V)} {us vs:List V},Xh us.length ps=some vs→(∀ v∈us++vs,v.cells.length=sz)→us.length+vs.length≤n →
   yg (fun i=>some (i*sz,sz)) (filled z n us) ps=some (filled z n (us++vs))
 | [],us,vs,h,_,_=>by cases h;simp [yg]
 |(i,v)::ps,us,vs,h,hall,hn=>by
   unfold Xh at h
   split at h
   case h_2=>cases h
   rename_i e
   split at h
   case h_2=>cases h
   rename_i r e2
   cases h
   have hi:i=us.length:=Nat.eq_of_beq_eq_true e
   subst hi
   have hv:v.cells.length=sz:=hall v (by simp)
   have QD:∀ u∈us,u.cells.length=z.length:=fun u hu=>by rw [hz];exact hall u (by simp [hu])
   simp only [List.length_cons] at hn
   have hfl:=Z0 (n:=n) QD (by omega)
   have hstep:=KS (n:=n) QD (by omega) (hv.trans hz.symm)
   rw [hz] at hstep hfl
   have hle:us.length*sz+sz≤(filled z n us).length:=by
     rw [hfl, ← Nat.succ_mul]
     exact Nat.mul_le_mul_right _ (by omega)
   simp only [yg,Option.bind_some]
   rw [if_pos ⟨hv,hle⟩,hstep]
   have:=aQ (n:=n) hz (ps:=ps) (us:=us++[v]) (vs:=r) (by simpa using e2) (by simpa using hall) (by simp;omega)
   simpa using this
theorem zq.uT (ht:tt.ok P) {T e:TypeId} {t te:Ty} {parts:Array (Nat × Operand)} (hp:parts.toList=[]) (hT:tt.get T=some t) (hkd:t.kd = .slice e) (hte:tt.get e=some te) (hz:(Nat.beq te.zero.length te.size&&Nat.blt 0 te.size)=true)
   (hk:zq P N ops l K ((d,.jo)::L) (s.ext xs)):zq P N ops (⟨some d,.buildSlice T 0 parts,ty,p,a,none⟩::l) K L (s.ext xs):=by
 simp only [Bool.and_eq_true] at hz
 refine .st (fun σ hσ => ?_) hk
 simp only [vU,hp,yh,ku,ht.get hT,hkd,ht.get hte,Option.bind_some]
 rw [if_pos ⟨Nat.eq_of_beq_eq_true hz.1,by simpa using hz.2,by omega⟩]
 simp [yg]
theorem zq.Kl (ht:tt.ok P) {T e:TypeId} {t te:Ty} {m n:Nat} {parts:Array (Nat × Operand)} {ps:List (Nat × V)} {vs:List V} (hp:mJ L parts.toList=some ps) (hT:tt.get T=some t) (hkd:t.kd = .slice e) (hte:tt.get e=some te)
   (hz:(Nat.beq te.zero.length te.size&&Nat.blt 0 te.size&&Nat.ble (m*te.size) 16777216)=true) (Ut:Xh 0 ps=some vs) (hlen:Nat.beq vs.length m=true) (hm:Nat.beq m 0=false) (hel:pq te vs=true)
   (hl:Xf xs=some n) (hs:nY xs (.fam m te.size)=some ys)
   (hk:zq P N ops l K ((d,.sl (s.next+n) vs)::L) (s.ext ys)):zq P N ops (⟨some d,.buildSlice T m parts,ty,p,a,none⟩::l) K L (s.ext xs):=by
 simp only [Bool.and_eq_true] at hz
 have hm':vs.length=m:=Nat.eq_of_beq_eq_true hlen
 have h0:¬ m=0:=fun e=>by rw [e] at hm;cases hm
 have hz1:te.zero.length=te.size:=Nat.eq_of_beq_eq_true hz.1.1
 have hz2:0<te.size:=by simpa using hz.1.2
 have hz3:m*te.size≤16777216:=Nat.le_of_ble_eq_true hz.2
 have hc:∀ v∈vs,v.cells.length=te.size:=fun v hv=>(dz (dx hel v hv)).1
 have hf:∀ v∈vs,v.fits te.agg=true:=fun v hv=>(dz (dx hel v hv)).2
 have gy:=aQ (n:=m) hz1 (us:=[]) (by simpa using Ut) (by simpa using hc) (by simp;omega)
 rw [List.nil_append,wS hm',aY] at gy
 have hsz1:te.agg=false→te.size=1:=fun hag=>by
   cases vs with
   | nil=>exact absurd hm'.symm h0
   | cons v r =>
     have h1:=dx hel v (by simp)
     cases v <;> simp_all [ru]
 refine .st (fun σ hσ => ?_) hk
 simp only [vU,dO hσ hp,ku,ht.get hT,hkd,ht.get hte,Option.bind_some]
 rw [if_pos ⟨hz1,hz2,hz3⟩,gy]
 simp only [Option.bind_some]
 have hck:=aU hz2 hc hf
 rw [hm'] at hck
 rw [if_neg h0,if_pos (uR hf hsz1),hck,wH,aC hs,q8,dN hl]
def iW:V→Option (List V)
 | .sl _ ys=>some ys
 | .jo=>some []
 | .zl=>some []
 | _=>none
theorem yN {te:Ty} {v:V} {us:List V} {s:S} (h:iW v=some us):uO te v s=some us:=by
 cases v <;> first | cases h;rfl | cases h
def jQ (x y:Operand) (A:Array TypeId):Op := .call ⟨.builtin .append, #[x,y],A⟩
def zS (te:Ty) (us:List V):Prop:=(us.all fun y=>decide (y.cells.length=te.size)&&y.cells.all V.one)=true
def Zz (te:Ty):List V→Bool
 | []=>true
 | v::l=>match yt v with
   | some cs=>match Nat.beq cs.length te.size&&eH cs with
     | true=>Zz te l
     | false=>false
   | none=>false
theorem zS.of {te:Ty}:∀ {us:List V},Zz te us=true→zS te us
 | [],_=>rfl
 | v::l,h=>by
   unfold Zz at h
   split at h
   case h_2=>cases h
   rename_i cs e
   split at h
   case h_2=>cases h
   rename_i e2
   simp only [Bool.and_eq_true] at e2
   have:=zS.of h
   unfold zS at this ⊢
   rw [List.all_cons,this,vG e,cB e2.2]
   simp [Nat.eq_of_beq_eq_true e2.1]
theorem zS.map {α : Type} {te:Ty} {f : α → V} {us:List α} (h:∀ x,Zz te [f x]=true):zS te (us.map f):=by
 unfold zS
 rw [List.all_map,List.all_eq_true]
 intro x _
 have:=zS.of (h x)
 unfold zS at this
 simpa using this
def xU (n bytes:Nat):Prop:=n*bytes≤140737488355328∧n≤140737488355328
theorem xU.of {n b:Nat} (h:n≤1099511627776) (hb:Nat.ble b 128=true):xU n b:=by
 have hb:=Nat.le_of_ble_eq_true hb
 refine ⟨Nat.le_trans (Nat.mul_le_mul h hb) (by omega),by omega⟩
theorem zq.app (ht:tt.ok P) {T U e:TypeId} {t te:Ty} {x y:Operand} {k n m:Nat} {us vs:List V} {w:V} (hx:jf L x=some (.sl (s.next+k) us)) (hy:jf L y=some w) (hw:iW w=some vs)
   (hT:tt.get T=some t) (hkd:t.kd = .slice e) (hte:tt.get e=some te) (hz:(Nat.beq te.zero.length te.size&&Nat.blt 0 te.size)=true) (hf:kK xs k=some (.fam n m)) (hm:Nat.beq m te.size=true)
   (hset:fC xs k (.fam (us.length+vs.length) te.size)=some ys) (hU:Nat.beq U T=true) (hn:n=us.length) (hall:zS te vs) (hb:xU (us.length+vs.length) te.bytes)
   (hk:zq P N ops l K ((d,.sl (s.next+k) (us++vs))::L) (s.ext ys)):zq P N ops (⟨some d,jQ x y #[T,U],ty,p,a,none⟩::l) K L (s.ext xs):=by
 simp only [Bool.and_eq_true] at hz
 have Vv:=Nat.eq_of_beq_eq_true hU
 subst Vv
 subst hn
 have hm':=Nat.eq_of_beq_eq_true hm
 refine .st (fun σ hσ => ?_) hk
 simp only [jQ,vU,uh,qd hσ hx,qd hσ hy,j3,y7,ht.get hT,hkd,ht.get hte,yN hw,Option.bind_some,Option.map_some,if_true]
 rw [if_pos ⟨Nat.eq_of_beq_eq_true hz.1,by simpa using hz.2,hall⟩,nQ,kF hf]
 simp only [Own.rG,Option.bind_some]
 rw [if_pos ⟨trivial,hm',hb.1,hb.2⟩,mQ _ _ _ _ _ (by rw [kF hf];rfl),sw hset]
def Zq:V→Bool
 | .jo=>true
 | .zl=>true
 | _=>false
theorem zq.app0 (ht:tt.ok P) {T U e:TypeId} {t te:Ty} {x y:Operand} {n:Nat} {vs:List V} {u w:V} (hx:jf L x=some u) (hu:Zq u=true) (hy:jf L y=some w) (hw:iW w=some vs)
   (hT:tt.get T=some t) (hkd:t.kd = .slice e) (hte:tt.get e=some te) (hz:(Nat.beq te.zero.length te.size&&Nat.blt 0 te.size)=true) (hl:Xf xs=some n)
   (hs:nY xs (.fam vs.length te.size)=some ys) (hU:Nat.beq U T=true) (hall:zS te vs) (hb:xU vs.length te.bytes)
   (hk:zq P N ops l K ((d,.sl (s.next+n) vs)::L) (s.ext ys)):zq P N ops (⟨some d,jQ x y #[T,U],ty,p,a,none⟩::l) K L (s.ext xs):=by
 simp only [Bool.and_eq_true] at hz
 have Vv:=Nat.eq_of_beq_eq_true hU
 subst Vv
 refine .st (fun σ hσ => ?_) hk
 simp only [jQ,vU,uh,qd hσ hx,qd hσ hy,j3,y7,ht.get hT,hkd,ht.get hte,yN hw,Option.bind_some,Option.map_some,if_true]
 rw [if_pos ⟨Nat.eq_of_beq_eq_true hz.1,by simpa using hz.2,hall⟩]
 have hk:u = .jo∨u = .zl:=by
   unfold Zq at hu
   split at hu
   · exact .inl rfl
   · exact .inr rfl
   · cases hu
 rcases hk with rfl | rfl
 all_goals
   simp only
   rw [if_pos ⟨hb.1,hb.2⟩,wH,aC hs,q8,dN hl]
theorem zq.F4 (ht:tt.ok P) {T e:TypeId} {t te:Ty} {x i:Operand} {ex:Cp} {b off len j:Nat} {k:IntKind} (hx:jf L x=some (.qJ ex b off len)) (hi:jf L i=some (.int k (j:Int))) (hT:tt.get T=some t) (hkd:t.kd = .slice e)
   (hte:tt.get e=some te) (hj:j<len)
   (hk:zq P N ops l K ((d,.ptr b (off+j*te.size))::L) s):zq P N ops (⟨some d,.indexAddr T x i,ty,p,a,none⟩::l) K L s:=by
 refine .st (fun σ hσ => ?_) hk
 simp only [vU,qd hσ hx,qd hσ hi,wu,ht.get hT,hkd,ht.get hte,Option.bind_some]
 rw [if_pos ⟨Int.natCast_nonneg j,by omega⟩,Int.toNat_natCast]
 rfl
def YU (L:Kn):Option Operand→Option (Option V)
 | none=>some none
 | some x=>match jf L x with
   | some v=>some (some v)
   | none=>none
theorem Xi {L:Kn} {σ : Fr} (ha:At L σ) {x:Option Operand} {v:Option V} (h:YU L x=some v):ZT σ x=some v:=by
 cases x with
 | none=>exact h
 | some x =>
   unfold YU at h
   cases he:jf L x with
   | none=>simp only [he] at h;cases h
   | some u=>simp only [he] at h;simp only [ZT,qd ha he,Option.map_some];exact h
theorem zq.call {f:Operand} {g:FuncId} {args:Array Operand} {A:Array TypeId} {caps vs ws:List V} {R:V→S→Prop} (hf:jf L f=some (.fn g caps)) (ha:uE L args.toList=some vs) (hap:Z4 vs caps=some ws) (hok:zW P g)
   (hc:VCalls P g ws s R) (hk:∀ v s',R v s'→zq P N ops l K ((d,v)::L) s'):zq P N ops (⟨some d,.call ⟨.value f,args,A⟩,ty,p,a,none⟩::l) K L s:=by
 refine ⟨fun hd σ hσ => ?_⟩
 simp only [List.all_cons,Bool.and_eq_true] at hd
 refine ⟨hd.1,?_⟩
 simp only [xA]
 refine .inl ?_
 simp only [rE,qd hσ hf,iK hσ ha,p8]
 refine ⟨hok.h,?_⟩
 rw [← su hap]
 exact hc.mono fun v s' hr=>(hk v s' hr).run hd.2 _ (hσ.cons d v)
def Vw:Nat→List V→Kn
 | _,[]=>[]
 | k,v::vs=>(k,v)::Vw (k+1) vs
theorem Wu:∀ (args:List V) (k x:Nat) (v:V),lk (Vw k args) x=some v→k≤x∧args[x - k]?=some v
 | [],k,x,v,h=>by cases h
 | u::args,k,x,v,h=>by
   unfold Vw lk at h
   split at h
   · rename_i e
     cases h
     have:=Nat.eq_of_beq_eq_true e
     subst this
     simp
   · rename_i e
     obtain ⟨h1,h2⟩:=Wu args (k+1) x v h
     refine ⟨by omega,?_⟩
     rw [show x - k=(x - (k+1))+1 by omega]
     simpa using h2
theorem At.args (args:List V):At (Vw 0 args) (mh args):=by
 intro x v h
 have:=(Wu args 0 x v h).2
 simp only [Nat.sub_zero] at this
 simp [mh,List.getD_eq_getElem?_getD,this]
def DT (P:Program) (rs:List ResultVar) (R:V→S→Prop):Exit→Kn→S→Prop
 | .normal,L,s | .ret,L,s=>∃ vs,(∀ σ,At L σ → eG P σ s rs=some vs)∧R (oneOf vs) s
 | _,_,_=>False
structure zh (P:Program) (rs:List ResultVar) (R:V→S→Prop) (e:Exit) (L:Kn) (s:S):Prop where
 h:DT P rs R e L s
theorem zi.body {f:FuncId} {fn:Func} {c:Code} {args:List V} {R:V→S→Prop} (hf:P.funcs[f]?=some fn) (hb:fn.body=some c) (hn:Nat.ble args.length fn.ntmps=true)
   (h:WL P fn.ntmps c (zh P fn.results.toList R) (Vw 0 args) (s.ext [])):VCalls P f args s R:=by
 refine VCalls.Cr hf hb (Nat.le_of_ble_eq_true hn) (wY.mono (h.run _ (At.args args)) ?_)
 rintro e σ' s' ⟨L',hat,⟨hq⟩⟩
 cases e with
 | normal=>obtain ⟨vs,h1,h2⟩:=hq;simp only [iO,h1 σ' hat];exact h2
 | ret=>obtain ⟨vs,h1,h2⟩:=hq;simp only [iO,h1 σ' hat];exact h2
 | _=>exact hq.elim
def zX (s:S) (d:V) (v:V) (s':S):Prop:=v.forget=d∧∃ xs,s'=s.ext xs
theorem zX.mk {s:S} {d v:V} {xs:List Own} (h:v.forget=d):zX s d v (s.ext xs):=⟨h,xs,rfl⟩
theorem zi.pure {f:FuncId} {fn:Func} {c:Code} {args:List V} {d:V} (hf:P.funcs[f]?=some fn) (hb:fn.body=some c) (hn:Nat.ble args.length fn.ntmps=true) (hd:d.dat=true)
   (h:WL P fn.ntmps c (zh P fn.results.toList (zX s d)) (Vw 0 args) (s.ext [])):VCalls P f args s (fun v s'=>v=d∧s'=s):=by
 refine VCalls.FP hf hb (Nat.le_of_ble_eq_true hn) hd (wY.mono (h.run _ (At.args args)) ?_)
 rintro e σ' s' ⟨L',hat,⟨hq⟩⟩
 cases e with
 | normal=>obtain ⟨vs,h1,h2⟩:=hq;simp only [iO,h1 σ' hat];exact h2
 | ret=>obtain ⟨vs,h1,h2⟩:=hq;simp only [iO,h1 σ' hat];exact h2
 | _=>exact hq.elim
def zn (P:Program) (r:ResultVar) (L:Kn) (s:S) (v:V):Prop:=∀ σ,At L σ → nu P σ s r=some v
theorem zn.tmp {t:Nat} {v:V} (h:lk L t=some v):zn P (.tmp t) L s v:=fun σ hσ => by simp [nu,hσ t v h]
theorem zn.cell (ht:tt.ok P) {x:Nat} {T:TypeId} {t:Ty} {k off:Nat} {cs:List V} {v:V} (hx:lk L x=some (.ptr (s.next+k) off)) (hv:kK xs k=some (.var cs)) (hT:tt.get T=some t) (hr:gq cs off t.size t.agg=some v) :
   zn P (.cell x T) L (s.ext xs) v:=fun σ hσ => by simp only [nu,hσ x _ hx,eF,ht.get hT,tO hv,aD hr,Option.bind_some]
theorem zh.r0 {R:V→S→Prop} {e:Exit} (he:e = .ret∨e = .normal) (h:R (.jY []) s):zh P [] R e L s:=by
 rcases he with rfl | rfl <;> exact ⟨⟨[],fun _ _=>rfl,h⟩⟩
theorem zh.r1 {R:V→S→Prop} {r:ResultVar} {v:V} {e:Exit} (he:e = .ret∨e = .normal) (h1:zn P r L s v) (h:R v s):zh P [r] R e L s:=by
 rcases he with rfl | rfl <;> exact ⟨⟨[v],fun σ hσ => by simp [eG,h1 σ hσ, -nu],h⟩⟩
theorem zh.r2 {R:V→S→Prop} {r r':ResultVar} {v v':V} {e:Exit} (he:e = .ret∨e = .normal) (h1:zn P r L s v) (h2:zn P r' L s v') (h:R (.jY [v,v']) s):zh P [r,r'] R e L s:=by
 rcases he with rfl | rfl <;> exact ⟨⟨[v,v'],fun σ hσ => by simp [eG,h1 σ hσ,h2 σ hσ, -nu],h⟩⟩
theorem zh.r3 {R:V→S→Prop} {r r' r'':ResultVar} {v v' v'':V} {e:Exit} (he:e = .ret∨e = .normal) (h1:zn P r L s v) (h2:zn P r' L s v') (h3:zn P r'' L s v'') (h:R (.jY [v,v',v'']) s):zh P [r,r',r''] R e L s:=by
 rcases he with rfl | rfl <;> exact ⟨⟨[v,v',v''],fun σ hσ => by simp [eG,h1 σ hσ,h2 σ hσ,h3 σ hσ, -nu],h⟩⟩
def D5 {α : Type} (M : α → Nat) (LI : α → Kn) (SI : α → S) (I : α → Prop) (x : α) (Q:Exit→Kn→S→Prop):Exit→Kn→S→Prop
 | .normal,L',s'=>∃ y,I y∧M y<M x∧qz (LI y) L'∧s'=SI y
 | e,L',s'=>Q e L' s'
structure CK {α : Type} (M : α → Nat) (LI : α → Kn) (SI : α → S) (I : α → Prop) (x : α) (Q:Exit→Kn→S→Prop) (e:Exit) (L:Kn) (s:S):Prop where
 h:D5 M LI SI I x Q e L s
theorem Bv {E0 E1:Env} {s0 s:S} {xs ys:List Own} (h1:xg E0 s0) (hn:s0.next=s.next+xs.length) (k:xg E1 (s.ext (xs++ys))) (st:Step E0 s0 E1 (s.ext (xs++ys)))
   (hun:∀ l cs,(s.ext xs).vars l=some cs→s0.vars l=some cs∨cs.all (V.under (s.next+xs.length))=true) :
   ∃ E',E'.w=E1.w∧xg E' (s.ext xs)∧Step E0 s0 E' (s.ext xs)∧∀ v val,v.under (s.next+xs.length)=true→qy E1 v val→qy E' v val:=by
 let n:=s.next+xs.length
 let E':Env:={ w:=E1.w,vY:=E1.vY,loc:=fun l=>if l<n then E1.loc l else none,fam:=fun l=>if l<n then E1.fam l else none }
 have hloc:∀ l,l<n→E'.loc l=E1.loc l:=fun l hl=>by show (if l<n then E1.loc l else none)=_;rw [if_pos hl]
 have yu:∀ l,l<n→E'.fam l=E1.fam l:=fun l hl=>by show (if l<n then E1.fam l else none)=_;rw [if_pos hl]
 have hlt2:∀ l g,E0.loc l=some g→l<n:=fun l g hl=>by
   rcases Nat.lt_or_ge l n with h | h
   · exact h
   · rw [(h1.fresh l (by omega)).1] at hl;cases hl
 have KL:∀ l F,E0.fam l=some F→l<n:=fun l g hl=>by
   rcases Nat.lt_or_ge l n with h | h
   · exact h
   · rw [(h1.fresh l (by omega)).2] at hl;cases hl
 have ev:jc E0 E':=⟨st.ev.vY,st.ev.cell,fun l g hl=>(hloc l (hlt2 l g hl)).trans (st.ev.loc l g hl),fun id F hF=>by rw [yu id (KL id F hF)];exact st.ev.fam id F hF⟩
 have hvars:∀ l cs,(s.ext xs).vars l=some cs→l<n∧(s.ext (xs++ys)).vars l=some cs:=by
   intro l cs hl
   simp only [S.ext] at hl ⊢
   by_cases e:l<s.next
   · rw [if_pos e] at hl ⊢
     exact ⟨by omega,hl⟩
   · rw [if_neg e] at hl ⊢
     have hlt:l - s.next<xs.length:=by
       rcases Nat.lt_or_ge (l - s.next) xs.length with h | h
       · exact h
       · rw [List.getElem?_eq_none h] at hl;cases hl
     refine ⟨by omega,?_⟩
     rw [List.getElem?_append_left hlt];exact hl
 have rZ:∀ l q,(s.ext xs).xJ l=some q→l<n∧(s.ext (xs++ys)).xJ l=some q:=by
   intro l q hl
   simp only [S.ext] at hl ⊢
   by_cases e:l<s.next
   · rw [if_pos e] at hl ⊢
     exact ⟨by omega,hl⟩
   · rw [if_neg e] at hl ⊢
     have hlt:l - s.next<xs.length:=by
       rcases Nat.lt_or_ge (l - s.next) xs.length with h | h
       · exact h
       · rw [List.getElem?_eq_none h] at hl;cases hl
     refine ⟨by omega,?_⟩
     rw [List.getElem?_append_left hlt];exact hl
 have hvs:∀ l,((s.ext xs).vars l).isSome=true→l<n∧((s.ext (xs++ys)).vars l).isSome=true:=fun l hl=>by
   obtain ⟨cs,hcs⟩:=Option.isSome_iff_exists.1 hl
   obtain ⟨a,b⟩:=hvars l cs hcs
   exact ⟨a,by rw [b];rfl⟩
 have hfs:∀ l,((s.ext xs).xJ l).isSome=true→l<n∧((s.ext (xs++ys)).xJ l).isSome=true:=fun l hl=>by
   obtain ⟨cs,hcs⟩:=Option.isSome_iff_exists.1 hl
   obtain ⟨a,b⟩:=rZ l cs hcs
   exact ⟨a,by rw [b];rfl⟩
 have CJ:0<n:=by have:=h1.pos;omega
 refine ⟨E',rfl,⟨fun l cs hl=>?_,fun l l' g hl hl' hg hg'=>?_,fun id m sz hid=>?_,fun id id' F F' g hid Yr hF hF'=>?_,fun l g id F hl hg hid hF=>?_,fun l hl=>?_,CJ,k.vY⟩,
   ⟨ev,st.os,st.tape,st.output,st.size,st.block,fun q hq ht=>st.track q hq ?_,by rw [hn,q8];exact Nat.le_refl _⟩,
   fun v val hu hr=>qy.restrict (E:=E1) (E':=E') (n:=n) rfl rfl hloc yu hr hu⟩
 · obtain ⟨hl0, hl1⟩ := hvars l cs hl
   obtain ⟨g,arr,e,fr,m3,m4⟩:=k.var l cs hl1
   have hbel:cs.all (V.under n)=true:=by
     rcases hun l cs hl with hs | hs
     · obtain ⟨g0, AL, e0, P8, m1, m2⟩ := h1.var l cs hs
       exact m2.rep.nZ (n:=n) CJ (fun l hl=>(h1.fresh l (by omega)).1) (fun l hl=>(h1.fresh l (by omega)).2)
     · exact hs
   exact ⟨g,arr,e,fr,(hloc l hl0).trans m3,⟨m4.heap,ql.restrict (E:=E1) (E':=E') rfl rfl hloc yu m4.rep hbel,m4.le,m4.free,m4.vY⟩⟩
 · obtain ⟨a1, a2⟩ := hvs l hl
   obtain ⟨b1,b2⟩:=hvs l' hl'
   rw [hloc l a1] at hg
   rw [hloc l' b1] at hg'
   exact k.vv l l' g a2 b2 hg hg'
 · obtain ⟨a1, a2⟩ := rZ id _ hid
   obtain ⟨h00,F,m1,m2⟩:=k.fam id m sz a2
   exact ⟨h00,F,(yu id a1).trans m1,m2⟩
 · obtain ⟨a1, a2⟩ := hfs id hid
   obtain ⟨b1,b2⟩:=hfs id' Yr
   rw [yu id a1] at hF
   rw [yu id' b1] at hF'
   exact k.vL id id' F F' g a2 b2 hF hF'
 · obtain ⟨a1, a2⟩ := hvs l hl
   obtain ⟨b1,b2⟩:=hfs id hid
   rw [hloc l a1] at hg
   rw [yu id b1] at hF
   exact k.jL l g id F a2 hg b2 hF
 · have hl' : ¬ l < n := Nat.not_lt.2 (by rw [q8] at hl; exact hl)
   exact ⟨by show (if l<n then E1.loc l else none)=none;rw [if_neg hl'],by show (if l<n then E1.fam l else none)=none;rw [if_neg hl']⟩
 · rcases ht with ⟨l, hl, hg⟩ | ⟨id, F, hl, hF, hg⟩
   · obtain ⟨a1, a2⟩ := hvs l hl
     rw [hloc l a1] at hg
     exact .inl ⟨l,a2,hg⟩
   · obtain ⟨a1, a2⟩ := hfs id hl
     rw [yu id a1] at hF
     exact .inr ⟨id,F,a2,hF,hg⟩
def Own.under (n:Nat):Own→Bool
 | .var cs=>V.zO n cs
 | _=>true
def qF (n:Nat) (L:Kn):Prop:=L.all (fun kv=>kv.2.under n)=true
def qG (n:Nat) (xs:List Own):Prop:=xs.all (Own.under n)=true
def Bw {α : Type} (M : α → Nat) (LI : α → Kn) (XI : α → List Own) (I : α → Prop) (s:S) (x : α) (Q:Exit→Kn→S→Prop):Exit→Kn→S→Prop
 | .normal,L',s'=>∃ y zs,I y∧M y<M x∧qz (LI y) L'∧s'=s.ext (XI y++zs)
 | e,L',s'=>Q e L' s'
structure qB {α : Type} (M : α → Nat) (LI : α → Kn) (XI : α → List Own) (I : α → Prop) (s:S) (x : α) (Q:Exit→Kn→S→Prop) (e:Exit) (L:Kn) (s':S):Prop where
 h:Bw M LI XI I s x Q e L s'
theorem D6 {L:Kn} {f:V→Bool} (h:L.all (fun kv=>f kv.2)=true) {k:Nat} {v:V} (hv:lk L k=some v):f v=true:=by
 induction L with
 | nil=>cases hv
 | cons x L ih =>
   obtain ⟨j,u⟩:=x
   simp only [List.all_cons,Bool.and_eq_true] at h
   unfold lk at hv
   split at hv
   · cases hv;exact h.1
   · exact ih h.2 hv
theorem WL.xK {α : Type} {c:Code} {Q:Exit→Kn→S→Prop} (M : α → Nat) (LI : α → Kn) (XI : α → List Own) (I : α → Prop) (m:Nat) (x0 : α) (h0:I x0) (hm:∀ x,(XI x).length=m) (hL:qz (LI x0) L) (hs:xs=XI x0)
   (hu:∀ x,I x→qF (s.next+m) (LI x)∧qG (s.next+m) (XI x))
   (round:∀ x,I x→WL P N c (qB M LI XI I s x Q) (LI x) (s.ext (XI x))):WL P N (.loop c) Q L (s.ext xs):=by
 subst hs
 refine ⟨fun σ hσ E act h1 h2=>?_⟩
 refine wp_loop_ghost (fun n a w=>∃ x E1 σ1,M x=n∧I x∧E1.w=w∧xg E1 (s.ext (XI x))∧At (LI x) σ1∧yV E1 σ1 N a∧Step E (s.ext (XI x0)) E1 (s.ext (XI x))) (M x0) ⟨x0,E, σ,rfl,h0,rfl,h1,hL.at hσ,h2,.refl _ _⟩ ?_
 rintro n a1 w1 ⟨x,E1, σ1,rfl,hI,rfl,h3,hat,h4,h5⟩
 refine wp_mono ((round x hI).run σ1 hat E1 a1 h3 h4) ?_
 rintro e a' w' ⟨E', σ',s',rfl,⟨L',hat',⟨q⟩⟩,k3,k4,k5⟩
 cases e with
 | normal =>
   obtain ⟨y,zs,Pz,hlt,hsub,rfl⟩:=q
   obtain ⟨uK,uX⟩:=hu y Pz
   have R3:=hm y
   obtain ⟨P9,hw,r2,st2,F5⟩:=Bv (s:=s) (xs:=XI y) (ys:=zs) h3 (by rw [q8,hm,hm]) k3 k5 (fun l cs hl=>by
     simp only [S.ext] at hl ⊢
     by_cases e:l<s.next
     · rw [if_pos e] at hl ⊢;exact .inl hl
     · rw [if_neg e] at hl
       right
       cases hc:(XI y)[l - s.next]? with
       | none=>rw [hc] at hl;cases hl
       | some o =>
         rw [hc] at hl
         cases o with
         | var cs' =>
           cases hl
           have:=List.all_eq_true.1 uX (.var cs) (List.mem_of_getElem? hc)
           rw [hm, ← V.xB]
           exact this
         | _=>cases hl)
   rw [hm] at F5
   refine ⟨M y,hlt,y,P9,fun t=>if (lk (LI y) t).isSome then σ' t else .raw (a'.tmps.getD t undef),rfl,Pz,hw,r2,fun t v hv=>?_,⟨fun t=>?_,k4.size,k4.defers⟩,h5.trans st2⟩
   · simp only [hv, Option.isSome_some, if_true]
     exact hsub.at hat' t v hv
   · cases hlk : lk (LI y) t with
     | none=>simp only [Option.isSome_none,Bool.false_eq_true,if_false];exact .raw
     | some v =>
       simp only [Option.isSome_some,if_true]
       refine F5 _ _ ?_ (k4.slot t)
       rw [hsub.at hat' t v hlk]
       exact D6 (f:=V.under (s.next+m)) uK hlk
 | _=>exact ⟨E', σ',s',rfl,⟨L',hat',q⟩,k3,k4,h5.trans k5⟩
theorem WL.mV {c:Code} {Q:Exit→Kn→S→Prop} {t n:Nat} {v:V} (sz:Nat) (hx:lk L t=some v) (hv:Zq v=true) (hl:Xf xs=some n) (hs:nY xs (.fam 0 sz)=some ys) (h:WL P N c Q ((t,.sl (s.next+n) [])::L) (s.ext ys)) :
   WL P N c Q L (s.ext xs):=by
 refine ⟨fun σ hσ E act h1 h2=>?_⟩
 obtain ⟨st,r⟩:=y8 h1 sz
 have e1:(s.ext xs).kL 0 sz=s.ext ys:=by rw [wH,aC hs]
 have e2:(s.ext xs).next=s.next+n:=by rw [q8,dN hl]
 rw [e1] at st r
 rw [e2] at st r
 have ha:yV { E with fam:=fun x=>if x=s.next+n then some ⟨0,none,0,sz⟩ else E.fam x } (put σ t (.sl (s.next+n) [])) N act:=by
   have ha:=h2.xQ st.ev
   refine ⟨fun u=>?_,h2.size,h2.defers⟩
   unfold put
   by_cases e:u=t
   · rw [if_pos e, e]
     have h3:=h2.slot t
     rw [hσ t v hx] at h3
     have hk:v = .jo∨v = .zl:=by
       unfold Zq at hv
       split at hv
       · exact .inl rfl
       · exact .inr rfl
       · cases hv
     have hf:oC { E with fam:=fun x=>if x=s.next+n then some ⟨0,none,0,sz⟩ else E.fam x } (s.next+n) := .inr ⟨⟨0,none,0,sz⟩,by simp,fun _=>rfl⟩
     rcases hk with rfl | rfl
     · generalize act.tmps.getD t undef = val at h3
       cases h3
       exact .iy hf
     · generalize act.tmps.getD t undef = val at h3
       cases h3
       exact .iy hf
   · rw [if_neg e]
     exact ha.slot u
 have hw:=h.run _ (hσ.cons t _) { E with fam:=fun x=>if x=s.next+n then some ⟨0,none,0,sz⟩ else E.fam x } act r ha
 exact wp_mono hw fun _ _ _ hz=>After.trans st hz
theorem YA:∀ {v:V} {n:Nat},v.dat=true→v.under n=true:=by
 intro v n
 refine V.rec (motive_1:=fun v=>v.dat=true→v.under n=true) (motive_2:=fun vs=>V.mo vs=true→V.zO n vs=true) ?_ ?_ ?_ ?_ ?_ ?_ ?_ ?_ ?_ ?_ ?_ ?_ ?_ ?_ ?_ ?_ ?_ v
 all_goals (intros;simp_all [V.dat,V.under,V.mo,V.zO])
theorem yO {vs:List V} {n:Nat} (h:V.mo vs=true):V.zO n vs=true:=by
 rw [V.xB,List.all_eq_true]
 intro v hv
 rw [V.uz,List.all_eq_true] at h
 exact YA (h v hv)
end Go.Proofs.YtolhegocbkckdaaGreat
namespace Go.Proofs.YtolhegocbkckdaaGreat
open Go
def Xl (P:Program) (o:Oper) (σ : Fr) (s:S) (v:V):Prop:=∀ K:Fr→S→Prop,K (kP σ o.dst v) s→DF P o K σ s
theorem Xl.congr {P:Program} {ops:Array Oper} {o:Oper} {σ σ':Fr} {s:S} {v:V} (h:Xl P o σ s v) (hs:yM σ σ' (o.looksAt ops)):Xl P o σ' s v:=by
 intro K hk
 refine QA (h (fun τ t => τ = kP σ o.dst v∧t=s) ⟨rfl,rfl⟩) hs fun v' s' hh=>?_
 obtain ⟨e1,rfl⟩:=hh
 have:kP σ' o.dst v'=kP σ' o.dst v:=by
   cases hd:o.dst with
   | none=>rfl
   | some d =>
     have:=congrFun e1 d
     rw [hd,jZ,jZ] at this
     rw [this]
 rw [this]
 exact hk
def Vy (P:Program) (ops:Array Oper) (p:Nat) (σ : Fr) (s:S):Prop :=
 match ops[p]? with
 | none=>False
 | some o=>match xA ops σ o with
   | some true=>∃ v,Xl P o σ s v∧KT σ o.dst v
   | some false=>KT σ o.dst .und
   | none=>False
def Z6 (P:Program) (ops:Array Oper) (σ : Fr) (s:S):List Nat→Prop
 | []=>True
 | p::ps=>Vy P ops p σ s∧Z6 P ops σ s ps
theorem Z6.get {P:Program} {ops:Array Oper} {σ : Fr} {s:S}:∀ {l:List Nat},Z6 P ops σ s l→∀ p∈l,Vy P ops p σ s
 | [],_,p,hp=>by cases hp
 | q::l,h,p,hp=>by
   rcases List.mem_cons.1 hp with rfl | hp
   · exact h.1
   · exact Z6.get h.2 p hp
def Wd (P:Program) (N:Nat) (ops:Array Oper) (F:List Nat) (A:List (List Nat)) (K:Fr→S→Prop):List Nat→List Nat→Fr→S→Prop
 | _,[], σ,s=>K σ s
 | pre,i::rest, σ,s =>
   match ops[i]? with
   | none=>False
   | some o =>
     match jr F i with
     | true=>iN P N ops o (fun σ' s'=>Z6 P ops σ' s' (floats F A pre i)∧Wd P N ops F A K (i::pre) rest σ' s') σ s
     | false=>match xA ops σ o with
       | some true=>∃ v,Xl P o σ s v∧Wd P N ops F A K (i::pre) rest (kP σ o.dst v) s
       | some false=>Wd P N ops F A K (i::pre) rest (kP σ o.dst .und) s
       | none=>False
theorem K6 {P:Program} {ops:Array Oper} {p:Nat} {o:Oper} {σ σ':Fr} {s:S} (h:Vy P ops p σ s) (ho:ops[p]?=some o) (hs:yM σ σ' (o.looksAt ops)) (hd:∀ d,o.dst=some d → σ' d = σ d):Vy P ops p σ' s:=by
 have ha:∀ v,KT σ o.dst v→KT σ' o.dst v:=by
   intro v hv
   cases e:o.dst with
   | none=>trivial
   | some d=>rw [e] at hv;exact (hd d e).trans hv
 unfold Vy at h ⊢
 rw [ho] at h ⊢
 simp only at h ⊢
 rw [← je hs]
 split at h
 · obtain ⟨v, h1, h2⟩ := h
   exact ⟨v,h1.congr hs,ha _ h2⟩
 · exact ha _ h
 · exact h.elim
structure nU (P:Program) (N:Nat) (ops:Array Oper) (order F:List Nat) (A:List (List Nat)) (K:Fr→S→Prop) (pre rest:List Nat) (D:Array Bool) (σD σC:Fr) (s:S):Prop where
 size:D.size=ops.size
 closed:Closed ops D
 split:order=pre.reverse++rest
 hrest:∀ i∈rest,¬ dn D i
 hpre:∀ p∈pre,¬ dn D p→jr F p=false∧Vy P ops p σC s
 agree:∀ d,(∀ p∈pre,¬ dn D p→∀ o,ops[p]?=some o→o.dst≠some d) → σD d = σC d
 walk:Wd P N ops F A K pre rest σC s
section
variable {P:Program} {N:Nat} {ops:Array Oper} {order F:List Nat} {A:List (List Nat)} {K:Fr→S→Prop}
theorem nU.rel {pre rest:List Nat} {D:Array Bool} {σD σC:Fr} {s:S} (pl:Plan N ops order F A) (h:nU P N ops order F A K pre rest D σD σC s) :
   (∀ p∈pre,∀ r∈rest,r ∉ kJ A p∧(jr F p=true→p∈kJ A r)∧p≠r)∧rest.Pairwise fun x y=>y ∉ kJ A x∧(jr F x=true→x∈kJ A y):=by
 have h1:=pl.pair
 have h2:=pl.nodup
 rw [h.split] at h1 h2
 rw [List.pairwise_append] at h1
 rw [List.nodup_append] at h2
 exact ⟨fun p hp r hr=>⟨(h1.2.2 p (by simpa using hp) r hr).1,(h1.2.2 p (by simpa using hp) r hr).2,h2.2.2 p (by simpa using hp) r hr⟩,h1.2.1⟩
theorem nU.float {pre rest:List Nat} {i:Nat} {o:Oper} {v:V} {D:Array Bool} {σD σC:Fr} {s:S} (pl:Plan N ops order F A) (h:nU P N ops order F A K pre (i::rest) D σD σC s) (ho:ops[i]?=some o) (he:jr F i=false)
   (hst:(match xA ops σC o with | some true=>Xl P o σC s v | some false=>v = .und | none=>False)) (hw:Wd P N ops F A K (i::pre) rest (kP σC o.dst v) s):nU P N ops order F A K (i::pre) rest D σD (kP σC o.dst v) s:=by
 have hrel:=(h.rel pl).1
 have hnd:¬ dn D i:=h.hrest i (by simp)
 have hsame:∀ p o',ops[p]?=some o'→i ∉ kJ A p→yM σC (kP σC o.dst v) (o'.looksAt ops):=by
   intro p o' hp' hn t ht
   refine (xP fun e=>hn ?_).symm
   exact pl.look i p o o' ho hp' he t e ht
 refine ⟨h.size,h.closed,by rw [h.split];simp,fun j hj=>h.hrest j (by simp [hj]),fun p hp hd=>?_,fun d hd=>?_,hw⟩
 · rcases List.mem_cons.1 hp with rfl | hp
   · refine ⟨he, ?_⟩
     have hs:=hsame p o ho (pl.LM p)
     unfold Vy
     rw [ho]
     simp only
     rw [← je hs]
     have hat:KT (kP σC o.dst v) o.dst v:=by
       cases e:o.dst with
       | none=>trivial
       | some d=>exact jZ
     split at hst
     · exact ⟨v,hst.congr hs,hat⟩
     · subst hst;exact hat
     · exact hst.elim
   · obtain ⟨k1, k2⟩ := h.hpre p hp hd
     refine ⟨k1,?_⟩
     have hpi:=hrel p hp i (by simp)
     have hpo:∃ o',ops[p]?=some o':=by
       have hps:p<ops.size:=(pl.all p).2 (by rw [h.split];simp [hp])
       exact ⟨_,Array.getElem?_eq_getElem hps⟩
     obtain ⟨o',ho'⟩:=hpo
     refine K6 k2 ho' (hsame p o' ho' hpi.1) fun d hd'=>xP fun e=>?_
     exact pl.dst i p o o' ho ho' he (fun x=>hpi.2.2 x.symm) d e hd'
 · rw [xP (hd i (by simp) hnd o ho)]
   exact h.agree d fun p hp=>hd p (by simp [hp])
theorem nU.advance (pl:Plan N ops order F A) {D:Array Bool} {σD:Fr} {s:S}:∀ (rest pre:List Nat) (σC:Fr),nU P N ops order F A K pre rest D σD σC s →
   ∃ pre' rest' σC',nU P N ops order F A K pre' rest' D σD σC' s∧(rest'=[]∨∃ h t,rest'=h::t∧jr F h=true)
 | [],pre, σC,h=>⟨pre,[], σC,h,.inl rfl⟩
 | i::rest,pre, σC,h=>by
   cases he:jr F i with
   | true=>exact ⟨pre,i::rest, σC,h,.inr ⟨i,rest,rfl,he⟩⟩
   | false =>
     have hw:=h.walk
     unfold Wd at hw
     cases ho:ops[i]? with
     | none=>rw [ho] at hw;exact hw.elim
     | some o =>
       rw [ho] at hw
       simp only [he] at hw
       cases hv:xA ops σC o with
       | none=>rw [hv] at hw;exact hw.elim
       | some b =>
         rw [hv] at hw
         cases b with
         | true =>
           obtain ⟨v,Ul,hw⟩:=hw
           exact nU.advance pl rest (i::pre) _ (h.float pl ho he (by rw [hv];exact Ul) hw)
         | false=>exact nU.advance pl rest (i::pre) _ (h.float pl ho he (by rw [hv]) hw)
theorem nU.finish (pl:Plan N ops order F A) {pre rest:List Nat} {D:Array Bool} {σD σC:Fr} {s:S} (h:nU P N ops order F A K pre rest D σD σC s) (hr:Region.ready .any ops D=[]):K σD s:=by
 have hall:=nW pl h.size hr
 have hmem:∀ i,i∈pre.reverse++rest→dn D i:=fun i hi=>hall i ((pl.all i).2 (by rw [h.split];exact hi))
 cases hrest:rest with
 | cons i r =>
   exact (h.hrest i (by rw [hrest];simp) (hmem i (by rw [hrest];simp))).elim
 | nil =>
   have hw:=h.walk
   rw [hrest] at hw
   have : σD = σC:=funext fun d=>h.agree d fun p hp hd=>(hd (hmem p (by simp [hp]))).elim
   rw [this]
   exact hw
theorem Xm (pl:Plan N ops order F A):∀ (fuel:Nat) (D:Array Bool) (pre rest:List Nat) (σD σC:Fr) (s:S),nU P N ops order F A K pre rest D σD σC s→left ops D≤fuel→Xc P N ops K fuel D σD s
 | 0,D,pre,rest, σD, σC,s,h,hf=>by
   have hr:Region.ready .any ops D=[]:=by
     cases hr:Region.ready .any ops D with
     | nil=>rfl
     | cons i r =>
       have hi:i∈Region.ready .any ops D:=by rw [hr];simp
       have hlt:=cZ hi
       have ho:ops[i]?=some ops[i]:=Array.getElem?_eq_getElem hlt
       have:=cK h.size hlt ((w9 h.size ho).1 hi).1
       omega
   exact ⟨hr,h.finish pl hr⟩
 | fuel+1,D,pre,rest, σD, σC,s,h,hf=>by
   refine ⟨fun hr=>h.finish pl hr,fun i hi=>?_⟩
   obtain ⟨pre,rest, σC,h,Vx⟩:=nU.advance pl rest pre σC h
   have hlt:=cZ hi
   have ho:ops[i]?=some ops[i]:=Array.getElem?_eq_getElem hlt
   generalize ops[i]=o at ho
   obtain ⟨hnd,rz⟩:=(w9 h.size ho).1 hi
   have tC:=pl.nV h.closed i o ho rz
   have hsz:i<D.size:=by rw [h.size];exact hlt
   have hset:∀ j,dn (D.setIfInBounds i true) j↔(j=i∨dn D j):=fun j=>tY hsz
   have hleft:left ops (D.setIfInBounds i true)≤fuel:=by have:=cK h.size hlt hnd;omega
   have hclosed:Closed ops (D.setIfInBounds i true):=by
     intro j o' ho' hj e he hb
     rcases (hset j).1 hj with rfl | hj
     · rw [ho] at ho'; cases ho'
       exact (hset _).2 (.inr (rz e he hb))
     · exact (hset _).2 (.inr (h.closed j o' ho' hj e he hb))
   have hsame:yM σC σD (o.looksAt ops):=by
     intro t ht
     refine (h.agree t fun p hp hd o' ho' e=>hd ?_).symm
     exact tC p (pl.look p i o' o ho' ho (h.hpre p hp hd).1 t e ht)
   have hrel:=h.rel pl
   unfold nJ
   rw [ho]
   simp only
   have hmem:i∈pre∨i∈rest:=by
     have:=(pl.all i).1 hlt
     rw [h.split] at this
     simpa using this
   -- in what is still to come only the head can be done now
   have hhead:i∈rest→∃ t,rest=i::t∧jr F i=true:=by
     intro hir
     rcases Vx with rfl | ⟨x,t,rfl,hx⟩
     · cases hir
     · rcases List.mem_cons.1 hir with rfl | hit
       · exact ⟨t,rfl,hx⟩
       · have := (List.pairwise_cons.1 hrel.2).1 i hit
         exact (h.hrest x (by simp) (tC x (this.2 hx))).elim
   by_cases Xe:i∈pre
   · obtain ⟨he, hst⟩ := h.hpre i Xe hnd
     have hnr:i ∉ rest:=fun hr=>((hrel.1 i Xe i hr).2.2 rfl).elim
     have next:∀ v,KT σC o.dst v→Xc P N ops K fuel (D.setIfInBounds i true) (kP σD o.dst v) s:=by
       intro v hv
       refine Xm pl fuel _ pre rest _ σC s ⟨by simp [h.size],hclosed,h.split,fun j hj hd=>?_,fun p hp hd=>h.hpre p hp fun hd'=>hd ((hset p).2 (.inr hd')),fun d hd=>?_,h.walk⟩ hleft
       · rcases (hset j).1 hd with rfl | hd
         · exact hnr hj
         · exact h.hrest j hj hd
       · by_cases e : o.dst = some d
         · rw [e] at hv ⊢
           rw [jZ]
           exact hv.symm
         · rw [xP e]
           refine h.agree d fun p hp hd' o' ho'=>?_
           by_cases epi:p=i
           · subst epi;rw [ho] at ho';cases ho';exact e
           · exact hd p hp (fun x=>((hset p).1 x).elim epi hd') o' ho'
     unfold Vy at hst
     rw [ho] at hst
     simp only at hst
     refine ⟨pl.LH i o ho,?_⟩
     rw [← je hsame]
     split at hst
     · rename_i e; rw [e]
       obtain ⟨v,hv,hat⟩:=hst
       exact hv.congr hsame _ (next v hat)
     · rename_i e;rw [e];exact next _ hst
     · exact hst.elim
   · have hir : i ∈ rest := hmem.resolve_left Xe
     obtain ⟨t,rfl,he⟩:=hhead hir
     have hw:=h.walk
     unfold Wd at hw
     rw [ho] at hw
     simp only [he] at hw
     refine fP hw hsame fun v s' hk=>?_
     obtain ⟨hk1,hk2⟩:=hk
     have hnt:i ∉ t:=by
       have h2:=pl.nodup
       rw [h.split,List.nodup_append] at h2
       exact (List.nodup_cons.1 h2.2.1).1
     refine Xm pl fuel _ (i::pre) t _ (kP σC o.dst v) s' ⟨by simp [h.size],hclosed,by rw [h.split];simp,fun j hj hd=>?_,fun p hp hd=>?_,fun d hd=>?_,hk2⟩ hleft
     · rcases (hset j).1 hd with rfl | hd
       · exact hnt hj
       · exact h.hrest j (by simp [hj]) hd
     · rcases List.mem_cons.1 hp with rfl | hp
       · exact (hd ((hset p).2 (.inl rfl))).elim
       · have hd' : ¬ dn D p := fun x => hd ((hset p).2 (.inr x))
         have hpe:=(h.hpre p hp hd').1
         refine ⟨hpe,hk1.get p ?_⟩
         unfold floats
         simp only [List.mem_filter,Bool.and_eq_true,Bool.not_eq_true',hpe,List.contains_eq_mem,decide_eq_false_iff_not,true_and]
         exact ⟨hp,fun x=>hd' (tC p x)⟩
     · by_cases e : o.dst = some d
       · rw [e,jZ,jZ]
       · rw [xP e, xP e]
         refine h.agree d fun p hp hd' o' ho'=>hd p (by simp [hp]) (fun x=>((hset p).1 x).elim (fun y=>Xe (y ▸ hp)) hd') o' ho'
end
theorem wY.D7 {P:Program} {N id:Nat} {ops:Array Oper} {Q:Exit→Fr→S→Prop} {σ : Fr} {s:S} (order F:List Nat) (A:List (List Nat)) (hm:P.follows .mixedOrders=true) (hp:Wj N ops order F A=true)
   (h:Wd P N ops F A (Q .normal) [] order σ s):wY P N (.region id ops true) Q σ s:=by
 refine wY.drawn hm (Xm (Vk hp) _ _ [] order σ σ s ⟨by simp,fun i o ho hd=>?_,by simp,fun i hi hd=>?_,by simp,fun d _=>rfl,h⟩ ?_)
 · unfold dn at hd
   by_cases hi:i<ops.size <;> simp [Array.getD_eq_getD_getElem?,hi] at hd
 · unfold dn at hd
   by_cases hi:i<ops.size <;> simp [Array.getD_eq_getD_getElem?,hi] at hd
 · unfold left
   exact Nat.le_trans (List.length_filter_le _ _) (by simp)
variable {P:Program} {N:Nat} {ops:Array Oper} {K:Kn→S→Prop} {L:Kn} {s:S} {xs ys:List Own} {tt:BT} {F:List Nat} {A:List (List Nat)} {pre rest:List Nat}
variable {d:Nat} {ty:TypeId} {p:String} {a:Array Edge}
structure zA (P:Program) (N:Nat) (ops:Array Oper) (F:List Nat) (A:List (List Nat)) (K:Kn→S→Prop) (pre rest:List Nat) (L:Kn) (s:S):Prop where
 run:∀ σ,At L σ → Wd P N ops F A (fun σ' s'=>∃ L',At L' σ'∧K L' s') pre rest σ s
structure zk (P:Program) (op:Op) (L:Kn) (s:S) (v:V):Prop where
 run:∀ σ,At L σ → ∀ (dst:Option Nat) (ty:TypeId) (p:String) (a:Array Edge) (g:Option (Nat × Bool)),Xl P ⟨dst,op,ty,p,a,g⟩ σ s v
theorem zk.of {op:Op} {v:V} (h:∀ σ,At L σ → ∀ (dst:Option Nat) (ty:TypeId) (p:String) (a:Array Edge) (g:Option (Nat × Bool)),vU P ⟨dst,op,ty,p,a,g⟩ σ s=some (v,s)):zk P op L s v :=
 ⟨fun σ hσ dst ty p a g _ hk=>dL (h σ hσ dst ty p a g) hk⟩
theorem zk.ev (ht:tt.ok P) {op:Op} {v:V} (h:Go.Proofs.YtolhegocbkckdaaGreat.ev tt L op=some v):zk P op L s v := .of fun _ hσ dst ty p a g=>CX ht hσ h dst ty p a g s
theorem zk.zm (ht:tt.ok P) {T:TypeId} {t:Ty} {x:Operand} {k off:Nat} {cs:List V} {v:V} (hx:jf L x=some (.ptr (s.next+k) off)) (hv:kK xs k=some (.var cs)) (hT:tt.get T=some t)
   (hr:gq cs off t.size t.agg=some v):zk P (.load T x) L (s.ext xs) v :=
 .of fun σ hσ _ _ _ _ _=>by simp only [vU,qd hσ hx,eF,ht.get hT,tO hv,aD hr,Option.bind_some,Option.map_some]
theorem zk.Zx (ht:tt.ok P) {T:TypeId} {t:Ty} {x:Operand} {k off:Nat} {cs:List V} {v:V} (hx:jf L x=some (.ptr k off)) (hlt:k<s.next) (hv:s.vars k=some cs) (hT:tt.get T=some t)
   (hr:gq cs off t.size t.agg=some v):zk P (.load T x) L (s.ext xs) v :=
 .of fun σ hσ _ _ _ _ _=>by simp only [vU,qd hσ hx,eF,ht.get hT,kg _ _ hlt,hv,aD hr,Option.bind_some,Option.map_some]
theorem zk.idx (ht:tt.ok P) {T e:TypeId} {t te:Ty} {x i:Operand} {id j:Nat} {k:IntKind} {us:List V} {y:V} {cs:List V} (hx:jf L x=some (.sl id us)) (hi:jf L i=some (.int k (j:Int))) (hT:tt.get T=some t) (hkd:t.kd = .slice e)
   (hte:tt.get e=some te) (hj:us[j]?=some y) (hc:yt y=some cs) (hn:Nat.beq cs.length te.size=true):zk P (.indexAddr T x i) L s (.xG cs 0) :=
 .of fun σ hσ _ _ _ _ _=>by
   simp only [vU,qd hσ hx,qd hσ hi,wu,ht.get hT,hkd,ht.get hte,Option.bind_some]
   rw [if_pos (Int.natCast_nonneg j),Int.toNat_natCast,hj]
   simp only [Option.bind_some,vG hc,Nat.eq_of_beq_eq_true hn,if_true,Option.map_some]
theorem zk.UZ (ht:tt.ok P) {T e:TypeId} {t te:Ty} {x i:Operand} {id:Nat} {n:Int} {k:IntKind} {us:List V} {y:V} {cs:List V} (hx:jf L x=some (.sl id us)) (hi:jf L i=some (.int k n)) (hT:tt.get T=some t) (hkd:t.kd = .slice e)
   (hte:tt.get e=some te) (h0:0≤n) (hj:us[n.toNat]?=some y) (hc:yt y=some cs) (hn:Nat.beq cs.length te.size=true):zk P (.indexAddr T x i) L s (.xG cs 0) :=
 .of fun σ hσ _ _ _ _ _=>by
   simp only [vU,qd hσ hx,qd hσ hi,wu,ht.get hT,hkd,ht.get hte,Option.bind_some]
   rw [if_pos h0,hj]
   simp only [Option.bind_some,vG hc,Nat.eq_of_beq_eq_true hn,if_true,Option.map_some]
theorem zk.F4 (ht:tt.ok P) {T e:TypeId} {t te:Ty} {x i:Operand} {ex:Cp} {b off len j:Nat} {k:IntKind} (hx:jf L x=some (.qJ ex b off len)) (hi:jf L i=some (.int k (j:Int))) (hT:tt.get T=some t) (hkd:t.kd = .slice e)
   (hte:tt.get e=some te) (hj:j<len):zk P (.indexAddr T x i) L s (.ptr b (off+j*te.size)) :=
 .of fun σ hσ _ _ _ _ _=>by
   simp only [vU,qd hσ hx,qd hσ hi,wu,ht.get hT,hkd,ht.get hte,Option.bind_some]
   rw [if_pos ⟨Int.natCast_nonneg j,by omega⟩,Int.toNat_natCast]
   rfl
theorem zk.slc {T:TypeId} {x:Operand} {lo hi mx:Option Operand} {xv v:V} {lo' hi' mx':Option V} (hx:jf L x=some xv) (h1:YU L lo=some lo') (h2:YU L hi=some hi') (h3:YU L mx=some mx') (hv:oM P T xv lo' hi' mx'=some v) :
   zk P (.slice T x lo hi mx) L s v :=
 .of fun σ hσ _ _ _ _ _=>by simp only [vU,qd hσ hx,Xi hσ h1,Xi hσ h2,Xi hσ h3,hv,Option.bind_some,Option.map_some]
theorem zk.cat {T U:TypeId} {x y:Operand} {u w:List UInt8} (hx:jf L x=some (.str u)) (hy:jf L y=some (.str w)) (hb:u.length+w.length≤maxLen):zk P (.binOp .add T x y U) L s (.str (u++w)) :=
 .of fun σ hσ _ _ _ _ _=>by simp only [vU,qd hσ hx,qd hσ hy,aJ,sN,Option.bind_some];rw [if_pos hb];rfl
theorem zk.ze {f:Operand} {g:FuncId} {args:Array Operand} {B:Array TypeId} {caps vs ws:List V} {v:V} (hf:jf L f=some (.fn g caps)) (ha:uE L args.toList=some vs) (hap:Z4 vs caps=some ws) (hok:zW P g)
   (hc:VCalls P g ws s (fun r s'=>r=v∧s'=s)):zk P (.call ⟨.value f,args,B⟩) L s v:=by
 refine ⟨fun σ hσ dst ty p a gd K hk=>?_⟩
 refine .inl ?_
 simp only [rE,qd hσ hf,iK hσ ha,p8]
 refine ⟨hok.h,?_⟩
 rw [← su hap]
 exact hc.mono fun r s' hr=>by obtain ⟨rfl,rfl⟩:=hr;exact hk
theorem WL.drawn {id:Nat} {Q:Exit→Kn→S→Prop} (order F:List Nat) (A:List (List Nat)) (hm:P.follows .mixedOrders=true) (hp:Wj N ops order F A=true) (h:zA P N ops F A (Q .normal) [] order L s):WL P N (.region id ops true) Q L s :=
 ⟨fun σ hσ => wY.D7 order F A hm hp (h.run σ hσ)⟩
theorem zA.nil (h:K L s):zA P N ops F A K pre [] L s:=⟨fun _ hσ => ⟨L,hσ,h⟩⟩
theorem u6 {i:Nat} {o:Oper} (h:kK ops.toList i=some o):ops[i]?=some o:=by
 have:=kF h
 rwa [Array.getElem?_toList] at this
theorem zA.fl {i:Nat} {op:Op} {v:V} (ho:kK ops.toList i=some ⟨some d,op,ty,p,a,none⟩) (he:jr F i=false) (h:zk P op L s v) (hk:zA P N ops F A K (i::pre) rest ((d,v)::L) s):zA P N ops F A K pre (i::rest) L s:=by
 refine ⟨fun σ hσ => ?_⟩
 simp only [Wd,u6 ho,he,xA]
 exact ⟨v,h.run σ hσ _ _ _ _ _,hk.run _ (hσ.cons d v)⟩
theorem zA.gT {i j e:Nat} {w b:Bool} {op:Op} {v:V} (ho:kK ops.toList i=some ⟨some d,op,ty,p,a,some (j,w)⟩) (he:jr F i=false) (hj:gslot ops.toList j=some e) (hb:lk L e=some (.bool b)) (hw:(b == w)=true) (h:zk P op L s v)
   (hk:zA P N ops F A K (i::pre) rest ((d,v)::L) s):zA P N ops F A K pre (i::rest) L s:=by
 refine ⟨fun σ hσ => ?_⟩
 simp only [Wd,u6 ho,he,xA,aF hj,hσ e _ hb,hw]
 exact ⟨v,h.run σ hσ _ _ _ _ _,hk.run _ (hσ.cons d v)⟩
theorem zA.gF {i j e:Nat} {w b:Bool} {op:Op} (ho:kK ops.toList i=some ⟨some d,op,ty,p,a,some (j,w)⟩) (he:jr F i=false) (hj:gslot ops.toList j=some e) (hb:lk L e=some (.bool b)) (hw:(b == w)=false)
   (hk:zA P N ops F A K (i::pre) rest ((d,.und)::L) s):zA P N ops F A K pre (i::rest) L s:=by
 refine ⟨fun σ hσ => ?_⟩
 simp only [Wd,u6 ho,he,xA,aF hj,hσ e _ hb,hw]
 exact hk.run _ (hσ.cons d .und)
theorem zA.gC {i j e:Nat} {w b:Bool} {o:Oper} (_:kK ops.toList i=some o) (_:o.guard=some (j,w)) (_:gslot ops.toList j=some e) (hb:lk L e=some (.bool b))
   (hT:b=true→zA P N ops F A K pre (i::rest) ((e,.bool true)::L) s) (hF:b=false→zA P N ops F A K pre (i::rest) ((e,.bool false)::L) s):zA P N ops F A K pre (i::rest) L s:=by
 refine ⟨fun σ hσ => ?_⟩
 cases b
 · exact (hF rfl).run σ (hσ.shadow hb)
 · exact (hT rfl).run σ (hσ.shadow hb)
structure jG (P:Program) (ops:Array Oper) (q:Nat) (L:Kn) (s:S):Prop where
 run:∀ σ,At L σ → Vy P ops q σ s
inductive xR (P:Program) (ops:Array Oper) (L:Kn) (s:S):List Nat→Prop
 | nil:xR P ops L s []
 | cons {q:Nat} {l:List Nat}:jG P ops q L s→xR P ops L s l→xR P ops L s (q::l)
theorem xR.run {l:List Nat} (h:xR P ops L s l) {σ : Fr} (hσ : At L σ):Z6 P ops σ s l:=by
 induction h with
 | nil=>trivial
 | cons h _ ih=>exact ⟨h.run σ hσ,ih⟩
theorem jG.fl {q:Nat} {op:Op} {v:V} (ho:kK ops.toList q=some ⟨some d,op,ty,p,a,none⟩) (hd:lk L d=some v) (h:zk P op L s v):jG P ops q L s:=by
 refine ⟨fun σ hσ => ?_⟩
 simp only [Vy,u6 ho,xA,KT]
 exact ⟨v,h.run σ hσ _ _ _ _ _,hσ d v hd⟩
theorem jG.gT {q j e:Nat} {w b:Bool} {op:Op} {v:V} (ho:kK ops.toList q=some ⟨some d,op,ty,p,a,some (j,w)⟩) (hj:gslot ops.toList j=some e) (hb:lk L e=some (.bool b)) (hw:(b == w)=true) (hd:lk L d=some v) (h:zk P op L s v):jG P ops q L s:=by
 refine ⟨fun σ hσ => ?_⟩
 simp only [Vy,u6 ho,xA,aF hj,hσ e _ hb,hw,KT]
 exact ⟨v,h.run σ hσ _ _ _ _ _,hσ d v hd⟩
theorem jG.gF {q j e:Nat} {w b:Bool} {op:Op} (ho:kK ops.toList q=some ⟨some d,op,ty,p,a,some (j,w)⟩) (hj:gslot ops.toList j=some e) (hb:lk L e=some (.bool b)) (hw:(b == w)=false) (hd:lk L d=some .und):jG P ops q L s:=by
 refine ⟨fun σ hσ => ?_⟩
 simp only [Vy,u6 ho,xA,aF hj,hσ e _ hb,hw,KT]
 exact hσ d _ hd
theorem zA.iY {i:Nat} {o:Oper} (ho:kK ops.toList i=some o) (he:jr F i=true) (hd:aW N o=true) (h:zq P N ops [o] (fun L' s'=>xR P ops L' s' (floats F A pre i)∧zA P N ops F A K (i::pre) rest L' s') L s):zA P N ops F A K pre (i::rest) L s:=by
 refine ⟨fun σ hσ => ?_⟩
 simp only [Wd,u6 ho,he]
 have h1:=h.run (by simp only [List.all_cons,List.all_nil,hd,Bool.and_self]) σ hσ
 obtain ⟨h2,h3⟩:=h1
 refine ⟨h2,?_⟩
 have key:∀ σ' s',Xa P N ops [] (fun σ' s'=>∃ L',At L' σ'∧(xR P ops L' s' (floats F A pre i)∧zA P N ops F A K (i::pre) rest L' s')) σ' s'→Z6 P ops σ' s' (floats F A pre i)∧Wd P N ops F A (fun σ' s'=>∃ L',At L' σ'∧K L' s') (i::pre) rest σ' s':=by
   rintro σ' s' ⟨L',hat,hst,hw⟩
   exact ⟨hst.run hat,hw.run _ hat⟩
 split at h3
 · rename_i e
   rcases h3 with h3 | ⟨vs,R,hvs,hdo,hkk⟩
   case inr=>exact .inr ⟨vs,R,hvs,hdo,fun v s' hR=>key _ _ (hkk v s' hR)⟩
   refine .inl ?_
   unfold rE at h3 ⊢
   split at h3
   · rename_i e2
     unfold p8 at h3 ⊢
     split at h3
     · exact ⟨h3.1,h3.2.mono fun _ _ hk=>key _ _ hk⟩
     · exact h3.elim
   · rcases h3 with ⟨v, s', hv, hk⟩ | ⟨ps, v, hps, hv, hk⟩
     · exact .inl ⟨v,s',hv,key _ _ hk⟩
     · exact .inr ⟨ps,v,hps,hv,key _ _ hk⟩
   · rcases h3 with ⟨v, s', hv, hk⟩ | ⟨x, y, v, hx, hy, hv, hk⟩
     · exact .inl ⟨v,s',hv,key _ _ hk⟩
     · exact .inr ⟨x,y,v,hx,hy,hv,key _ _ hk⟩
   · split at h3
     · exact key _ _ h3
     · exact h3.elim
 · exact key _ _ h3
 · exact h3.elim
end Go.Proofs.YtolhegocbkckdaaGreat
namespace Go.Proofs.YtolhegocbkckdaaGreat
open Go
variable {P:Program} {N:Nat} {ops:Array Oper} {l:List Oper} {K:Kn→S→Prop} {L:Kn} {s:S} {xs ys:List Own} {tt:BT}
variable {d:Nat} {ty:TypeId} {p:String} {a:Array Edge}
theorem qz.mk {A L:Kn} {k:Nat} {v w:V} (h:lk L k=some w) (e:w=v) (r:qz A L):qz ((k,v)::A) L:=⟨by rw [h,e],r⟩
theorem qz.nil {L:Kn}:qz [] L:=trivial
theorem qB.of {α : Type} {M : α → Nat} {LI : α → Kn} {XI : α → List Own} {I : α → Prop} {x : α} {Q:Exit→Kn→S→Prop} {ws:List Own} (y : α) (hI:I y) (hM:M y<M x) (hL:qz (LI y) L) (hX:ws.take (XI y).length=XI y) :
   qB M LI XI I s x Q .normal L (s.ext ws) :=
 ⟨⟨y,ws.drop (XI y).length,hI,hM,hL,by
   have h:=List.take_append_drop (XI y).length ws
   rw [hX] at h
   rw [h]⟩⟩
theorem LP {α : Type} {M : α → Nat} {LI : α → Kn} {SI : α → S} {I : α → Prop} {x : α} {Q:Exit→Kn→S→Prop} (h:Q .ret L s):CK M LI SI I x Q .ret L s:=⟨h⟩
theorem L6 {α : Type} {M : α → Nat} {LI : α → Kn} {SI : α → S} {I : α → Prop} {x : α} {Q:Exit→Kn→S→Prop} {i:Nat} (h:Q (.exit i) L s):CK M LI SI I x Q (.exit i) L s:=⟨h⟩
theorem qH {α : Type} {M : α → Nat} {LI : α → Kn} {XI : α → List Own} {I : α → Prop} {s0:S} {x : α} {Q:Exit→Kn→S→Prop} (h:Q .ret L s):qB M LI XI I s0 x Q .ret L s:=⟨h⟩
theorem zL {α : Type} {M : α → Nat} {LI : α → Kn} {XI : α → List Own} {I : α → Prop} {s0:S} {x : α} {Q:Exit→Kn→S→Prop} {i:Nat} (h:Q (.exit i) L s):qB M LI XI I s0 x Q (.exit i) L s:=⟨h⟩
@[simp] theorem CV {α : Type} {f : α → V} (h:∀ x,(f x).forget=f x) (l:List α):V.qE (l.map f)=l.map f:=by
 rw [V.xL,List.map_map]
 exact List.map_congr_left fun x _=>h x
@[simp] theorem UQ {α : Type} {f : α → V} (h:∀ x,(f x).forget=f x) (l:List α):(l.map f).map V.forget=l.map f:=by
 rw [List.map_map]
 exact List.map_congr_left fun x _=>h x
@[simp] theorem UK {α : Type} {f : α → V} (h:∀ x,(f x).dat=true) (l:List α):V.mo (l.map f)=true:=by
 rw [V.uz,List.all_map,List.all_eq_true]
 exact fun x _=>h x
@[simp] theorem Vu {α : Type} {f : α → V} (h:∀ x,(f x).dat=true) (n:Nat) (l:List α):V.zO n (l.map f)=true:=yO (UK h l)
theorem Xn {n:Nat} {l:List V} (h:V.zO n l=true) (i:Nat):V.zO n (l.take i)=true:=by
 rw [V.xB,List.all_eq_true] at h ⊢
 exact fun v hv=>h v (List.mem_of_mem_take hv)
@[simp] theorem Ux {α : Type} {f : α → V} (h:∀ x,(f x).dat=true) (n i:Nat) (l:List α):V.zO n ((l.map f).take i)=true:=Xn (Vu h n l) i
def iV (n:Int):V := .int .i64 n
def sV (b:List UInt8):V := .str b
@[simp] theorem M6 (n:Int):(iV n).dat=true:=by simp [iV]
@[simp] theorem M7 (b:List UInt8):(sV b).dat=true:=by simp [sV]
@[simp] theorem ET (n:Int):(iV n).forget=iV n:=by simp [iV]
@[simp] theorem E5 (b:List UInt8):(sV b).forget=sV b:=by simp [sV]
theorem Bu (l:List V) (n:Nat):V.qE (l.take n)=(V.qE l).take n:=by
 rw [V.xL,V.xL,List.map_take]
theorem get_map {α : Type} {f : α → V} {l:List α} {i:Nat} (h:i<l.length):(l.map f)[i]?=some (f l[i]):=by simp [h]
theorem M8 {α : Type} {f : α → V} {l:List α} {i:Nat} (h:i<l.length):decide ((i:Int)<((l.map f).length:Int))=true:=by simp [h]
theorem M9 {α : Type} {f : α → V} {l:List α} {i:Nat} (h:¬ i<l.length):decide ((i:Int)<((l.map f).length:Int))=false:=by simp;omega
def In64 (n:Int):Prop := -9223372036854775808≤n∧n≤9223372036854775807
theorem Xo {n:Int} (h:In64 n):IntKind.i64.wrap n=n:=by rw [IntKind.wrap_i64];unfold In64 at h;omega
theorem zk.add {T U:TypeId} {x y:Operand} {m n:Int} (hx:jf L x=some (.int .i64 m)) (hy:jf L y=some (.int .i64 n)) (h:In64 (m+n)):zk P (.binOp .add T x y U) L s (.int .i64 (m+n)) :=
 .of fun σ hσ _ _ _ _ _=>by simp only [vU,qd hσ hx,qd hσ hy,aJ,rC,Option.bind_some,if_true,Xo h,Option.map_some]
theorem zk.sub {T U:TypeId} {x y:Operand} {m n:Int} (hx:jf L x=some (.int .i64 m)) (hy:jf L y=some (.int .i64 n)) (h:In64 (m - n)):zk P (.binOp .sub T x y U) L s (.int .i64 (m - n)) :=
 .of fun σ hσ _ _ _ _ _=>by simp only [vU,qd hσ hx,qd hσ hy,aJ,rC,Option.bind_some,if_true,Xo h,Option.map_some]
theorem zk.mul {T U:TypeId} {x y:Operand} {m n:Int} (hx:jf L x=some (.int .i64 m)) (hy:jf L y=some (.int .i64 n)) (h:In64 (m*n)):zk P (.binOp .mul T x y U) L s (.int .i64 (m*n)) :=
 .of fun σ hσ _ _ _ _ _=>by simp only [vU,qd hσ hx,qd hσ hy,aJ,rC,Option.bind_some,if_true,Xo h,Option.map_some]
def Pq (op:BinOp) (k:IntKind) (m n:Int):Option V:=match op with
 | .add=>some (.int k (k.wrap (m+n)))
 | .sub=>some (.int k (k.wrap (m - n)))
 | .mul=>some (.int k (k.wrap (m*n)))
 | _=>none
theorem zk.arith {op:BinOp} {T U:TypeId} {x y:Operand} {k:IntKind} {m n:Int} {v:V} (hx:jf L x=some (.int k m)) (hy:jf L y=some (.int k n)) (h:Pq op k m n=some v):zk P (.binOp op T x y U) L s v :=
 .of fun σ hσ _ _ _ _ _=>by
   unfold Pq at h
   split at h
   all_goals first
     | cases h;simp only [vU,qd hσ hx,qd hσ hy,aJ,rC,Option.bind_some,if_true,Option.map_some]
     | cases h
theorem zk.rH (ht:tt.ok P) {zs:List V} {T e:TypeId} {t:Ty} {x:Operand} {id:Nat} (hx:jf L x=some (.sl id zs)) (hT:tt.get T=some t) (hkd:t.kd = .slice e) :
   zk P (.call ⟨.builtin .len, #[x], #[T]⟩) L s (.int .i64 zs.length) :=
 .of fun σ hσ _ _ _ _ _=>by simp only [vU,uh,qd hσ hx,j3,JM,ht.get hT,hkd,Option.bind_some,Option.map_some]
theorem zk.z8 (ht:tt.ok P) {α : Type} {f : α → V} {zs:List α} {T e:TypeId} {t:Ty} {x:Operand} {id:Nat} (hx:jf L x=some (.sl id (zs.map f))) (hT:tt.get T=some t) (hkd:t.kd = .slice e) :
   zk P (.call ⟨.builtin .len, #[x], #[T]⟩) L s (.int .i64 zs.length) :=
 .of fun σ hσ _ _ _ _ _=>by simp only [vU,uh,qd hσ hx,j3,JM,ht.get hT,hkd,Option.bind_some,Option.map_some,List.length_map]
theorem zk.yZ (ht:tt.ok P) {α : Type} {f : α → V} {zs:List α} {T e:TypeId} {t te:Ty} {x i:Operand} {id j:Nat} {k:IntKind} {cs:List V} (hx:jf L x=some (.sl id (zs.map f))) (hi:jf L i=some (.int k (j:Int))) (hT:tt.get T=some t) (hkd:t.kd = .slice e)
   (hte:tt.get e=some te) (hj:j<zs.length) (hc:yt (f zs[j])=some cs) (hn:Nat.beq cs.length te.size=true):zk P (.indexAddr T x i) L s (.xG cs 0) := .idx ht hx hi hT hkd hte (get_map hj) hc hn
theorem zq.ans {op:Op} {v:V} (h:zk P op L s v) (hk:zq P N ops l K ((d,v)::L) s):zq P N ops (⟨some d,op,ty,p,a,none⟩::l) K L s:=by
 refine ⟨fun hd σ hσ => ?_⟩
 simp only [List.all_cons,Bool.and_eq_true] at hd
 refine ⟨hd.1,?_⟩
 simp only [xA]
 exact h.run σ hσ _ _ _ _ _ _ (hk.run hd.2 _ (hσ.cons d v))
structure Rz (s:S) (d:V) (v:V) (s':S):Prop where
 ex:∃ k n sz agg us xs,v = .qJ .eq (s.next+k) 0 n∧s'=s.ext xs∧xs[k]?=some (.var (V.flat us))∧us.length=n∧0<sz∧(∀ u∈us,u.cells.length=sz)∧(∀ u∈us,u.fits agg=true)∧(agg=false→sz=1)∧V.forget (.sl 0 us)=d
def D8 (w:Nat) (left:Int):Int:=if left - w<0 then -1 else left - w
theorem L8 {w:Nat} {left:Int} (h:left - w<0):D8 w left = -1:=by rw [D8,if_pos h]
theorem L9 {w:Nat} {left:Int} (h:¬ left - w<0):D8 w left=left - w:=by rw [D8,if_neg h]
theorem Nz {w:Nat} {left:Int} (h:0≤D8 w left):(w:Int)≤left:=by
 unfold D8 at h
 split at h <;> omega
theorem F6 {i n k:Nat} (h:i<n):0+i*k+k≤n*k:=by
 have:(i+1)*k≤n*k:=Nat.mul_le_mul_right _ h
 rw [Nat.add_mul] at this
 omega
theorem AV {n:Nat} {a b:List V} (ha:V.zO n a=true) (hb:V.zO n b=true):V.zO n (a++b)=true:=by
 rw [V.xB] at *
 rw [List.all_append,ha,hb];rfl
end Go.Proofs.YtolhegocbkckdaaGreat
namespace Go.Proofs.YtolhegocbkckdaaGreat
open Go
variable {P:Program} {N:Nat} {ops:Array Oper} {l:List Oper} {K:Kn→S→Prop} {L:Kn} {s:S} {xs ys:List Own} {tt:BT} {F:List Nat} {A:List (List Nat)} {pre rest:List Nat}
variable {dst:Option Nat} {d:Nat} {op:Op} {ty:TypeId} {p:String} {a:Array Edge} {Q:Exit→Kn→S→Prop} {c:Code} {v:V}
theorem zf (h:zq P N ops l K L s):zq P N ops l K L s:=h
theorem zH (h:WL P N c Q L s):WL P N c Q L s:=h
theorem vN (h:zA P N ops F A K pre rest L s):zA P N ops F A K pre rest L s:=h
theorem zu {x:Operand} {e:Code} (h:WL P N (.cond x c e) Q L s):WL P N (.cond x c e) Q L s:=h
theorem kG {g:Nat × Bool} (h:zq P N ops (⟨dst,op,ty,p,a,some g⟩::l) K L s):zq P N ops (⟨dst,op,ty,p,a,some g⟩::l) K L s:=h
theorem kN (h:zq P N ops (⟨none,op,ty,p,a,none⟩::l) K L s):zq P N ops (⟨none,op,ty,p,a,none⟩::l) K L s:=h
theorem kA (h:zq P N ops (⟨some d,op,ty,p,a,none⟩::l) K L s):zq P N ops (⟨some d,op,ty,p,a,none⟩::l) K L s:=h
theorem zU {T:TypeId} {x y:Operand} (h:zq P N ops (⟨none,.store T x y,ty,p,a,none⟩::l) K L s):zq P N ops (⟨none,.store T x y,ty,p,a,none⟩::l) K L s:=h
theorem qW {T:TypeId} {x:Operand} (h:zq P N ops (⟨some d,.box T x,ty,p,a,none⟩::l) K L s):zq P N ops (⟨some d,.box T x,ty,p,a,none⟩::l) K L s:=h
theorem qj {T:TypeId} (h:zq P N ops (⟨some d,.alloc T,ty,p,a,none⟩::l) K L s):zq P N ops (⟨some d,.alloc T,ty,p,a,none⟩::l) K L s:=h
theorem kZ {T:TypeId} {n:Nat} {ps:Array (Nat × Operand)} (h:zq P N ops (⟨some d,.buildSlice T n ps,ty,p,a,none⟩::l) K L s):zq P N ops (⟨some d,.buildSlice T n ps,ty,p,a,none⟩::l) K L s:=h
theorem Px {T:TypeId} {x y:Operand} (h:zq P N ops (⟨some d,.makeSlice T x y,ty,p,a,none⟩::l) K L s):zq P N ops (⟨some d,.makeSlice T x y,ty,p,a,none⟩::l) K L s:=h
theorem ji {x y:Operand} {B:Array TypeId} (h:zq P N ops (⟨some d,.call ⟨.builtin .append, #[x,y],B⟩,ty,p,a,none⟩::l) K L s):zq P N ops (⟨some d,.call ⟨.builtin .append, #[x,y],B⟩,ty,p,a,none⟩::l) K L s:=h
theorem zo {T:TypeId} {x:Operand} (h:zq P N ops (⟨some d,.load T x,ty,p,a,none⟩::l) K L s):zq P N ops (⟨some d,.load T x,ty,p,a,none⟩::l) K L s:=h
theorem qo {T:TypeId} {x:Operand} {i:Nat} {g:Option (Nat × Bool)} (_:kK ops.toList i=some ⟨some d,.load T x,ty,p,a,g⟩) (h:zA P N ops F A K pre (i::rest) L s):zA P N ops F A K pre (i::rest) L s:=h
theorem qx {x:Operand} {B:Array TypeId} (h:zq P N ops (⟨some d,.call ⟨.builtin .len, #[x],B⟩,ty,p,a,none⟩::l) K L s):zq P N ops (⟨some d,.call ⟨.builtin .len, #[x],B⟩,ty,p,a,none⟩::l) K L s:=h
theorem uM {x:Operand} {B:Array TypeId} {i:Nat} {g:Option (Nat × Bool)} (_:kK ops.toList i=some ⟨some d,.call ⟨.builtin .len, #[x],B⟩,ty,p,a,g⟩) (h:zA P N ops F A K pre (i::rest) L s):zA P N ops F A K pre (i::rest) L s:=h
theorem xk {o:BinOp} {T U:TypeId} {x y:Operand} (h:zq P N ops (⟨some d,.binOp o T x y U,ty,p,a,none⟩::l) K L s):zq P N ops (⟨some d,.binOp o T x y U,ty,p,a,none⟩::l) K L s:=h
theorem yj {o:BinOp} {T U:TypeId} {x y:Operand} {i:Nat} {g:Option (Nat × Bool)} (_:kK ops.toList i=some ⟨some d,.binOp o T x y U,ty,p,a,g⟩) (h:zA P N ops F A K pre (i::rest) L s):zA P N ops F A K pre (i::rest) L s:=h
theorem xw {T:TypeId} {x i:Operand} (h:zq P N ops (⟨some d,.indexAddr T x i,ty,p,a,none⟩::l) K L s):zq P N ops (⟨some d,.indexAddr T x i,ty,p,a,none⟩::l) K L s:=h
theorem kQ {T:TypeId} {x y:Operand} {i:Nat} {g:Option (Nat × Bool)} (_:kK ops.toList i=some ⟨some d,.indexAddr T x y,ty,p,a,g⟩) (h:zA P N ops F A K pre (i::rest) L s):zA P N ops F A K pre (i::rest) L s:=h
theorem Pk {T:TypeId} {x i:Operand} (h:zq P N ops (⟨some d,.index T x i,ty,p,a,none⟩::l) K L s):zq P N ops (⟨some d,.index T x i,ty,p,a,none⟩::l) K L s:=h
theorem Rq {T:TypeId} {x:Operand} {lo hi mx:Option Operand} (h:zq P N ops (⟨some d,.slice T x lo hi mx,ty,p,a,none⟩::l) K L s):zq P N ops (⟨some d,.slice T x lo hi mx,ty,p,a,none⟩::l) K L s:=h
theorem Wh {T:TypeId} {x:Operand} {lo hi mx:Option Operand} {i:Nat} {g:Option (Nat × Bool)} (_:kK ops.toList i=some ⟨some d,.slice T x lo hi mx,ty,p,a,g⟩) (h:zA P N ops F A K pre (i::rest) L s):zA P N ops F A K pre (i::rest) L s:=h
theorem dw {f:Operand} {args:Array Operand} {B:Array TypeId} (h:zq P N ops (⟨some d,.call ⟨.value f,args,B⟩,ty,p,a,none⟩::l) K L s):zq P N ops (⟨some d,.call ⟨.value f,args,B⟩,ty,p,a,none⟩::l) K L s:=h
theorem zy (g:FuncId) {args:Array Operand} {B:Array TypeId} (h:zq P N ops (⟨some d,.call ⟨.value (.func g),args,B⟩,ty,p,a,none⟩::l) K L s):zq P N ops (⟨some d,.call ⟨.value (.func g),args,B⟩,ty,p,a,none⟩::l) K L s:=h
theorem qX (g':FuncId) {args:Array Operand} {B:Array TypeId} {i:Nat} {g:Option (Nat × Bool)} (_:kK ops.toList i=some ⟨some d,.call ⟨.value (.func g'),args,B⟩,ty,p,a,g⟩) (h:zA P N ops F A K pre (i::rest) L s):zA P N ops F A K pre (i::rest) L s:=h
theorem zq.gD {o:Oper} {j e:Nat} {w b:Bool} (c:Bool) (_:o.guard=some (j,w)) (_:gslot ops.toList j=some e) (hb:lk L e=some (.bool b)) (hc:b=c) (h:zq P N ops (o::l) K ((e,.bool c)::L) s):zq P N ops (o::l) K L s:=by
 subst hc
 exact ⟨fun hd σ hσ => h.run hd σ (hσ.shadow hb)⟩
theorem zA.gD {i j e:Nat} {w b:Bool} {o:Oper} (c:Bool) (_:kK ops.toList i=some o) (_:o.guard=some (j,w)) (_:gslot ops.toList j=some e) (hb:lk L e=some (.bool b)) (hc:b=c)
   (h:zA P N ops F A K pre (i::rest) ((e,.bool c)::L) s):zA P N ops F A K pre (i::rest) L s:=by
 subst hc
 exact ⟨fun σ hσ => h.run σ (hσ.shadow hb)⟩
end Go.Proofs.YtolhegocbkckdaaGreat
