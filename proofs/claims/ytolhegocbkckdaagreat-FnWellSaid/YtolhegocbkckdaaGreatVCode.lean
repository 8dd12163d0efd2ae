/-
 The value level's judgements: what an operation, a region, a piece of code and a call do.
 The value level's logic: code, calls, regions in the text's order.
 The value level's rule for a function, and what a result may be taken for.
 Data at the value level: values that lead to no variable and to no slice that may be appended to; calls that only compute.
 States written out: what a function has made of its own behind the state in which it began.
 From the value level to a law's row: the world in which a law is called.
 Own work; no condition.
-/
import Derived.Test.YtolhegocbkckdaaGreatVOp
import Derived.Deep.LoopGhost
namespace Go.Proofs.YtolhegocbkckdaaGreat
open Go
def yh (σ : Nat→V):List (Nat × Operand)→Option (List (Nat × V))
 | []=>some []
 |(i,x)::r=>(yC σ x).bind fun v=>(yh σ r).map ((i,v) :: ·)
def ZT (σ : Nat→V):Option Operand→Option (Option V)
 | none=>some none
 | some x=>(yC σ x).map some
def bS (P:Program) (U T:TypeId) (x:V) (s:S):Option (V × S) :=
 match x with
 | .int _ _=>(sP P U T x).map fun v=>(v,s)
 | .str _=>(xD P T).bind fun t=>match t.kd with
   | .string=>(sP P U T x).map fun v=>(v,s)
   | _=>mR P U T x s
 | _=>(tZ P U T x s).map fun v=>(v,s)
def j3 (P:Program) (b:Builtin) (A:List TypeId) (args:List V) (s:S):Option (V × S) :=
 match b,A,args with
 | .len,[T],[x]=>(JM P T x).map fun v=>(v,s)
 | .append,[T,U],[x,y]=>if U=T then y7 P T x y s else none
 | .max,_,[x,y]=>(Ua x y).map fun v=>(v,s)
 | .min,_,[x,y]=>(Ub x y).map fun v=>(v,s)
 | _,_,_=>none
def vU (P:Program) (o:Oper) (σ : Nat→V) (s:S):Option (V × S) :=
 match o.op with
 | .move x=>(yC σ x).map fun v=>(v,s)
 | .assign x=>(yC σ x).map fun v=>(v,s)
 | .pick c a b=>(yC σ c).bind fun c=>(yC σ a).bind fun a=>(yC σ b).bind fun b=>match c with | .bool c=>some (if c then a else b,s) | _=>none
 | .alloc T=>oG P T s
 | .box _ x=>(yC σ x).map fun v=>(.ptr s.next 0,s.newVar v.cells)
 | .build T parts=>(yh σ parts.toList).bind fun ps=>(oN P T ps).map fun v=>(v,s)
 | .buildSlice T len parts=>(yh σ parts.toList).bind fun ps=>ku P T len ps s
 | .load T x=>(yC σ x).bind fun v=>(eF P T v s).map fun v=>(v,s)
 | .store T a x=>(yC σ a).bind fun a=>(yC σ x).bind fun x=>(lS P T a x s).map fun s'=>(.und,s')
 | .nilCheck x=>(yC σ x).bind fun v=>match v with
   | .ptr l k=>some (.ptr l k,s)
   | .xG cs k=>some (.xG cs k,s)
   | .fn f cs=>some (.fn f cs,s)
   | _=>none
 | .binOp op T x y _=>(yC σ x).bind fun x=>(yC σ y).bind fun y=>(aJ P op T x y).map fun v=>(v,s)
 | .unOp op _ x=>(yC σ x).bind fun x=>(FC op x).map fun v=>(v,s)
 | .convert U T x=>(yC σ x).bind fun x=>bS P U T x s
 | .makeFunc fn first captured=>match fn,first.toList with
   | .func f,[]=>(uh σ captured.toList).map fun cs=>(.fn f cs,s)
   | _,_=>none
 | .makeSlice T l c=>(yC σ l).bind fun l=>(yC σ c).bind fun c=>V8 P T l c s
 | .slice T x lo hi mx=>(yC σ x).bind fun x=>(ZT σ lo).bind fun lo=>(ZT σ hi).bind fun hi=>(ZT σ mx).bind fun mx=>(oM P T x lo hi mx).map fun v=>(v,s)
 | .fieldAddr T x f=>(yC σ x).bind fun x=>(yD P T x f).map fun v=>(v,s)
 | .field T x f=>(yC σ x).bind fun x=>(sS P T x f).map fun v=>(v,s)
 | .indexAddr T x i=>(yC σ x).bind fun x=>(yC σ i).bind fun i=>(wu P T x i).map fun v=>(v,s)
 | .index T x i=>(yC σ x).bind fun x=>(yC σ i).bind fun i=>(Xj P T x i).map fun v=>(v,s)
 | .extract x i=>(yC σ x).bind fun x=>(fF x i).map fun v=>(v,s)
 | .call c=>match c.callee with
   | .builtin b=>(uh σ c.args.toList).bind fun args=>j3 P b c.argTypes.toList args s
   | _=>none
 | _=>none
theorem uP {E:Env} {σ : Nat→V} {N:Nat} {a:Act} (h:yV E σ N a):∀ {ps:List (Nat × Operand)} {vs:List (Nat × V)},yh σ ps=some vs→lT E vs (ps.map fun p=>(p.1,a.eval p.2))
 | [],vs,e=>by cases e;exact .nil
 |(i,x)::r,vs,e=>by
   simp only [yh,Option.bind_eq_some_iff,Option.map_eq_some_iff] at e
   obtain ⟨v,hv,l,hl,rfl⟩:=e
   exact .cons (qM h hv) (uP h hl)
theorem l7 {E:Env} {σ : Nat→V} {N:Nat} {a:Act} (h:yV E σ N a) {x:Option Operand} {v:Option V} (e:ZT σ x=some v):yY E v (x.map a.eval):=by
 cases x with
 | none=>cases e;trivial
 | some x =>
   obtain ⟨w,hw,rfl⟩:=Option.map_eq_some_iff.1 e
   exact qM h hw
def iM (P:Program) (o:Oper) (a:Act) (E:Env) (s:S) (v:V) (s':S):Prop :=
 ∃ val E',((execOp a.eval o).run P E.w = .ok (.value val) E'.w∨((execOp a.eval o).run P E.w = .ok .skip E'.w∧val=undef))∧Step E s E' s'∧xg E' s'∧qy E' v val
theorem iM.of {P:Program} {o:Oper} {a:Act} {E:Env} {s s':S} {v:V} {m:Sem Value} (h:Does P m E s v s') (e:execOp a.eval o=(do pure (.value (← m)))):iM P o a E s v s':=by
 obtain ⟨val,E',h1,h2,h3,h4⟩:=h
 exact ⟨val,E',.inl (by rw [e];simp [h1]),h2,h3,h4⟩
theorem iM.same {P:Program} {o:Oper} {a:Act} {E:Env} {s:S} {v:V} {m:Sem Value} (hr:xg E s) (h:∃ val,m.run P E.w = .ok val E.w∧qy E v val) (e:execOp a.eval o=(do pure (.value (← m)))):iM P o a E s v s:=by
 obtain ⟨val,h1,h2⟩:=h
 exact .of (.pure hr h1 h2) e
theorem oO {P:Program} {o:Oper} {σ : Nat→V} {N:Nat} {a:Act} {E:Env} {s s':S} {v:V} (hr:xg E s) (ha:yV E σ N a) (h:vU P o σ s=some (v,s')):iM P o a E s v s':=by
 unfold vU at h
 split at h
 case h_23=>cases h
 all_goals rename_i ho
 case h_1 =>
   obtain ⟨x,hx,e⟩:=Option.map_eq_some_iff.1 h
   cases e
   exact ⟨_,E,.inl (by simp only [execOp,ho,Sem.run_pure]),.refl _ _,hr,qM ha hx⟩
 case h_2 =>
   obtain ⟨x,hx,e⟩:=Option.map_eq_some_iff.1 h
   cases e
   exact ⟨_,E,.inl (by simp only [execOp,ho,Sem.run_pure]),.refl _ _,hr,qM ha hx⟩
 case h_3 cO aO bO =>
   simp only [Option.bind_eq_some_iff] at h
   obtain ⟨c,hc,x,hx,y,hy,h⟩:=h
   split at h
   case h_2=>cases h
   rename_i c
   cases h
   have h1:=qM ha hc
   generalize hcv:a.eval _=cv at h1
   cases h1
   refine ⟨if c=true then a.eval aO else a.eval bO,E,.inl (by simp only [execOp,ho,Sem.run_bind,hcv,asBool,Sem.run_pure,Result.andThen_ok]),.refl _ _,hr,?_⟩
   cases c
   · exact qM ha hy
   · exact qM ha hx
 case h_4=>exact .of (Xq hr h) (by simp only [execOp,ho];try rfl)
 case h_5 =>
   obtain ⟨x,hx,e⟩:=Option.map_eq_some_iff.1 h
   cases e
   exact .of (Yi hr (qM ha hx)) (by simp only [execOp,ho];try rfl)
 case h_6 T parts =>
   simp only [Option.bind_eq_some_iff,Option.map_eq_some_iff] at h
   obtain ⟨ps,hps,v,hv,e⟩:=h
   cases e
   refine .same hr (Xy (uP ha hps) hv) ?_
   have:(parts.toList.map fun p=>(p.1,a.eval p.2)).toArray=parts.map fun p=>(p.1,a.eval p.2):=by apply Array.ext';simp
   simp only [execOp,ho,this]
   try rfl
 case h_7 T len parts =>
   simp only [Option.bind_eq_some_iff] at h
   obtain ⟨ps,hps,hv⟩:=h
   refine .of (bZ hr (uP ha hps) hv) ?_
   have:(parts.toList.map fun p=>(p.1,a.eval p.2)).toArray=parts.map fun p=>(p.1,a.eval p.2):=by apply Array.ext';simp
   simp only [execOp,ho,this]
   try rfl
 case h_8 =>
   simp only [Option.bind_eq_some_iff,Option.map_eq_some_iff] at h
   obtain ⟨x,hx,v,hv,e⟩:=h
   cases e
   exact .of (KW hr (qM ha hx) hv) (by simp only [execOp,ho];try rfl)
 case h_9 =>
   simp only [Option.bind_eq_some_iff,Option.map_eq_some_iff] at h
   obtain ⟨x,hx,y,hy,s1,hs,e⟩:=h
   cases e
   obtain ⟨E',h1,h2,h3⟩:=Xx (P:=P) hr (qM ha hx) (qM ha hy) hs
   exact ⟨undef,E',.inr ⟨by simp only [execOp,ho,Sem.run_bind,h1,Result.andThen_ok,Sem.run_pure],rfl⟩,h2,h3,.und⟩
 case h_10 =>
   simp only [Option.bind_eq_some_iff] at h
   obtain ⟨x,hx,h⟩:=h
   have h1:=qM ha hx
   split at h
   case h_4=>cases h
   all_goals
     cases h
     generalize hcv:a.eval _=cv at h1
     cases h1
     exact ⟨_,E,.inl (by simp only [execOp,ho,hcv,Sem.run_pure];rfl),.refl _ _,hr,by constructor <;> assumption⟩
 case h_11 =>
   simp only [Option.bind_eq_some_iff,Option.map_eq_some_iff] at h
   obtain ⟨x,hx,y,hy,v,hv,e⟩:=h
   cases e
   exact .same hr (JL (qM ha hx) (qM ha hy) hv) (by simp only [execOp,ho];try rfl)
 case h_12 =>
   simp only [Option.bind_eq_some_iff,Option.map_eq_some_iff] at h
   obtain ⟨x,hx,v,hv,e⟩:=h
   cases e
   exact .same hr (Ym (qM ha hx) hv) (by simp only [execOp,ho];try rfl)
 case h_13 =>
   simp only [Option.bind_eq_some_iff] at h
   obtain ⟨x,hx,h⟩:=h
   have h1:=qM ha hx
   unfold bS at h
   split at h
   · obtain ⟨v, hv, e⟩ := Option.map_eq_some_iff.1 h
     cases e
     exact .same hr (pO h1 hv) (by simp only [execOp,ho];try rfl)
   · obtain ⟨t, ht, h⟩ := Option.bind_eq_some_iff.1 h
     split at h
     · obtain ⟨v, hv, e⟩ := Option.map_eq_some_iff.1 h
       cases e
       exact .same hr (pO h1 hv) (by simp only [execOp,ho];try rfl)
     · exact .of (tQ hr h1 h) (by simp only [execOp,ho];try rfl)
   · obtain ⟨v, hv, e⟩ := Option.map_eq_some_iff.1 h
     cases e
     exact .same hr (Xu hr h1 hv) (by simp only [execOp,ho];try rfl)
 case h_14 fn first captured =>
   split at h
   case h_2=>cases h
   rename_i f DC
   obtain ⟨cs,hcs,e⟩:=Option.map_eq_some_iff.1 h
   cases e
   have hf:first = #[]:=by simpa using DC
   subst hf
   have hm:(captured.toList.map a.eval).toArray=captured.map a.eval:=by apply Array.ext';simp
   exact ⟨_,E,.inl (by simp only [execOp,ho,Instr.makeFunc,Sem.run_bind,Sem.run_pure,Result.andThen_ok,List.map_toArray,List.map_nil, ← hm]),.refl _ _,hr,.fn (aK ha hcs)⟩
 case h_15 =>
   simp only [Option.bind_eq_some_iff] at h
   obtain ⟨x,hx,y,hy,hv⟩:=h
   exact .of (KA hr (qM ha hx) (qM ha hy) hv) (by simp only [execOp,ho];try rfl)
 case h_16 =>
   simp only [Option.bind_eq_some_iff,Option.map_eq_some_iff] at h
   obtain ⟨x,hx,lo,hlo,hi,hhi,mx,hmx,v,hv,e⟩:=h
   cases e
   exact .same hr (Xw (qM ha hx) (l7 ha hlo) (l7 ha hhi) (l7 ha hmx) hv) (by simp only [execOp,ho];try rfl)
 case h_17 =>
   simp only [Option.bind_eq_some_iff,Option.map_eq_some_iff] at h
   obtain ⟨x,hx,v,hv,e⟩:=h
   cases e
   exact .same hr (oH (qM ha hx) hv) (by simp only [execOp,ho];try rfl)
 case h_18 =>
   simp only [Option.bind_eq_some_iff,Option.map_eq_some_iff] at h
   obtain ⟨x,hx,v,hv,e⟩:=h
   cases e
   exact .same hr (Xk (qM ha hx) hv) (by simp only [execOp,ho];try rfl)
 case h_19 =>
   simp only [Option.bind_eq_some_iff,Option.map_eq_some_iff] at h
   obtain ⟨x,hx,y,hy,v,hv,e⟩:=h
   cases e
   exact .same hr (oL (qM ha hx) (qM ha hy) hv) (by simp only [execOp,ho];try rfl)
 case h_20 =>
   simp only [Option.bind_eq_some_iff,Option.map_eq_some_iff] at h
   obtain ⟨x,hx,y,hy,v,hv,e⟩:=h
   cases e
   exact .same hr (Xv (qM ha hx) (qM ha hy) hv) (by simp only [execOp,ho];try rfl)
 case h_21 =>
   simp only [Option.bind_eq_some_iff,Option.map_eq_some_iff] at h
   obtain ⟨x,hx,v,hv,e⟩:=h
   cases e
   exact .same hr (tq (qM ha hx) hv) (by simp only [execOp,ho];try rfl)
 case h_22 c =>
   split at h
   case h_2=>cases h
   rename_i b MP
   simp only [Option.bind_eq_some_iff] at h
   obtain ⟨args,hargs,h⟩:=h
   have KF:=aK ha hargs
   have fM:execOp a.eval o=builtin b c.argTypes o.type (c.args.map fun | .const _=>true | _=>false) (c.args.map a.eval):=by
     simp only [execOp,ho,resolve,MP]
     rfl
   have hA:c.args.map a.eval=(c.args.toList.map a.eval).toArray:=by apply Array.ext';simp
   have hT:c.argTypes=c.argTypes.toList.toArray:=by simp
   rw [hA,hT] at fM
   generalize c.args.toList.map a.eval=vals at KF fM
   generalize c.argTypes.toList=A at h fM
   unfold j3 at h
   split at h
   · obtain ⟨v, hv, e⟩ := Option.map_eq_some_iff.1 h
     cases e
     cases KF with
     | cons h1 h2=>cases h2;exact .same hr (JN h1 hv) (by rw [fM];rfl)
   · split at h
     case isFalse=>cases h
     rename_i hU
     subst hU
     cases KF with
     | cons h1 h2=>cases h2 with
       | cons h2 h3=>cases h3;exact .of (ZP hr h1 h2 h) (by rw [fM];rfl)
   · obtain ⟨v, hv, e⟩ := Option.map_eq_some_iff.1 h
     cases e
     cases KF with
     | cons h1 h2=>cases h2 with
       | cons h2 h3=>cases h3;exact .same hr (JO h1 h2 hv) (by rw [fM];rfl)
   · obtain ⟨v, hv, e⟩ := Option.map_eq_some_iff.1 h
     cases e
     cases KF with
     | cons h1 h2=>cases h2 with
       | cons h2 h3=>cases h3;exact .same hr (JR h1 h2 hv) (by rw [fM];rfl)
   · cases h
end Go.Proofs.YtolhegocbkckdaaGreat
namespace Go.Proofs.YtolhegocbkckdaaGreat
open Go
abbrev Fr:=Nat→V
def After (E:Env) (s:S) (N:Nat) (Q:Exit→Fr→S→Prop) (e:Exit) (a':Act) (w':World):Prop :=
 ∃ E' σ' s',E'.w=w'∧Q e σ' s'∧xg E' s'∧yV E' σ' N a'∧Step E s E' s'
def wY (P:Program) (N:Nat) (c:Code) (Q:Exit→Fr→S→Prop) (σ : Fr) (s:S):Prop :=
 ∀ E a,xg E s→yV E σ N a→c.wp P (After E s N Q) a E.w
def VCalls (P:Program) (f:FuncId) (args:List V) (s:S) (R:V→S→Prop):Prop :=
 ∀ E vals,xg E s→ql E args vals→Calls P f vals.toArray E.w (fun e w'=>∃ E' v val s',e = .returned val∧E'.w=w'∧R v s'∧xg E' s'∧qy E' v val∧Step E s E' s')
theorem VCalls.mono {P:Program} {f:FuncId} {args:List V} {s:S} {R R':V→S→Prop} (h:VCalls P f args s R) (hr:∀ v s',R v s'→R' v s'):VCalls P f args s R' :=
 fun E vals h1 h2=>(h E vals h1 h2).mono fun _ _ ⟨E',v,val,s',a,b,c,d⟩=>⟨E',v,val,s',a,b,hr _ _ c,d⟩
theorem VCalls.forget {P:Program} {f:FuncId} {args:List V} {s:S} {R:V→S→Prop} (h:VCalls P f (args.map V.forget) s R):VCalls P f args s R :=
 fun E vals h1 h2=>h E vals h1 h2.forget
theorem wY.mono {P:Program} {N:Nat} {c:Code} {Q Q':Exit→Fr→S→Prop} {σ : Fr} {s:S} (h:wY P N c Q σ s) (hq:∀ e σ s,Q e σ s→Q' e σ s):wY P N c Q' σ s :=
 fun E a h1 h2=>wp_mono (h E a h1 h2) fun _ _ _ ⟨E', σ',s',x,y,z⟩=>⟨E', σ',s',x,hq _ _ _ y,z⟩
def Ud (K:Fr→S→Prop) (Q:Exit→Fr→S→Prop):Exit→Fr→S→Prop
 | .normal, σ,s=>K σ s
 | e, σ,s=>Q e σ s
theorem After.trans {E E1:Env} {s s1:S} {N:Nat} {Q:Exit→Fr→S→Prop} {e:Exit} {a:Act} {w:World} (st:Step E s E1 s1) (h:After E1 s1 N Q e a w):After E s N Q e a w:=by
 obtain ⟨E', σ',s',x,y,z,t,u⟩:=h
 exact ⟨E', σ',s',x,y,z,t,st.trans u⟩
theorem wY.seq {P:Program} {N:Nat} {x y:Code} {Q:Exit→Fr→S→Prop} {σ : Fr} {s:S} (h:wY P N x (Ud (fun σ' s'=>wY P N y Q σ' s') Q) σ s):wY P N (.seq x y) Q σ s:=by
 intro E a h1 h2
 refine wp_seq (wp_mono (h E a h1 h2) fun e a' w' ha=>?_)
 obtain ⟨E', σ',s',rfl,hq,h3,h4,h5⟩:=ha
 cases e with
 | normal=>exact wp_mono (hq E' a' h3 h4) fun _ _ _ hz=>hz.trans h5
 | _=>exact ⟨E', σ',s',rfl,hq,h3,h4,h5⟩
theorem wY.skip {P:Program} {N:Nat} {Q:Exit→Fr→S→Prop} {σ : Fr} {s:S} (h:Q .normal σ s):wY P N .skip Q σ s :=
 fun E _ h1 h2=>wp_skip ⟨E, σ,s,rfl,h,h1,h2,.refl _ _⟩
theorem wY.ret {P:Program} {N:Nat} {Q:Exit→Fr→S→Prop} {σ : Fr} {s:S} (h:Q .ret σ s):wY P N .ret Q σ s :=
 fun E _ h1 h2=>wp_ret ⟨E, σ,s,rfl,h,h1,h2,.refl _ _⟩
theorem wY.exit {P:Program} {N id:Nat} {Q:Exit→Fr→S→Prop} {σ : Fr} {s:S} (h:Q (.exit id) σ s):wY P N (.exit id) Q σ s :=
 fun E _ h1 h2=>wp_exit ⟨E, σ,s,rfl,h,h1,h2,.refl _ _⟩
theorem wY.cond {P:Program} {N:Nat} {c:Operand} {x y:Code} {Q:Exit→Fr→S→Prop} {σ : Fr} {s:S} {b:Bool} (hc:yC σ c=some (.bool b)) (ht:b=true→wY P N x Q σ s) (hf:b=false→wY P N y Q σ s) :
   wY P N (.cond c x y) Q σ s:=by
 intro E a h1 h2
 have hv:=qM h2 hc
 generalize he:a.eval c=cv at hv
 cases hv
 cases b
 · exact wp_cond_false he (hf rfl E a h1 h2)
 · exact wp_cond_true he (ht rfl E a h1 h2)
def ny (id:Nat) (Q:Exit→Fr→S→Prop):Exit→Fr→S→Prop
 | .exit id', σ,s=>if id'=id then Q .normal σ s else Q (.exit id') σ s
 | e, σ,s=>Q e σ s
theorem wY.block {P:Program} {N id:Nat} {c:Code} {Q:Exit→Fr→S→Prop} {σ : Fr} {s:S} (h:wY P N c (ny id Q) σ s):wY P N (.block id c) Q σ s:=by
 intro E a h1 h2
 refine wp_block (wp_mono (h E a h1 h2) fun e a' w' ha=>?_)
 obtain ⟨E', σ',s',rfl,hq,h3,h4,h5⟩:=ha
 cases e with
 | exit id' =>
   simp only [ny] at hq
   simp only [Exit.inBlock]
   split
   · rename_i e1;rw [if_pos e1] at hq;exact ⟨E', σ',s',rfl,hq,h3,h4,h5⟩
   · rename_i e1;rw [if_neg e1] at hq;exact ⟨E', σ',s',rfl,hq,h3,h4,h5⟩
 | _=>exact ⟨E', σ',s',rfl,hq,h3,h4,h5⟩
theorem wY.loop {P:Program} {N:Nat} {c:Code} {Q:Exit→Fr→S→Prop} {σ : Fr} {s:S} (J:Nat→Fr→S→Prop) (n:Nat) (h0:J n σ s)
   (round:∀ n σ s,J n σ s→wY P N c (Ud (fun σ' s'=>∃ m,m<n∧J m σ' s') Q) σ s):wY P N (.loop c) Q σ s:=by
 intro E a h1 h2
 refine wp_loop_ghost (fun n a w=>∃ E1 σ1 s1,E1.w=w∧J n σ1 s1∧xg E1 s1∧yV E1 σ1 N a∧Step E s E1 s1) n ⟨E, σ,s,rfl,h0,h1,h2,.refl _ _⟩ ?_
 rintro n a1 w1 ⟨E1, σ1,s1,rfl,hJ,h3,h4,h5⟩
 refine wp_mono (round n σ1 s1 hJ E1 a1 h3 h4) fun e a' w' ha=>?_
 obtain ⟨E', σ',s',rfl,hq,k3,k4,k5⟩:=ha
 cases e with
 | normal =>
   obtain ⟨m,hm,P6⟩:=hq
   exact ⟨m,hm,E', σ',s',rfl,P6,k3,k4,h5.trans k5⟩
 | _=>exact ⟨E', σ',s',rfl,hq,k3,k4,h5.trans k5⟩
def kP (σ : Fr):Option Nat→V→Fr
 | some d,v=>put σ d v
 | none,_ => σ
def aW (N:Nat) (o:Oper):Bool:=match o.dst with | some d=>decide (d<N) | none=>true
def MR (ops:Array Oper) (σ : Fr) (j:Nat):Option Bool :=
 match (ops[j]?).bind (·.dst) with
 | some d=>match σ d with
   | .bool b=>some b
   | _=>none
 | none=>none
def xA (ops:Array Oper) (σ : Fr) (o:Oper):Option Bool :=
 match o.guard with
 | none=>some true
 | some (j,want)=>match (ops[j]?).bind (·.dst) with
   | some d=>match σ d with
     | .bool b=>some (b == want)
     | .und=>some false
     | _=>none
   | none=>none
theorem y9 {E:Env} {σ : Fr} {N:Nat} {a:Act} {ops:Array Oper} {o:Oper} {b:Bool} (ha:yV E σ N a) (h:xA ops σ o=some b):Region.wanted o (yielded ops a.tmps)=b:=by
 unfold xA at h
 unfold Region.wanted
 split at h
 · rename_i hg;cases h;rw [hg]
 · rename_i j want hg
   rw [hg]
   split at h
   · rename_i d hd
     have hs:=ha.slot d
     split at h
     · rename_i x hx
       cases h
       rw [hx] at hs
       have hv:a.tmps.getD d undef = .bool x:=by generalize a.tmps.getD d undef=y at hs;cases hs;rfl
       have hget:a.tmps[d]?=some (.bool x):=by
         rw [Array.getD_eq_getD_getElem?] at hv
         cases hq:a.tmps[d]? with
         | none=>rw [hq] at hv;simp [undef] at hv
         | some y=>rw [hq] at hv;simp at hv;rw [hv]
       simp only [yielded,hd,Option.bind_some,hget]
       cases x <;> cases want <;> rfl
     · rename_i hx
       cases h
       rw [hx] at hs
       have hv:a.tmps.getD d undef=undef:=by generalize a.tmps.getD d undef=y at hs;cases hs;rfl
       simp only [yielded,hd,Option.bind_some]
       cases hq:a.tmps[d]? with
       | none=>rfl
       | some y =>
         rw [Array.getD_eq_getD_getElem?,hq] at hv
         simp at hv
         subst hv
         rfl
     · cases h
   · cases h
def J5 (P : Program) (f : FuncId) : Bool := match P.funcs[f]? with | some fn => fn.body.isSome && fn.name != "runtime.NumGoroutine" | none => false
def A9 (P:Program) (T:TypeId) (x y:V):Option V :=
 (xD P T).bind fun t=>match t.kd,x,y with
   | .slice e,.int _ n,.int _ m=>(xD P e).bind fun te =>
     if te.zero.length=te.size∧0<te.size∧0≤n∧n=m∧m≤140737488355328∧te.bytes*m≤140737488355328 then some (.sl 0 (List.replicate n.toNat (.agg te.zero))) else none
   | _,_,_=>none
theorem mq (n:Nat) (cs:List V):V.flat (List.replicate n (V.agg cs))=(List.replicate n cs).flatten:=by
 induction n with
 | zero=>rfl
 | succ n ih=>simp only [List.replicate_succ,V.flat,List.flatMap_cons,List.flatten_cons,V.cells] at *;rw [ih]
theorem J6 {P:Program} {T:TypeId} {x y v:V} {s:S} {E:Env} {xv yv:Value} (hr:xg E s) (hx:qy E x xv) (hy:qy E y yv) (h:A9 P T x y=some v):Does P (Instr.makeSlice T xv yv) E s v s:=by
 simp only [A9,Option.bind_eq_some_iff] at h
 obtain ⟨t,ht,h⟩:=h
 obtain ⟨_,d,_,hd,hk,_⟩:=qh ht
 split at h
 case h_2=>cases h
 rename_i e k n k' m hkd
 rw [hkd] at hk
 have:d = .slice e:=by cases d <;> simp [vP] at hk;rw [hk]
 subst this
 simp only [Option.bind_eq_some_iff] at h
 obtain ⟨te,hte,h⟩:=h
 split at h
 case isFalse=>cases h
 rename_i h0
 obtain ⟨h01,h02,Co,rfl,MG,MH⟩:=h0
 cases h
 obtain ⟨i,z,hi,hz,hs,hzs,hrep⟩:=wz hte ⟨h01,h02⟩
 obtain ⟨i',_,hi',_,_,_,hb,_⟩:=qh hte
 rw [hi] at hi'
 cases hi'
 cases hx
 cases hy
 have hrun:=fG (w:=E.w) hd hi hz hzs (by omega) Co (Int.le_refl n) MG (by rw [← hb];exact MH) k k'
 have hzl:=(hrep E).length
 have V9:=(hrep E).replicate n.toNat
 have hAs:(List.replicate n.toNat z.cells.toList).flatten.toArray.size=n.toNat*te.size:=by rw [List.size_toArray,kV,hzl,h01]
 obtain ⟨k1,k2⟩:=KU hr (List.replicate n.toNat z.cells.toList).flatten.toArray e (n.toNat*te.size) (Nat.le_of_eq hAs.symm)
 refine ⟨_,_,hrun,k1,k2,?_⟩
 have:=qy.sl (E:={ E with w:=E.w.alloc (.cells (List.replicate n.toNat z.cells.toList).flatten.toArray e),vY:=fun g o=>E.vY g o∨(g=E.w.heap.size∧o<n.toNat*te.size) }) (id:=0) (xs:=List.replicate n.toNat (.agg te.zero)) (vals:=(List.replicate n.toNat z.cells.toList).flatten) (g:=E.w.heap.size) (off:=0) (cap:=n.toNat) (sz:=te.size)
   (fun x hx=>by rw [List.eq_of_mem_replicate hx];exact h01) (by simp) (by unfold maxLen;omega) (by rw [mq];exact V9.xQ k1.ev) (fun j x hj=>⟨.inr ⟨rfl,?_⟩,?_⟩) (.inl rfl)
 · rwa [List.length_replicate] at this
 · have := (List.getElem?_eq_some_iff.1 hj).1
   rw [List.size_toArray] at hAs
   omega
 · show (E.w.alloc (.cells _ e)).cell? _ = _
   rw [World.cell?_alloc_new,Nat.zero_add]
   simpa using hj
def p8 (P:Program) (x:Option V) (args:Option (List V)) (K:V→S→Prop) (s:S):Prop :=
 match x,args with
 | some (.fn f caps),some args=>J5 P f=true∧VCalls P f (args++caps) s K
 | _,_=>False
def rE (P:Program) (o:Oper) (K:Fr→S→Prop) (σ : Fr) (s:S):Prop :=
 match o.op with
 | .call ⟨.value f,args,_⟩=>p8 P (yC σ f) (uh σ args.toList) (fun v s'=>K (kP σ o.dst v) s') s
 | .buildSlice T len parts=>(∃ v s',vU P o σ s=some (v,s')∧K (kP σ o.dst v) s')∨(∃ ps v,yh σ parts.toList=some ps∧Uc P T len ps s=some v∧K (kP σ o.dst v) s)
 | .makeSlice T l c=>(∃ v s',vU P o σ s=some (v,s')∧K (kP σ o.dst v) s')∨(∃ x y v,yC σ l=some x∧yC σ c=some y∧A9 P T x y=some v∧K (kP σ o.dst v) s)
 | _=>match vU P o σ s with
   | some (v,s')=>K (kP σ o.dst v) s'
   | none=>False
def MS (P:Program) (o:Oper) (K:Fr→S→Prop) (σ : Fr) (s:S):Prop :=
 ∃ (vs:List V) (R:V→S→Prop),uh σ o.op.operands.toList=some vs∧(∀ E a,xg E s→ql E vs (o.op.operands.toList.map a.eval)→∃ v s',R v s'∧iM P o a E s v s')∧∀ v s',R v s'→K (kP σ o.dst v) s'
def DF (P:Program) (o:Oper) (K:Fr→S→Prop) (σ : Fr) (s:S):Prop:=rE P o K σ s∨MS P o K σ s
def iN (P:Program) (N:Nat) (ops:Array Oper) (o:Oper) (K:Fr→S→Prop) (σ : Fr) (s:S):Prop :=
 aW N o=true∧match xA ops σ o with
   | some true=>DF P o K σ s
   | some false=>K (kP σ o.dst .und) s
   | none=>False
theorem yV.kP {E:Env} {σ : Fr} {N:Nat} {a:Act} (h:yV E σ N a) {o:Oper} (hd:aW N o=true) {v:V} {val:Value} (hv:qy E v val):yV E (kP σ o.dst v) N (a.put o.dst val):=by
 unfold aW at hd
 cases ho:o.dst with
 | none=>simpa [Go.Proofs.YtolhegocbkckdaaGreat.kP,Act.put] using h
 | some d=>rw [ho] at hd;exact h.put (of_decide_eq_true hd) hv
def Next' (N:Nat) (E:Env) (s:S) (K:Fr→S→Prop) (a':Act) (w':World):Prop :=
 ∃ E' σ' s',E'.w=w'∧K σ' s'∧xg E' s'∧yV E' σ' N a'∧Step E s E' s'
theorem oP {P:Program} {N:Nat} {o:Oper} {K:Fr→S→Prop} {σ : Fr} {s:S} (h:DF P o K σ s) (hd:aW N o=true) {E:Env} {a:Act} (hr:xg E s) (ha:yV E σ N a) (Q:Exit→Act→World→Prop) :
   o.wp P a E.w (Next' N E s K) Q:=by
 rcases h with h | ⟨vs,R,hvs,hdo,hk⟩
 case inr =>
   obtain ⟨v,s',hR,hdo⟩:=hdo E a hr (aK ha hvs)
   obtain ⟨val,E',hrun,h1,h2,h3⟩:=hdo
   unfold Oper.wp
   have key:Next' N E s K (a.put o.dst val) E'.w:=⟨E',_,s',rfl,hk v s' hR,h2,(ha.xQ h1.ev).kP hd h3,h1⟩
   rcases hrun with hrun | ⟨hrun,rfl⟩
   · rw [hrun,Oper.upon_value];exact key
   · rw [hrun,Oper.upon_skip];exact key
 unfold rE at h
 split at h
 · rename_i f args A hop
   unfold p8 at h
   split at h
   case h_2=>exact h.elim
   rename_i g caps vs hf hargs
   obtain ⟨hok,hc⟩:=h
   have O9:=qM ha hf
   have P7:=aK ha hargs
   generalize he:a.eval f=fv at O9
   cases O9 with
   | @fn _ _ FL FM =>
     have hcall:=hc E _ hr (P7.append FM)
     have hrun:(execOp a.eval o).run P E.w = .ok (.enter g ((args.toList.map a.eval)++FL).toArray) E.w:=by
       unfold J5 at hok
       cases hfn:P.funcs[g]? with
       | none=>rw [hfn] at hok;cases hok
       | some fn =>
         rw [hfn] at hok
         simp only [Bool.and_eq_true,bne_iff_ne,ne_eq] at hok
         have hb:fn.body.isNone=false:=by cases hbb:fn.body <;> simp_all
         have hn : (fn.name == "runtime.NumGoroutine") = false := by simpa using hok.2
         have hargs':Array.map a.eval args=(args.toList.map a.eval).toArray:=by apply Array.ext';simp
         simp only [execOp,hop,resolve,Deferred.ofValue,he,Sem.run_bind,Sem.run_pure,Result.andThen_ok,invoke,callFunc,run_program,hfn,hn,hb,Bool.false_eq_true,if_false,hargs']
         simp
     unfold Oper.wp
     rw [hrun,Oper.upon_enter]
     refine hcall.mono fun e w' ⟨E',v,val,s',h1,h2,h3,h4,h5,h6⟩=>?_
     subst h1
     exact ⟨E',_,s',h2,h3,h4,(ha.xQ h6.ev).kP hd h5,h6⟩
 · rename_i T len parts hop
   rcases h with ⟨v,s',hv,h⟩ | ⟨ps,v,hps,hv,h⟩
   · obtain ⟨val, E', hrun, h1, h2, h3⟩ := oO hr ha hv
     unfold Oper.wp
     have key:Next' N E s K (a.put o.dst val) E'.w:=⟨E',_,s',rfl,h,h2,(ha.xQ h1.ev).kP hd h3,h1⟩
     rcases hrun with hrun | ⟨hrun,rfl⟩
     · rw [hrun,Oper.upon_value];exact key
     · rw [hrun,Oper.upon_skip];exact key
   · have hdo:=iM.of (o:=o) (a:=a) (J2 hr (uP ha hps) hv) (by
       have:(parts.toList.map fun p=>(p.1,a.eval p.2)).toArray=parts.map fun p=>(p.1,a.eval p.2):=by apply Array.ext';simp
       simp only [execOp,hop,this]
       try rfl)
     obtain ⟨val,E',hrun,h1,h2,h3⟩:=hdo
     unfold Oper.wp
     have key:Next' N E s K (a.put o.dst val) E'.w:=⟨E',_,s,rfl,h,h2,(ha.xQ h1.ev).kP hd h3,h1⟩
     rcases hrun with hrun | ⟨hrun,rfl⟩
     · rw [hrun,Oper.upon_value];exact key
     · rw [hrun,Oper.upon_skip];exact key
 · rename_i T l c hop
   rcases h with ⟨v,s',hv,h⟩ | ⟨x,y,v,hx,hy,hv,h⟩
   · obtain ⟨val, E', hrun, h1, h2, h3⟩ := oO hr ha hv
     unfold Oper.wp
     have key:Next' N E s K (a.put o.dst val) E'.w:=⟨E',_,s',rfl,h,h2,(ha.xQ h1.ev).kP hd h3,h1⟩
     rcases hrun with hrun | ⟨hrun,rfl⟩
     · rw [hrun,Oper.upon_value];exact key
     · rw [hrun,Oper.upon_skip];exact key
   · have hdo := iM.of (o := o) (a := a) (J6 hr (qM ha hx) (qM ha hy) hv) (by simp only [execOp, hop]; try rfl)
     obtain ⟨val,E',hrun,h1,h2,h3⟩:=hdo
     unfold Oper.wp
     have key:Next' N E s K (a.put o.dst val) E'.w:=⟨E',_,s,rfl,h,h2,(ha.xQ h1.ev).kP hd h3,h1⟩
     rcases hrun with hrun | ⟨hrun,rfl⟩
     · rw [hrun,Oper.upon_value];exact key
     · rw [hrun,Oper.upon_skip];exact key
 · split at h
   case h_2=>exact h.elim
   rename_i v s' hv
   obtain ⟨val,E',hrun,h1,h2,h3⟩:=oO hr ha hv
   unfold Oper.wp
   have key:Next' N E s K (a.put o.dst val) E'.w:=⟨E',_,s',rfl,h,h2,(ha.xQ h1.ev).kP hd h3,h1⟩
   rcases hrun with hrun | ⟨hrun,rfl⟩
   · rw [hrun,Oper.upon_value];exact key
   · rw [hrun,Oper.upon_skip];exact key
def Xa (P:Program) (N:Nat) (ops:Array Oper):List Oper→(Fr→S→Prop)→Fr→S→Prop
 | [],K=>K
 | o::rest,K=>iN P N ops o (Xa P N ops rest K)
theorem mg {P:Program} {N:Nat} {ops:Array Oper} {Q:Exit→Fr→S→Prop} {E0:Env} {s0:S}:∀ (l:List Oper) {σ : Fr} {s:S},Xa P N ops l (Q .normal) σ s→∀ E a,Step E0 s0 E s→xg E s→yV E σ N a →
   wpList P ops (After E0 s0 N Q) l a E.w
 | [], σ,s,h,E,a,h0,h1,h2=>⟨E, σ,s,rfl,h,h1,h2,h0⟩
 | o::rest, σ,s,h,E,a,h0,h1,h2=>by
   obtain ⟨hd,h⟩:=h
   unfold wpList
   cases hw:xA ops σ o with
   | none=>rw [hw] at h;exact h.elim
   | some b =>
     have hw':=y9 h2 hw
     rw [hw] at h
     cases b with
     | true =>
       rw [if_pos hw']
       left
       have:=oP (N:=N) h hd h1 h2 (After E0 s0 N Q)
       refine Oper.wp_mono (fun a' w' hk=>?_) this
       obtain ⟨E', σ',s',rfl,k1,k2,k3,k4⟩:=hk
       exact mg rest k1 E' a' (h0.trans k4) k2 k3
     | false =>
       rw [if_neg (by simp [hw'])]
       exact mg rest h E _ h0 h1 (h2.kP hd .und)
theorem wY.region {P:Program} {N id:Nat} {ops:Array Oper} {Q:Exit→Fr→S→Prop} {σ : Fr} {s:S} (h:Xa P N ops ops.toList (Q .normal) σ s):wY P N (.region id ops false) Q σ s :=
 fun E a h1 h2=>wp_region_list (mg _ h E a (.refl _ _) h1 h2)
end Go.Proofs.YtolhegocbkckdaaGreat
namespace Go.Proofs.YtolhegocbkckdaaGreat
open Go
def nu (P:Program) (σ : Fr) (s:S):ResultVar→Option V
 | .tmp t=>some (σ t)
 | .cell a T=>eF P T (σ a) s
def eG (P:Program) (σ : Fr) (s:S):List ResultVar→Option (List V)
 | []=>some []
 | r::rs=>(nu P σ s r).bind fun v=>(eG P σ s rs).map (v :: ·)
def oneOf:List V→V
 | [v]=>v
 | vs => .jY vs
def iO (P:Program) (rs:List ResultVar) (R:V→S→Prop):Exit→Fr→S→Prop
 | .normal, σ,s | .ret, σ,s=>match eG P σ s rs with
   | some vs=>R (oneOf vs) s
   | none=>False
 | _,_,_=>False
def o7 (tmps:Array Value):ResultVar→Sem Value
 | .tmp t=>pure (tmps.getD t undef)
 | .cell x t=>do loadVar t (← asAddr (tmps.getD x undef))
theorem J7 (fn:Func) (tmps:Array Value):results fn tmps=(do let vs ← fn.results.mapM (o7 tmps);pure (if h:vs.size=1 then vs[0] else .tuple vs)):=by
 unfold results
 congr 1
theorem ng {P:Program} {E:Env} {σ : Fr} {s:S} {N:Nat} {a:Act} (hr:xg E s) (ha:yV E σ N a):∀ {rs:List ResultVar} {vs:List V},eG P σ s rs=some vs →
   ∃ vals,(rs.mapM (o7 a.tmps)).run P E.w = .ok vals E.w∧ql E vs vals
 | [],vs,h=>by cases h;exact ⟨[],by simp,.nil⟩
 | r::rs,vs,h=>by
   simp only [eG,Option.bind_eq_some_iff,Option.map_eq_some_iff] at h
   obtain ⟨v,hv,l,hl,rfl⟩:=h
   obtain ⟨vals,h1,h2⟩:=ng hr ha hl
   have h3:∃ val,((o7 a.tmps) r).run P E.w = .ok val E.w∧qy E v val:=by
     cases r with
     | tmp t=>cases hv;exact ⟨_,by simp only [o7,Sem.run_pure],ha.slot t⟩
     | cell x t =>
       obtain ⟨ad,y,k1,k2,k3⟩:=sG (P:=P) hr (ha.slot x) hv
       exact ⟨y,by simp only [o7,k1,asAddr,Sem.run_bind,Sem.run_pure,Result.andThen_ok,k2],k3⟩
   obtain ⟨val,h4,h5⟩:=h3
   refine ⟨val::vals,?_,.cons h5 h2⟩
   simp only [List.mapM_cons,Sem.run_bind,h4,Result.andThen_ok,h1,Sem.run_pure]
theorem KG {P:Program} {E:Env} {σ : Fr} {s:S} {N:Nat} {a:Act} {fn:Func} {vs:List V} (hr:xg E s) (ha:yV E σ N a) (h:eG P σ s fn.results.toList=some vs) :
   ∃ val,(results fn a.tmps).run P E.w = .ok val E.w∧qy E (oneOf vs) val:=by
 obtain ⟨vals,h1,h2⟩:=ng (P:=P) hr ha h
 have hm:(fn.results.mapM (o7 a.tmps)).run P E.w = .ok vals.toArray E.w:=by
   rw [← Array.toArray_toList (xs:=fn.results),List.mapM_toArray]
   simp only [Sem.run_map,h1,Result.andThen_ok]
 rw [J7]
 simp only [Sem.run_bind,hm,Result.andThen_ok,Sem.run_pure]
 cases h2 with
 | nil=>exact ⟨_,rfl,.jY .nil⟩
 | cons k1 k2 =>
   cases k2 with
   | nil=>exact ⟨_,rfl,k1⟩
   | cons k2 k3=>exact ⟨_,rfl,.jY (.cons k1 (.cons k2 k3))⟩
def mh (args:List V):Fr:=fun t=>args.getD t .und
theorem ql.getD {E:Env} {args:List V} {vals:List Value} (h:ql E args vals) (t:Nat):qy E (args.getD t .und) (vals.getD t undef):=by
 have hl:=h.length
 by_cases ht:t<args.length
 · obtain ⟨val, h1, h2⟩ := h.get (List.getElem?_eq_getElem ht)
   rw [List.getD_eq_getElem?_getD,List.getD_eq_getElem?_getD,h1,List.getElem?_eq_getElem ht]
   exact h2
 · rw [List.getD_eq_getElem?_getD, List.getD_eq_getElem?_getD, List.getElem?_eq_none (by omega), List.getElem?_eq_none (by omega)]
   exact .und
theorem VCalls.body {P:Program} {f:FuncId} {fn:Func} {c:Code} {args:List V} {s:S} {R:V→S→Prop} (hf:P.funcs[f]?=some fn) (hb:fn.body=some c) (hn:args.length≤fn.ntmps)
   (h:wY P fn.ntmps c (iO P fn.results.toList R) (mh args) s):VCalls P f args s R:=by
 intro E vals hr hargs
 have hl:=hargs.length
 have ha:yV E (mh args) fn.ntmps { tmps:=vals.toArray++Array.replicate (fn.ntmps - vals.toArray.size) undef,defers:=[] }:=by
   refine ⟨fun t=>?_,by simp only [Array.size_append,List.size_toArray,Array.size_replicate];omega,rfl⟩
   have:=hargs.getD t
   have e:(vals.toArray++Array.replicate (fn.ntmps - vals.toArray.size) undef).getD t undef=vals.getD t undef:=by
     rw [Array.getD_eq_getD_getElem?,List.getD_eq_getElem?_getD,Array.getElem?_append]
     split
     · simp
     · rename_i hge
       simp only [List.size_toArray] at hge
       rw [List.getElem?_eq_none (by omega)]
       simp only [Array.getElem?_replicate,Option.getD_none]
       split <;> rfl
   rw [e]
   exact this
 refine calls_of_wp hf hb (wp_mono (h E _ hr ha) fun e a' w' hq=>?_)
 obtain ⟨E', σ',s',rfl,hq,h3,h4,h5⟩:=hq
 have key:(match eG P σ' s' fn.results.toList with | some vs=>R (oneOf vs) s' | none=>False) →
     a'.defers=[]∧∃ v,(results fn a'.tmps).run P E'.w = .ok v E'.w∧∃ E2 v1 val s2,Ending.returned v = .returned val∧E2.w=E'.w∧R v1 s2∧xg E2 s2∧qy E2 v1 val∧Step E s E2 s2:=by
   intro hk
   cases hvs:eG P σ' s' fn.results.toList with
   | none=>rw [hvs] at hk;exact hk.elim
   | some vs =>
     rw [hvs] at hk
     obtain ⟨val,k1,k2⟩:=KG (P:=P) h3 h4 hvs
     exact ⟨h4.defers,val,k1,E',_,val,s',rfl,rfl,hk,h3,k2,h5⟩
 cases e with
 | normal=>exact key hq
 | ret=>exact key hq
 | _=>exact hq.elim
def uL (v:V) (s:S) (v':V) (s':S):Prop :=
 ∀ E val,xg E s→qy E v val→∃ E',E'.w=E.w∧Step E s E' s'∧xg E' s'∧qy E' v' val
theorem uL.refl (v:V) (s:S):uL v s v s:=fun E _ h1 h2=>⟨E,rfl,.refl _ _,h1,h2⟩
theorem uL.forget (v:V) (s:S):uL v s v.forget s:=fun E _ h1 h2=>⟨E,rfl,.refl _ _,h1,h2.forget⟩
theorem VCalls.turn {P:Program} {f:FuncId} {args:List V} {s:S} {R R':V→S→Prop} (h:VCalls P f args s R) (hr:∀ v s',s.next≤s'.next→R v s'→∃ v2 s2,uL v s' v2 s2∧R' v2 s2):VCalls P f args s R':=by
 intro E vals h1 h2
 refine (h E vals h1 h2).mono fun e w' ⟨E',v,val,s',a,b,c,d,e1,f1⟩=>?_
 obtain ⟨v2,s2,k1,k2⟩:=hr v s' f1.next c
 obtain ⟨E2,m1,m2,m3,m4⟩:=k1 E' val d e1
 exact ⟨E2,v2,val,s2,a,m1.trans b,k2,m3,m4,f1.trans m2⟩
theorem wY.weaken {P:Program} {N:Nat} {c:Code} {Q:Exit→Fr→S→Prop} {σ : Fr} {s s':S} (hv:∀ l cs,s'.vars l=some cs→s.vars l=some cs) (hf:∀ l cs,s'.xJ l=some cs→s.xJ l=some cs) (hn:s.next≤s'.next)
   (h:wY P N c Q σ s'):wY P N c Q σ s :=
 fun E a h1 h2=>wp_mono (h E a (h1.weaken hv hf hn) h2) fun _ _ _ hz=>hz.trans ((Step.refl E s).weaken hv hf hn)
def S.freeze (s:S) (l n sz:Nat):S:={ vars:=fun x=>if x=l then none else s.vars x,xJ:=fun x=>if x=s.next then some (n,sz) else s.xJ x,next:=s.next+1 }
end Go.Proofs.YtolhegocbkckdaaGreat
namespace Go.Proofs.YtolhegocbkckdaaGreat
open Go
mutual
def V.dat:V→Bool
 | .agg cs=>V.mo cs
 | .sl id xs=>id == 0&&V.mo xs
 | .jY vs=>V.mo vs
 | .fn _ cs=>V.mo cs
 | .xG cs _=>V.mo cs
 | .ptr _ _=>false
 | .qJ _ _ _ _=>false
 | .int _ _=>true
 | .bool _=>true
 | .str _=>true
 | .kC=>true
 | .jo=>true
 | .zl=>true
 | .und=>true
 | .raw _=>true
def V.mo:List V→Bool
 | []=>true
 | v::vs=>V.dat v&&V.mo vs
end
theorem V.uz:∀ vs:List V,V.mo vs=vs.all V.dat
 | []=>rfl
 | v::vs=>by simp [V.mo,V.uz vs]
theorem V.Yp {v:V} (h:v.dat=true):v.cells.all V.dat=true:=by
 cases v <;> simp_all [V.dat,V.cells,V.uz]
theorem V.Ue {xs:List V} (h:xs.all V.dat=true):(V.flat xs).all V.dat=true:=by
 rw [List.all_eq_true] at *
 intro c hc
 obtain ⟨x,hx,hcx⟩:=List.mem_flatMap.1 hc
 exact List.all_eq_true.1 (V.Yp (h x hx)) c hcx
theorem qy.dat {E E':Env} (hw:E'.w=E.w) (hi:E'.vY=E.vY) {v:V} {val:Value} (h:qy E v val) (hd:v.dat=true):qy E' v val:=by
 have hseg:∀ {g off vals},Seg E g off vals→Seg E' g off vals:=fun h j v hj=>by rw [hw,hi];exact h j v hj
 refine qy.rec (motive_1:=fun v val _=>v.dat=true→qy E' v val) (motive_2:=fun vs vals _=>vs.all V.dat=true→ql E' vs vals) ?_ ?_ ?_ ?_ ?_ ?_ ?_ ?_ ?_ ?_ ?_ ?_ ?_ ?_ ?_ ?_ ?_ ?_ ?_ h hd
 · intro k n a b _;exact .int a b
 · intro b _;exact .bool
 · intro s a _;exact .str a
 · intro cs vals _ a h;exact .agg (a (by simpa [V.dat,V.uz] using h))
 · intro l off g a h;simp [V.dat] at h
 · intro cs vals g off k _ s a h;exact .xG (a (by simpa [V.dat,V.uz] using h)) (hseg s)
 · intro _;exact .kC
 · intro id xs vals g off cap sz a b c _ s f r h
   simp only [V.dat,V.uz,Bool.and_eq_true,beq_iff_eq] at h
   obtain ⟨rfl,h⟩:=h
   exact .sl a b c (r (V.Ue h)) (hseg s) (.inl rfl)
 · intro id a f h
   simp only [V.dat,V.uz,Bool.and_eq_true,beq_iff_eq] at h
   obtain ⟨rfl,_⟩:=h
   exact .iy (.inl rfl)
 · intro a _;exact .jo
 · intro _;exact .zl
 · intro ex l off len cap g a b c d h;simp [V.dat] at h
 · intro a h;simp [V.dat] at h
 · intro f caps vals _ a h;exact .fn (a (by simpa [V.dat,V.uz] using h))
 · intro vs vals _ a h;exact .jY (a (by simpa [V.dat,V.uz] using h))
 · intro _;exact .und
 · intro _ _;exact .raw
 · intro _;exact .nil
 · intro v vs val vals _ _ a b h
   simp only [List.all_cons,Bool.and_eq_true] at h
   exact .cons (a h.1) (b h.2)
mutual
def V.under (n:Nat):V→Bool
 | .agg cs=>V.zO n cs
 | .sl id xs=>(id == 0 || decide (id<n))&&V.zO n xs
 | .jY vs=>V.zO n vs
 | .fn _ cs=>V.zO n cs
 | .xG cs _=>V.zO n cs
 | .ptr l _=>decide (l<n)
 | .qJ _ l _ _=>decide (l<n)
 | .int _ _=>true
 | .bool _=>true
 | .str _=>true
 | .kC=>true
 | .jo=>true
 | .zl=>true
 | .und=>true
 | .raw _=>true
def V.zO (n:Nat):List V→Bool
 | []=>true
 | v::vs=>V.under n v&&V.zO n vs
end
theorem V.xB (n:Nat):∀ vs:List V,V.zO n vs=vs.all (V.under n)
 | []=>rfl
 | v::vs=>by simp [V.zO,V.xB n vs]
theorem V.KH {n:Nat} (v:V):v.cells.all (V.under n)=v.under n:=by
 cases v <;> simp [V.under,V.cells,V.xB]
theorem V.tX {n:Nat} (xs:List V):(V.flat xs).all (V.under n)=xs.all (V.under n):=by
 induction xs with
 | nil=>rfl
 | cons x xs ih =>
   have e:V.flat (x::xs)=x.cells++V.flat xs:=by simp [V.flat]
   rw [e,List.all_append,ih,V.KH]
   rfl
theorem qy.nZ {E:Env} {n:Nat} (hn0:0<n) (hl:∀ l,n≤l→E.loc l=none) (hf:∀ l,n≤l→E.fam l=none) {v:V} {val:Value} (h:qy E v val):v.under n=true:=by
 have hl':∀ l g,E.loc l=some g→l<n:=fun l g h=>by
   rcases Nat.lt_or_ge l n with h' | h'
   · exact h'
   · rw [hl l h'] at h;cases h
 have hf':∀ l g,E.fam l=some g→l<n:=fun l g h=>by
   rcases Nat.lt_or_ge l n with h' | h'
   · exact h'
   · rw [hf l h'] at h;cases h
 refine qy.rec (motive_1:=fun v _ _=>v.under n=true) (motive_2:=fun vs _ _=>vs.all (V.under n)=true) ?_ ?_ ?_ ?_ ?_ ?_ ?_ ?_ ?_ ?_ ?_ ?_ ?_ ?_ ?_ ?_ ?_ ?_ ?_ h
 · intro k n a b;rfl
 · intro b;rfl
 · intro s a;rfl
 · intro cs vals _ a;simpa [V.under,V.xB] using a
 · intro l off g a;simpa [V.under] using hl' l g a
 · intro cs vals g off k _ s a;simpa [V.under,V.xB] using a
 · rfl
 · intro id xs vals g off cap sz a b c _ s f r
   rw [V.tX] at r
   simp only [V.under,V.xB,r,Bool.and_true,Bool.or_eq_true,beq_iff_eq,decide_eq_true_eq]
   rcases f with f | ⟨F,hF,_⟩
   · exact .inl f
   · exact .inr (hf' id F hF)
 · intro id a f
   simp only [V.under,V.xB,List.all_nil,Bool.and_true,Bool.or_eq_true,beq_iff_eq,decide_eq_true_eq]
   rcases f with f | ⟨F,hF,_⟩
   · exact .inl f
   · exact .inr (hf' id F hF)
 · intro a;rfl
 · rfl
 · intro ex l off len cap g a b c d;simpa [V.under] using hl' l g a
 · intro a;simpa [V.under] using hn0
 · intro f caps vals _ a;simpa [V.under,V.xB] using a
 · intro vs vals _ a;simpa [V.under,V.xB] using a
 · rfl
 · intro _;rfl
 · rfl
 · intro v vs val vals _ _ a b;simp [a,b]
theorem ql.nZ {E:Env} {n:Nat} (hn0:0<n) (hl:∀ l,n≤l→E.loc l=none) (hf:∀ l,n≤l→E.fam l=none):∀ {vs:List V} {vals:List Value},ql E vs vals→vs.all (V.under n)=true
 | _,_,.nil=>rfl
 | _,_,.cons h t=>by simp [h.nZ hn0 hl hf,ql.nZ hn0 hl hf t]
theorem qy.restrict {E E':Env} {n:Nat} (hw:E'.w=E.w) (hi:E'.vY=E.vY) (hl:∀ l,l<n→E'.loc l=E.loc l) (hf:∀ l,l<n→E'.fam l=E.fam l) {v:V} {val:Value} (h:qy E v val) (hd:v.under n=true):qy E' v val:=by
 have hseg:∀ {g off vals},Seg E g off vals→Seg E' g off vals:=fun h j v hj=>by rw [hw,hi];exact h j v hj
 refine qy.rec (motive_1:=fun v val _=>v.under n=true→qy E' v val) (motive_2:=fun vs vals _=>vs.all (V.under n)=true→ql E' vs vals) ?_ ?_ ?_ ?_ ?_ ?_ ?_ ?_ ?_ ?_ ?_ ?_ ?_ ?_ ?_ ?_ ?_ ?_ ?_ h hd
 · intro k n a b _;exact .int a b
 · intro b _;exact .bool
 · intro s a _;exact .str a
 · intro cs vals _ a h;exact .agg (a (by simpa [V.under,V.xB] using h))
 · intro l off g a h;exact .ptr ((hl l (by simpa [V.under] using h)).trans a)
 · intro cs vals g off k _ s a h;exact .xG (a (by simpa [V.under,V.xB] using h)) (hseg s)
 · intro _;exact .kC
 · intro id xs vals g off cap sz a b c _ s f r h
   simp only [V.under,V.xB,Bool.and_eq_true,Bool.or_eq_true,beq_iff_eq,decide_eq_true_eq] at h
   refine .sl a b c (r (by rw [V.tX];exact h.2)) (hseg s) ?_
   rcases f with f | ⟨F,hF,hh⟩
   · exact .inl f
   · rcases h.1 with h1 | h1
     · exact .inl h1
     · exact .inr ⟨F,(hf id h1).trans hF,hh⟩
 · intro id a f h
   simp only [V.under,V.xB,Bool.and_eq_true,Bool.or_eq_true,beq_iff_eq,decide_eq_true_eq] at h
   refine .iy ?_
   rcases f with f | ⟨F,hF,hh⟩
   · exact .inl f
   · rcases h.1 with h1 | h1
     · exact .inl h1
     · exact .inr ⟨F,(hf id h1).trans hF,hh⟩
 · intro a _;exact .jo
 · intro _;exact .zl
 · intro ex l off len cap g a b c d h;exact .qJ ((hl l (by simpa [V.under] using h)).trans a) b c d
 · intro a h;exact .jS
 · intro f caps vals _ a h;exact .fn (a (by simpa [V.under,V.xB] using h))
 · intro vs vals _ a h;exact .jY (a (by simpa [V.under,V.xB] using h))
 · intro _;exact .und
 · intro _ _;exact .raw
 · intro _;exact .nil
 · intro v vs val vals _ _ a b h
   simp only [List.all_cons,Bool.and_eq_true] at h
   exact .cons (a h.1) (b h.2)
theorem ql.restrict {E E':Env} {n:Nat} (hw:E'.w=E.w) (hi:E'.vY=E.vY) (hl:∀ l,l<n→E'.loc l=E.loc l) (hf:∀ l,l<n→E'.fam l=E.fam l):∀ {vs:List V} {vals:List Value},ql E vs vals→vs.all (V.under n)=true→ql E' vs vals
 | _,_,.nil,_ => .nil
 | _,_,.cons h t,hd=>by
   simp only [List.all_cons,Bool.and_eq_true] at hd
   exact .cons (h.restrict hw hi hl hf hd.1) (ql.restrict hw hi hl hf t hd.2)
theorem xg.yH {E:Env} {s:S} (h:xg E s) {l:Nat} (hl:s.next≤l):s.vars l=none∧s.xJ l=none:=by
 have hf:=h.fresh l hl
 constructor
 · cases hc : s.vars l with
   | none=>rfl
   | some cs=>obtain ⟨g,arr,e,fr,h1,_⟩:=h.var _ _ hc;rw [hf.1] at h1;cases h1
 · cases hc : s.xJ l with
   | none=>rfl
   | some p=>obtain ⟨_,F,h1,_⟩:=h.fam _ p.1 p.2 hc;rw [hf.2] at h1;cases h1
theorem VCalls.pure {P:Program} {f:FuncId} {args:List V} {s:S} {d:V} (hd:d.dat=true)
   (h:VCalls P f args s (fun v s'=>v.forget=d∧(∀ l,l<s.next→s'.vars l=s.vars l)∧(∀ l,l<s.next→s'.xJ l=s.xJ l))):VCalls P f args s (fun v s'=>v=d∧s'=s):=by
 intro E vals h1 h2
 refine (h E vals h1 h2).mono fun e w' ⟨E1,v,val,s',a,b,⟨c1,c2,c3⟩,k,r,st⟩=>?_
 let E':Env:={ w:=E1.w,vY:=E1.vY,loc:=fun l=>if l<s.next then E1.loc l else none,fam:=fun l=>if l<s.next then E1.fam l else none }
 have hrep:qy E' d val:=by
   have:=r.forget
   rw [c1] at this
   exact this.dat (E:=E1) (E':=E') rfl rfl hd
 have hlt:∀ l,(s.vars l).isSome=true→l<s.next:=fun l hl=>by
   rcases Nat.lt_or_ge l s.next with h | h
   · exact h
   · rw [(h1.yH h).1] at hl;cases hl
 have rF:∀ l,(s.xJ l).isSome=true→l<s.next:=fun l hl=>by
   rcases Nat.lt_or_ge l s.next with h | h
   · exact h
   · rw [(h1.yH h).2] at hl;cases hl
 have hloc:∀ l,l<s.next→E'.loc l=E1.loc l:=fun l hl=>by show (if l<s.next then E1.loc l else none)=_;rw [if_pos hl]
 have yu:∀ l,l<s.next→E'.fam l=E1.fam l:=fun l hl=>by show (if l<s.next then E1.fam l else none)=_;rw [if_pos hl]
 have hlt2:∀ l g,E.loc l=some g→l<s.next:=fun l g hl=>by
   rcases Nat.lt_or_ge l s.next with h | h
   · exact h
   · rw [(h1.fresh l h).1] at hl;cases hl
 have KL:∀ l F,E.fam l=some F→l<s.next:=fun l g hl=>by
   rcases Nat.lt_or_ge l s.next with h | h
   · exact h
   · rw [(h1.fresh l h).2] at hl;cases hl
 have ev:jc E E':=⟨st.ev.vY,st.ev.cell,fun l g hl=>(hloc l (hlt2 l g hl)).trans (st.ev.loc l g hl),fun id F hF=>by rw [yu id (KL id F hF)];exact st.ev.fam id F hF⟩
 have hvs:∀ l,(s.vars l).isSome=true→(s'.vars l).isSome=true:=fun l hl=>by rw [c2 l (hlt l hl)];exact hl
 have hfs:∀ l,(s.xJ l).isSome=true→(s'.xJ l).isSome=true:=fun l hl=>by rw [c3 l (rF l hl)];exact hl
 refine ⟨E',d,val,s,a,b,⟨rfl,rfl⟩,⟨fun l cs hl=>?_,fun l l' g hl hl' hg hg'=>?_,fun id n sz hid=>?_,fun id id' F F' g hid Yr hF hF'=>?_,fun l g id F hl hg hid hF=>?_,fun l hl=>?_,h1.pos,k.vY⟩,hrep,
   ⟨ev,st.os,st.tape,st.output,st.size,st.block,fun q hq ht=>st.track q hq ?_,Nat.le_refl _⟩⟩
 · have hl0 := hlt l (by rw [hl]; rfl)
   obtain ⟨g0,AL,e0,P8,m1,m2⟩:=h1.var l cs hl
   have hbel:=m2.rep.nZ (n:=s.next) h1.pos (fun l hl=>(h1.fresh l hl).1) (fun l hl=>(h1.fresh l hl).2)
   obtain ⟨g,arr,e,fr,m3,m4⟩:=k.var l cs ((c2 l hl0).trans hl)
   exact ⟨g,arr,e,fr,(hloc l hl0).trans m3,⟨m4.heap,ql.restrict (E:=E1) (E':=E') rfl rfl hloc yu m4.rep hbel,m4.le,m4.free,m4.vY⟩⟩
 · rw [hloc l (hlt l hl)] at hg
   rw [hloc l' (hlt l' hl')] at hg'
   exact k.vv l l' g (hvs l hl) (hvs l' hl') hg hg'
 · have KE := rF id (by rw [hid]; rfl)
   obtain ⟨h00,F,m1,m2⟩:=k.fam id n sz ((c3 id KE).trans hid)
   exact ⟨h00,F,(yu id KE).trans m1,m2⟩
 · rw [yu id (rF id hid)] at hF
   rw [yu id' (rF id' Yr)] at hF'
   exact k.vL id id' F F' g (hfs id hid) (hfs id' Yr) hF hF'
 · rw [hloc l (hlt l hl)] at hg
   rw [yu id (rF id hid)] at hF
   exact k.jL l g id F (hvs l hl) hg (hfs id hid) hF
 · constructor
   · show (if l < s.next then E1.loc l else none) = none
     rw [if_neg (by omega)]
   · show (if l < s.next then E1.fam l else none) = none
     rw [if_neg (by omega)]
 · rcases ht with ⟨l, hl, hg⟩ | ⟨id, F, hl, hF, hg⟩
   · rw [hloc l (hlt l hl)] at hg
     exact .inl ⟨l,hvs l hl,hg⟩
   · rw [yu id (rF id hl)] at hF
     exact .inr ⟨id,F,hfs id hl,hF,hg⟩
end Go.Proofs.YtolhegocbkckdaaGreat
namespace Go.Proofs.YtolhegocbkckdaaGreat
open Go
inductive Own where
 | var (cs:List V)
 | fam (n sz:Nat)
 | gone
def Own.cells?:Option Own→Option (List V)
 | some (.var cs)=>some cs
 | _=>none
def Own.rG:Option Own→Option (Nat × Nat)
 | some (.fam n sz)=>some (n,sz)
 | _=>none
def Own.isVar:Option Own→Bool
 | some (.var _)=>true
 | _=>false
def Own.Wz:Option Own→Bool
 | some (.fam _ _)=>true
 | _=>false
def S.ext (s:S) (xs:List Own):S :=
 { vars:=fun x=>if x<s.next then s.vars x else Own.cells? xs[x - s.next]?,xJ:=fun x=>if x<s.next then s.xJ x else Own.rG xs[x - s.next]?,next:=s.next+xs.length }
theorem yL (n k:Nat):¬ (n+k<n):=by omega
theorem q8 (s:S) (xs:List Own):(s.ext xs).next=s.next+xs.length:=rfl
theorem fO (s:S) (xs:List Own) (k:Nat):(s.ext xs).vars (s.next+k)=Own.cells? xs[k]?:=by
 simp [S.ext,yL]
theorem bT (s:S) (xs:List Own):(s.ext xs).vars s.next=Own.cells? xs[0]?:=by
 simp [S.ext]
theorem kg (s:S) (xs:List Own) {l:Nat} (h:l<s.next):(s.ext xs).vars l=s.vars l:=by
 simp [S.ext,h]
theorem nQ (s:S) (xs:List Own) (k:Nat):(s.ext xs).xJ (s.next+k)=Own.rG xs[k]?:=by
 simp [S.ext,yL]
theorem cu (s:S) (xs:List Own):(s.ext xs).xJ s.next=Own.rG xs[0]?:=by
 simp [S.ext]
theorem wo (s:S) (xs:List Own) {l:Nat} (h:l<s.next):(s.ext xs).xJ l=s.xJ l:=by
 simp [S.ext,h]
theorem S.ext_eq {a b:S} (h1:∀ x,a.vars x=b.vars x) (h2:∀ x,a.xJ x=b.xJ x) (h3:a.next=b.next):a=b:=by
 cases a;cases b
 simp only [S.mk.injEq]
 exact ⟨funext h1,funext h2,h3⟩
theorem nX {α : Type} (xs:List α) (a : α) (k:Nat):(xs++[a])[k]?=if k=xs.length then some a else xs[k]?:=by
 rcases Nat.lt_trichotomy k xs.length with h | h | h
 · rw [List.getElem?_append_left h,if_neg (by omega)]
 · subst h;simp
 · rw [List.getElem?_eq_none (by simp;omega),if_neg (by omega),List.getElem?_eq_none (by omega)]
theorem wZ (s:S) (xs:List Own) (cs:List V):(s.ext xs).newVar cs=s.ext (xs++[.var cs]):=by
 refine S.ext_eq (fun x=>?_) (fun x=>?_) (by simp [S.newVar,S.ext];omega)
 · simp only [S.newVar, S.ext, nX]
   by_cases h:x<s.next
   · simp [h,show x≠s.next+xs.length by omega]
   · by_cases h2 : x = s.next + xs.length
     · simp [h2,Own.cells?,yL]
     · simp [h,h2,show x - s.next≠xs.length by omega]
 · simp only [S.newVar, S.ext, nX]
   by_cases h:x<s.next
   · simp [h]
   · by_cases h2 : x - s.next = xs.length
     · simp [h,h2,Own.rG]
     · simp [h,h2]
theorem wH (s:S) (xs:List Own) (n sz:Nat):(s.ext xs).kL n sz=s.ext (xs++[.fam n sz]):=by
 refine S.ext_eq (fun x=>?_) (fun x=>?_) (by simp [S.kL,S.ext];omega)
 · simp only [S.kL, S.ext, nX]
   by_cases h:x<s.next
   · simp [h]
   · by_cases h2 : x - s.next = xs.length
     · simp [h,h2,Own.cells?]
     · simp [h,h2]
 · simp only [S.kL, S.ext, nX]
   by_cases h:x<s.next
   · simp [h,show x≠s.next+xs.length by omega]
   · by_cases h2 : x = s.next + xs.length
     · simp [h2,Own.rG,yL]
     · simp [h,h2,show x - s.next≠xs.length by omega]
theorem mZ (s:S) (xs:List Own) (k:Nat) (cs:List V) (h':Own.isVar xs[k]?=true):(s.ext xs).qL (s.next+k) cs=s.ext (xs.set k (.var cs)):=by
 obtain ⟨cs0,h⟩:∃ cs0,xs[k]?=some (.var cs0):=by
   unfold Own.isVar at h'
   split at h'
   · exact ⟨_,by assumption⟩
   · cases h'
 have hk:k<xs.length:=(List.getElem?_eq_some_iff.1 h).1
 refine S.ext_eq (fun x=>?_) (fun x=>?_) (by simp [S.qL,S.ext])
 · simp only [S.qL, S.ext, List.getElem?_set]
   by_cases h1:x<s.next
   · simp [h1,show x≠s.next+k by omega]
   · by_cases h2 : x = s.next + k
     · simp [h2,Own.cells?,hk,yL]
     · simp [h1,h2,show k≠x - s.next by omega]
 · simp only [S.qL, S.ext, List.getElem?_set]
   by_cases h1:x<s.next
   · simp [h1]
   · by_cases h2 : k = x - s.next
     · simp only [h1,if_false,if_true, ← h2,hk,h,Own.rG]
     · simp [h1,h2]
theorem KM (s:S) (xs:List Own) (cs:List V) (h:Own.isVar xs[0]?=true):(s.ext xs).qL s.next cs=s.ext (xs.set 0 (.var cs)):=mZ s xs 0 cs h
theorem mQ (s:S) (xs:List Own) (k n sz:Nat) (h':Own.Wz xs[k]?=true):(s.ext xs).xX (s.next+k) n sz=s.ext (xs.set k (.fam n sz)):=by
 obtain ⟨n0,FN,h⟩:∃ n0 FN,xs[k]?=some (.fam n0 FN):=by
   unfold Own.Wz at h'
   split at h'
   · exact ⟨_,_,by assumption⟩
   · cases h'
 have hk:k<xs.length:=(List.getElem?_eq_some_iff.1 h).1
 refine S.ext_eq (fun x=>?_) (fun x=>?_) (by simp [S.xX,S.ext])
 · simp only [S.xX, S.ext, List.getElem?_set]
   by_cases h1:x<s.next
   · simp [h1]
   · by_cases h2 : k = x - s.next
     · simp only [h1,if_false,if_true, ← h2,hk,h,Own.cells?]
     · simp [h1,h2]
 · simp only [S.xX, S.ext, List.getElem?_set]
   by_cases h1:x<s.next
   · simp [h1,show x≠s.next+k by omega]
   · by_cases h2 : x = s.next + k
     · simp [h2,Own.rG,hk,yL]
     · simp [h1,h2,show k≠x - s.next by omega]
theorem KN (s:S) (xs:List Own) (n sz:Nat) (h:Own.Wz xs[0]?=true):(s.ext xs).xX s.next n sz=s.ext (xs.set 0 (.fam n sz)):=mQ s xs 0 n sz h
theorem iP (s:S) (xs:List Own) {l:Nat} (h:l<s.next) (cs:List V):(s.ext xs).qL l cs=(s.qL l cs).ext xs:=by
 refine S.ext_eq (fun x=>?_) (fun x=>rfl) rfl
 simp only [S.qL,S.ext]
 by_cases h1:x=l
 · simp [h1,h]
 · simp [h1]
theorem VCalls.Cr {P:Program} {f:FuncId} {fn:Func} {c:Code} {args:List V} {s:S} {R:V→S→Prop} (hf:P.funcs[f]?=some fn) (hb:fn.body=some c) (hn:args.length≤fn.ntmps)
   (h:wY P fn.ntmps c (iO P fn.results.toList R) (mh args) (s.ext [])):VCalls P f args s R :=
 VCalls.body hf hb hn (wY.weaken (fun l cs hl=>by
   simp only [S.ext] at hl
   split at hl
   · exact hl
   · cases hl) (fun l cs hl=>by
   simp only [S.ext] at hl
   split at hl
   · exact hl
   · cases hl) (by simp [S.ext]) h)
theorem VCalls.FP {P:Program} {f:FuncId} {fn:Func} {c:Code} {args:List V} {s:S} {d:V} (hf:P.funcs[f]?=some fn) (hb:fn.body=some c) (hn:args.length≤fn.ntmps) (hd:d.dat=true)
   (h:wY P fn.ntmps c (iO P fn.results.toList (fun v s'=>v.forget=d∧∃ xs,s'=s.ext xs)) (mh args) (s.ext [])):VCalls P f args s (fun v s'=>v=d∧s'=s):=by
 refine VCalls.pure hd ((VCalls.Cr hf hb hn h).mono ?_)
 rintro v s' ⟨h1,xs,rfl⟩
 exact ⟨h1,fun l hl=>kg s xs hl,fun l hl=>wo s xs hl⟩
theorem Yt (cs:List V):(V.agg cs).cells=cs:=rfl
theorem YZ (k:IntKind) (n:Int):(V.int k n).cells=[V.int k n]:=rfl
theorem J8 (b:Bool):(V.bool b).cells=[V.bool b]:=rfl
theorem YQ (b:List UInt8):(V.str b).cells=[V.str b]:=rfl
theorem YX (l o:Nat):(V.ptr l o).cells=[V.ptr l o]:=rfl
theorem J9 (cs:List V) (o:Nat):(V.xG cs o).cells=[V.xG cs o]:=rfl
theorem Vz:V.kC.cells=[V.kC]:=rfl
theorem Uf (i:Nat) (xs:List V):(V.sl i xs).cells=[V.sl i xs]:=rfl
theorem YK:V.jo.cells=[V.jo]:=rfl
theorem KO:V.zl.cells=[V.zl]:=rfl
theorem YJ (x:Cp) (l o n:Nat):(V.qJ x l o n).cells=[V.qJ x l o n]:=rfl
theorem Ug (f:Nat) (cs:List V):(V.fn f cs).cells=[V.fn f cs]:=rfl
theorem KP (cs:List V):splice cs 0 []=cs:=by simp [splice]
theorem KR (c v:V) (cs vs:List V):splice (c::cs) 0 (v::vs)=v::splice cs 0 vs:=by simp [splice]
theorem p9 (c:V) (cs vs:List V) (k:Nat):splice (c::cs) (k+1) vs=c::splice cs k vs:=by
 simp [splice,Nat.add_right_comm k 1]
theorem Xa.nil {P:Program} {N:Nat} {ops:Array Oper} {K:Fr→S→Prop} {σ : Fr} {s:S} (h:K σ s):Xa P N ops [] K σ s:=h
theorem wY.qb {P:Program} {N:Nat} {c:Operand} {x y:Code} {Q:Exit→Fr→S→Prop} {σ : Fr} {s:S} (hc:yC σ c=some (.bool true)) (h:wY P N x Q σ s):wY P N (.cond c x y) Q σ s :=
 wY.cond hc (fun _=>h) (fun h=>by cases h)
theorem wY.qQ {P:Program} {N:Nat} {c:Operand} {x y:Code} {Q:Exit→Fr→S→Prop} {σ : Fr} {s:S} (hc:yC σ c=some (.bool false)) (h:wY P N y Q σ s):wY P N (.cond c x y) Q σ s :=
 wY.cond hc (fun h=>by cases h) (fun _=>h)
mutual
def V.wf:V→Bool
 | .agg cs=>V.Uq cs
 | .sl _ xs=>decide (xs.length≤maxLen)&&V.Uq xs
 | .jY vs=>V.Uq vs
 | .fn _ cs=>V.Uq cs
 | .xG cs _=>V.Uq cs
 | .ptr _ _=>true
 | .qJ _ _ _ n=>decide (n≤maxLen)
 | .int k n=>decide (k.min≤n)&&decide (n≤k.max)
 | .bool _=>true
 | .str s=>decide (s.length≤maxLen)
 | .kC=>true
 | .jo=>true
 | .zl=>true
 | .und=>true
 | .raw _=>true
def V.Uq:List V→Bool
 | []=>true
 | v::vs=>V.wf v&&V.Uq vs
end
theorem V.mX:∀ vs:List V,V.Uq vs=vs.all V.wf
 | []=>rfl
 | v::vs=>by simp [V.Uq,V.mX vs]
theorem V.Uh (v:V):v.cells.all V.wf=v.wf:=by
 cases v <;> simp [V.wf,V.cells,V.mX]
theorem V.Bz (xs:List V):(V.flat xs).all V.wf=xs.all V.wf:=by
 induction xs with
 | nil=>rfl
 | cons x xs ih =>
   have e:V.flat (x::xs)=x.cells++V.flat xs:=by simp [V.flat]
   rw [e,List.all_append,ih,V.Uh]
   rfl
theorem qy.wf {E:Env} {v:V} {val:Value} (h:qy E v val):v.wf=true:=by
 refine qy.rec (motive_1:=fun v _ _=>v.wf=true) (motive_2:=fun vs _ _=>vs.all V.wf=true) ?_ ?_ ?_ ?_ ?_ ?_ ?_ ?_ ?_ ?_ ?_ ?_ ?_ ?_ ?_ ?_ ?_ ?_ ?_ h
 · intro k n a b;simp [V.wf,a,b]
 · intro b;rfl
 · intro s a;simpa [V.wf] using a
 · intro cs vals _ a;simpa [V.wf,V.mX] using a
 · intro l off g a;rfl
 · intro cs vals g off k _ s a;simpa [V.wf,V.mX] using a
 · rfl
 · intro id xs vals g off cap sz a b c _ s f r
   rw [V.Bz] at r
   simp only [V.wf,V.mX,r,Bool.and_true,decide_eq_true_eq]
   omega
 · intro id a f;simp [V.wf,V.Uq]
 · intro a;rfl
 · rfl
 · intro ex l off len cap g a b c d;simp only [V.wf,decide_eq_true_eq];omega
 · intro a;simp [V.wf]
 · intro f caps vals _ a;simpa [V.wf,V.mX] using a
 · intro vs vals _ a;simpa [V.wf,V.mX] using a
 · rfl
 · intro _;rfl
 · rfl
 · intro v vs val vals _ _ a b;simp [a,b]
theorem ql.wf {E:Env}:∀ {vs:List V} {vals:List Value},ql E vs vals→vs.all V.wf=true
 | _,_,.nil=>rfl
 | _,_,.cons h t=>by simp [h.wf,ql.wf t]
theorem VCalls.wf {P:Program} {f:FuncId} {args:List V} {s:S} {R:V→S→Prop} (h:args.all V.wf=true→VCalls P f args s R):VCalls P f args s R :=
 fun E vals h1 h2=>h h2.wf E vals h1 h2
def filled (z:List V) (n:Nat) (xs:List V):List V:=V.flat xs++(List.replicate (n - xs.length) z).flatten
theorem aY (z:List V) (n:Nat):filled z n []=(List.replicate n z).flatten:=by simp [filled,V.flat]
theorem Z0 {z:List V} {n:Nat} {xs:List V} (h:∀ x∈xs,x.cells.length=z.length) (hn:xs.length≤n):(filled z n xs).length=n*z.length:=by
 unfold filled
 rw [List.length_append,jT h,kV, ← Nat.add_mul]
 congr 1
 omega
theorem KS {z:List V} {n:Nat} {xs:List V} {x:V} (h:∀ x∈xs,x.cells.length=z.length) (hn:xs.length<n) (hx:x.cells.length=z.length) :
   splice (filled z n xs) (xs.length*z.length) x.cells=filled z n (xs++[x]):=by
 unfold splice filled
 have hl:=jT h
 have e:n - xs.length=n - (xs++[x]).length+1:=by simp;omega
 rw [e,List.replicate_succ,List.flatten_cons, ← hl,List.take_left,List.drop_append,List.drop_of_length_le (by omega),List.nil_append]
 have e2:(V.flat xs).length+x.cells.length - (V.flat xs).length=z.length:=by omega
 rw [e2,List.drop_left]
 simp [V.flat]
theorem wS {z:List V} {n:Nat} {xs:List V} (hn:xs.length=n):filled z n xs=V.flat xs:=by
 simp [filled,hn]
def V.fits (agg:Bool):V→Bool
 | .agg _=>agg
 | v => !agg&&v.one
theorem aU {sz:Nat} {agg:Bool} (h0:0<sz):∀ {xs:List V},(∀ x∈xs,x.cells.length=sz)→(∀ x∈xs,x.fits agg=true)→vM sz agg xs.length (V.flat xs)=xs
 | [],_,_=>rfl
 | x::xs,h,hf=>by
   have e:V.flat (x::xs)=x.cells++V.flat xs:=by simp [V.flat]
   have hx:=h x (by simp)
   have hfx:=hf x (by simp)
   have ih:=aU (xs:=xs) h0 (fun y hy=>h y (by simp [hy])) (fun y hy=>hf y (by simp [hy]))
   rw [e]
   simp only [List.length_cons,vM]
   rw [← hx,List.take_left,List.drop_left,hx,ih]
   congr 1
   cases x <;> cases agg <;> simp_all [V.fits,V.cells,V.one]
theorem uR {sz:Nat} {agg:Bool} {xs:List V} (hf:∀ x∈xs,x.fits agg=true) (h1:agg=false→sz=1):uN sz agg (V.flat xs)=true:=by
 cases agg with
 | true=>rfl
 | false =>
   simp only [uN,Bool.false_or,Bool.and_eq_true,beq_iff_eq,List.all_eq_true]
   refine ⟨h1 rfl,fun c hc=>?_⟩
   obtain ⟨x,hx,hcx⟩:=List.mem_flatMap.1 hc
   have:=hf x hx
   cases x <;> simp_all [V.fits,V.cells,V.one]
theorem QW {α : Type} {f : α → V} {n:Nat} (h:∀ c,(f c).cells.length=n) (l:List α):∀ x∈l.map f,x.cells.length=n:=by
 intro x hx
 obtain ⟨c,_,rfl⟩:=List.mem_map.1 hx
 exact h c
theorem FR {α : Type} {f : α → V} {g:Bool} (h:∀ c,(f c).fits g=true) (l:List α):∀ x∈l.map f,x.fits g=true:=by
 intro x hx
 obtain ⟨c,_,rfl⟩:=List.mem_map.1 hx
 exact h c
theorem DL {α : Type} {f : α → V} {z:List V} (cs:List α):filled z cs.length ((cs.map f).take cs.length)=V.flat (cs.map f):=by
 rw [List.take_of_length_le (by simp),wS (by simp)]
theorem ES {i:Nat} (h:i<9223372036854775807):IntKind.i64.wrap ((i:Int)+1)=(i:Int)+1:=by
 rw [IntKind.wrap_i64];omega
theorem min_i64:IntKind.i64.min = -9223372036854775808:=by decide
theorem max_i64:IntKind.i64.max=9223372036854775807:=by decide
theorem min_u8:IntKind.u8.min=0:=by decide
theorem max_u8:IntKind.u8.max=255:=by decide
theorem min_u64:IntKind.u64.min=0:=by decide
theorem max_u64:IntKind.u64.max=18446744073709551615:=by decide
structure zW (P:Program) (g:FuncId):Prop where
 h:J5 P g=true
attribute [simp] Xa iN aW xA DF rE p8 vU yC uh ZT yh bS j3 Ud ny kP put mh eD KP KR p9 Ty.agg Yt YZ J8 YQ YX J9 Vz Uf YK KO YJ Ug V.one
 oG eF lS yD sS wu Xj aJ rC sN FC sP oM bound JM Ua Ub fF yg oN aV ku vM uN V8 uO y7 veq Uy FB
 tZ mR yG EP Uj KV iO eG nu oneOf V.forget V.qE V.dat V.mo
 min_i64 max_i64 min_u8 max_u8 min_u64 max_u64 q8 fO bT nQ cu wZ wH mZ KM mQ KN Own.cells? Own.rG Own.isVar Own.Wz
end Go.Proofs.YtolhegocbkckdaaGreat
namespace Go.Proofs.YtolhegocbkckdaaGreat
open Go Go.RowKit
def iG (w:World):Env:={ w,vY:=fun g o=>∃ v,w.cell? ⟨g,o,none⟩=some v,loc:=fun _=>none,fam:=fun _=>none }
def s0:S:={ vars:=fun _=>none,xJ:=fun _=>none,next:=1 }
theorem M0 (w:World):xg (iG w) s0 :=
 ⟨fun _ _ h=>(by cases h),fun _ _ _ h=>(by cases h),fun _ _ _ h=>(by cases h),fun _ _ _ _ _ h=>(by cases h),fun _ _ _ _ h=>(by cases h),fun _ _=>⟨rfl,rfl⟩,Nat.one_pos,fun _ _ h=>h⟩
theorem YV {P:Program} {f:FuncId} {args:List V} {vals:List Value} {w:World} (h:∀ s,VCalls P f args s (fun v _=>v = .bool true)) (hr:ql (iG w) args vals) :
   Calls P f vals.toArray w fun e w'=>e = .returned (.bool true)∧Below w.heap.size w w':=by
 refine (h s0 (iG w) vals (M0 w) hr).mono ?_
 rintro e w' ⟨E',v,val,s',rfl,rfl,rfl,_,hv,st⟩
 cases hv
 refine ⟨rfl,⟨st.os,st.tape,st.output,st.size,fun k hk=>st.block k hk ?_⟩⟩
 rintro (⟨l,hl,_⟩ | ⟨id,F,hl,_⟩) <;> cases hl
theorem zD {n:Nat} (h:n≤1000000000000000000):n≤maxLen:=by unfold maxLen;omega
@[simp] theorem maxLen_1:1≤maxLen:=zD (by omega)
@[simp] theorem maxLen_2:2≤maxLen:=zD (by omega)
@[simp] theorem maxLen_3:3≤maxLen:=zD (by omega)
@[simp] theorem maxLen_4:4≤maxLen:=zD (by omega)
@[simp] theorem maxLen_5:5≤maxLen:=zD (by omega)
@[simp] theorem maxLen_6:6≤maxLen:=zD (by omega)
@[simp] theorem maxLen_7:7≤maxLen:=zD (by omega)
@[simp] theorem maxLen_8:8≤maxLen:=zD (by omega)
@[simp] theorem maxLen_9:9≤maxLen:=zD (by omega)
@[simp] theorem maxLen_10:10≤maxLen:=zD (by omega)
@[simp] theorem maxLen_11:11≤maxLen:=zD (by omega)
@[simp] theorem maxLen_12:12≤maxLen:=zD (by omega)
@[simp] theorem maxLen_13:13≤maxLen:=zD (by omega)
@[simp] theorem maxLen_14:14≤maxLen:=zD (by omega)
@[simp] theorem maxLen_15:15≤maxLen:=zD (by omega)
@[simp] theorem maxLen_16:16≤maxLen:=zD (by omega)
@[simp] theorem maxLen_17:17≤maxLen:=zD (by omega)
@[simp] theorem maxLen_18:18≤maxLen:=zD (by omega)
@[simp] theorem maxLen_19:19≤maxLen:=zD (by omega)
@[simp] theorem maxLen_20:20≤maxLen:=zD (by omega)
@[simp] theorem maxLen_21:21≤maxLen:=zD (by omega)
@[simp] theorem maxLen_22:22≤maxLen:=zD (by omega)
@[simp] theorem maxLen_23:23≤maxLen:=zD (by omega)
@[simp] theorem maxLen_24:24≤maxLen:=zD (by omega)
@[simp] theorem maxLen_25:25≤maxLen:=zD (by omega)
@[simp] theorem maxLen_26:26≤maxLen:=zD (by omega)
@[simp] theorem maxLen_27:27≤maxLen:=zD (by omega)
@[simp] theorem maxLen_28:28≤maxLen:=zD (by omega)
@[simp] theorem maxLen_29:29≤maxLen:=zD (by omega)
@[simp] theorem maxLen_30:30≤maxLen:=zD (by omega)
@[simp] theorem maxLen_31:31≤maxLen:=zD (by omega)
@[simp] theorem maxLen_32:32≤maxLen:=zD (by omega)
@[simp] theorem maxLen_33:33≤maxLen:=zD (by omega)
@[simp] theorem maxLen_34:34≤maxLen:=zD (by omega)
@[simp] theorem maxLen_35:35≤maxLen:=zD (by omega)
@[simp] theorem maxLen_36:36≤maxLen:=zD (by omega)
@[simp] theorem maxLen_37:37≤maxLen:=zD (by omega)
@[simp] theorem maxLen_38:38≤maxLen:=zD (by omega)
@[simp] theorem maxLen_39:39≤maxLen:=zD (by omega)
@[simp] theorem maxLen_40:40≤maxLen:=zD (by omega)
@[simp] theorem maxLen_41:41≤maxLen:=zD (by omega)
@[simp] theorem maxLen_42:42≤maxLen:=zD (by omega)
@[simp] theorem maxLen_43:43≤maxLen:=zD (by omega)
@[simp] theorem maxLen_44:44≤maxLen:=zD (by omega)
@[simp] theorem maxLen_45:45≤maxLen:=zD (by omega)
@[simp] theorem maxLen_46:46≤maxLen:=zD (by omega)
@[simp] theorem maxLen_47:47≤maxLen:=zD (by omega)
@[simp] theorem maxLen_48:48≤maxLen:=zD (by omega)
@[simp] theorem maxLen_49:49≤maxLen:=zD (by omega)
@[simp] theorem maxLen_50:50≤maxLen:=zD (by omega)
@[simp] theorem maxLen_51:51≤maxLen:=zD (by omega)
@[simp] theorem maxLen_52:52≤maxLen:=zD (by omega)
@[simp] theorem maxLen_53:53≤maxLen:=zD (by omega)
@[simp] theorem maxLen_54:54≤maxLen:=zD (by omega)
@[simp] theorem maxLen_55:55≤maxLen:=zD (by omega)
@[simp] theorem maxLen_56:56≤maxLen:=zD (by omega)
@[simp] theorem maxLen_57:57≤maxLen:=zD (by omega)
@[simp] theorem maxLen_58:58≤maxLen:=zD (by omega)
@[simp] theorem maxLen_59:59≤maxLen:=zD (by omega)
@[simp] theorem maxLen_60:60≤maxLen:=zD (by omega)
@[simp] theorem maxLen_61:61≤maxLen:=zD (by omega)
@[simp] theorem maxLen_62:62≤maxLen:=zD (by omega)
@[simp] theorem maxLen_63:63≤maxLen:=zD (by omega)
@[simp] theorem maxLen_64:64≤maxLen:=zD (by omega)
end Go.Proofs.YtolhegocbkckdaaGreat
