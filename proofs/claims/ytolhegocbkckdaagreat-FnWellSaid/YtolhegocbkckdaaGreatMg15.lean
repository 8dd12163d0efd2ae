/-
  Tables, columns and scopes looked up by name, of the program and of the reference.
  What marks data and what finds it marked.
  Values and whether a row's values fit types, of the program and of the reference.
  Copies as results of new memory alone. Printed by a program of our own; no condition.
  Own work; no condition.
-/
import Derived.Test.YtolhegocbkckdaaGreatMg14
import Derived.Test.YtolhegocbkckdaaGreatMg10
namespace Go.Proofs.YtolhegocbkckdaaGreat
open Go
set_option linter.unusedSimpArgs false
set_option linter.unusedVariables false
def ints (l:List Int):V := .sl 0 (l.map iV)
@[simp] theorem La (l:List Int):(ints l).dat=true:=by simp [ints]
@[simp] theorem Dj (l:List Int):(ints l).forget=ints l:=by simp [ints]
def vQ {α : Type} (p : α → Bool):List α → Int→Int
 | [],_ => -1
 | x::xs,i=>if p x then i else vQ p xs (i+1)
theorem wM {α : Type} {p : α → Bool} {xs:List α} {i:Nat} (h:i<xs.length):vQ p (xs.drop i) i=if p xs[i] then (i:Int) else vQ p (xs.drop (i+1)) ((i+1:Nat):Int):=by
 rw [List.drop_eq_getElem_cons h,vQ];rfl
theorem yR {α : Type} {p : α → Bool} {xs:List α} {i:Nat} (h:xs.length≤i) (n:Int):vQ p (xs.drop i) n = -1:=by rw [List.drop_of_length_le h];rfl
def hits {α : Type} (p : α → Bool) (xs:List α):Nat→List Int
 | 0=>[]
 | i+1=>hits p xs i++(match xs[i]? with | some x=>if p x then [(i:Int)] else [] | none=>[])
theorem Fv {α : Type} {p : α → Bool} {xs:List α} {i:Nat} (h:i<xs.length):hits p xs (i+1)=hits p xs i++(if p xs[i] then [(i:Int)] else []):=by
 rw [hits,List.getElem?_eq_getElem h]
def yX (name:List UInt8) (t:Tab):Bool:=decide (t.name=name)
def jW (name:List UInt8) (t:Col):Bool:=decide (t.name=name)
def jy.at (c:jy) (name:List UInt8):Int:=vQ (yX name) c.tables 0
def Tab.at (t:Tab) (name:List UInt8):Int:=vQ (jW name) t.qO 0
def Dv (rM:List UInt8) (x:Named):Bool:=decide (rM=[]) || decide (x.rM=rM)
def Et (rM name:List UInt8) (x:Named):Bool:=decide (x.name=name)&&Dv rM x
def Scope.star (s:Scope) (rM:List UInt8):List Int:=hits (Dv rM) s.names s.names.length
def Scope.matches (s:Scope) (rM name:List UInt8):List Int:=hits (Et rM name) s.names s.names.length
theorem bF (c:jy) (name:List UInt8) (h:c.wt≤1048576) (s:S):VCalls Tryz.prog 26 [c.zF,.str name] s (fun v s'=>v = .int .i64 (c.at name)∧s'=s):=by
 simp only [jy.wt] at h
 have hl:=jA Tab.wt c.tables
 refine zi.pure Tryz.func26 rfl (by kernel_rfl) (by simp) ?_
 repeat' first|(refine zf ?_;first|(refine zq.nil ?_)|(refine zq.ev zx rfl ?_)|(refine qW ?_;refine zq.box rfl rfl rfl rfl ?_))|(refine zH ?_;first|(refine WL.seq ?_)|(refine WL.region (by kernel_rfl) ?_)|(refine WL.block ?_))|(refine zw ?_)
 refine WL.xK (fun i:Nat=>c.tables.length - i) (fun i=>[(1,.str name),(2,.ptr (s.next+0) 0),(5,.int .i64 (i:Int))]) (fun i=>[.var [.sl 0 (c.tables.map Tab.zF)]])
   (fun i=>i≤c.tables.length∧c.at name=vQ (yX name) (c.tables.drop i) i) 1 0 ⟨by simp,rfl⟩ (fun _=>rfl) ⟨rfl,rfl,rfl,trivial⟩ rfl (fun i hi=>?_) (fun i hi=>?_)
 · simp [qF,qG,Own.under,V.under,V.zO]
 obtain ⟨hi,hc⟩:=hi
 rcases Nat.lt_or_ge i c.tables.length with hlt | hge
 · rw [wM hlt] at hc
   by_cases hp:c.tables[i].name=name
   · skip
     repeat' first|(refine zf ?_;first|(refine zq.nil ?_)|(refine zq.ev zx rfl ?_)|(refine zo ?_;first|(refine zq.ans (zk.zm zx rfl rfl rfl rfl) ?_))|(refine qx ?_;first|(refine zq.ans (zk.z8 zx rfl rfl rfl) ?_))|(refine xw ?_;first|(refine zq.ans (zk.yZ zx rfl rfl rfl rfl rfl (by omega) rfl rfl) ?_)))|(refine zH ?_;first|(refine WL.seq ?_)|(refine WL.region (by kernel_rfl) ?_)|(refine WL.block ?_)|(refine WL.skip ?_)|(refine WL.ret ?_)|(refine zu ?_;first|(refine WL.zJ rfl ?_ ?_;(focus (first|(exact decide_eq_true (by assumption))|(simp <;> omega))))))|(refine zw ?_)|(refine zZ ?_)|(refine zB ?_)|(refine qH ?_)|(refine zh.r1 (r := .tmp 4) (.inl rfl) (zn.tmp rfl) ?_)|(refine zX.mk ?_)
     simp [hc,yX,hp]
   · skip
     repeat' first|(refine zf ?_;first|(refine zq.nil ?_)|(refine zq.ev zx rfl ?_)|(refine zo ?_;first|(refine zq.ans (zk.zm zx rfl rfl rfl rfl) ?_))|(refine qx ?_;first|(refine zq.ans (zk.z8 zx rfl rfl rfl) ?_))|(refine xk ?_;first|(refine zq.ans (zk.add rfl rfl ?_) ?_;(focus (constructor <;> omega))))|(refine xw ?_;first|(refine zq.ans (zk.yZ zx rfl rfl rfl rfl rfl (by omega) rfl rfl) ?_)))|(refine zH ?_;first|(refine WL.seq ?_)|(refine WL.region (by kernel_rfl) ?_)|(refine WL.block ?_)|(refine WL.skip ?_)|(refine zu ?_;first|(refine WL.zJ rfl ?_ ?_;(focus (first|(simp <;> omega))))|(refine WL.zY rfl ?_ ?_;(focus (first|(exact decide_eq_false (by assumption)))))))|(refine zw ?_)|(refine zQ ?_)
     all_goals
       refine qB.of (i+1) ?_ ?_ ?_ ?_
       · first | omega |(refine ⟨?_,?_⟩;(focus (first | omega |(simp;omega)));(first | omega |(simp_all [hc,yX,hp] <;> fail)|(simp_all [hc,yX,hp];omega)))|(simp_all [hc,yX,hp] <;> fail)|(simp_all [hc,yX,hp];omega)
       · first | omega |(simp;omega) | simp_all
       · repeat' first
           | exact qz.nil
           |(refine qz.mk rfl ?_ ?_)
           | rfl
           |(simp [hc,yX,hp] <;> fail)
           |(simp [hc,yX,hp];omega)
       · first | rfl |(simp [hc,yX,hp] <;> fail)|(simp [hc,yX,hp];omega)
 · rw [yR hge] at hc
   repeat' first|(refine zf ?_;first|(refine zq.nil ?_)|(refine zq.ev zx rfl ?_)|(refine zo ?_;first|(refine zq.ans (zk.zm zx rfl rfl rfl rfl) ?_))|(refine qx ?_;first|(refine zq.ans (zk.z8 zx rfl rfl rfl) ?_)))|(refine zH ?_;first|(refine WL.seq ?_)|(refine WL.region (by kernel_rfl) ?_)|(refine WL.exit ?_)|(refine WL.ret ?_)|(refine zu ?_;first|(refine WL.zY rfl ?_ ?_;(focus (first|(simp <;> omega))))))|(refine zw ?_)|(refine zC ?_)|(refine zV ?_)|(refine zL ?_)|(refine zh.r1 (r := .tmp 4) (.inl rfl) (zn.tmp rfl) ?_)|(refine zX.mk ?_)
   simp [hc]
theorem bU (c:Tab) (name:List UInt8) (h:c.wt≤1048576) (s:S):VCalls Tryz.prog 28 [c.zF,.str name] s (fun v s'=>v = .int .i64 (c.at name)∧s'=s):=by
 simp only [Tab.wt] at h
 have hl:=jA Col.wt c.qO
 refine zi.pure Tryz.func28 rfl (by kernel_rfl) (by simp) ?_
 repeat' first|(refine zf ?_;first|(refine zq.nil ?_)|(refine zq.ev zx rfl ?_)|(refine qW ?_;refine zq.box rfl rfl rfl rfl ?_))|(refine zH ?_;first|(refine WL.seq ?_)|(refine WL.region (by kernel_rfl) ?_)|(refine WL.block ?_))|(refine zw ?_)
 refine WL.xK (fun i:Nat=>c.qO.length - i) (fun i=>[(1,.str name),(2,.ptr (s.next+0) 0),(5,.int .i64 (i:Int))]) (fun i=>[.var [.str c.name,.sl 0 (c.qO.map Col.zF)]])
   (fun i=>i≤c.qO.length∧c.at name=vQ (jW name) (c.qO.drop i) i) 1 0 ⟨by simp,rfl⟩ (fun _=>rfl) ⟨rfl,rfl,rfl,trivial⟩ rfl (fun i hi=>?_) (fun i hi=>?_)
 · simp [qF,qG,Own.under,V.under,V.zO]
 obtain ⟨hi,hc⟩:=hi
 rcases Nat.lt_or_ge i c.qO.length with hlt | hge
 · rw [wM hlt] at hc
   by_cases hp:c.qO[i].name=name
   · skip
     repeat' first|(refine zf ?_;first|(refine zq.nil ?_)|(refine zq.ev zx rfl ?_)|(refine zo ?_;first|(refine zq.ans (zk.zm zx rfl rfl rfl rfl) ?_))|(refine qx ?_;first|(refine zq.ans (zk.z8 zx rfl rfl rfl) ?_))|(refine xw ?_;first|(refine zq.ans (zk.yZ zx rfl rfl rfl rfl rfl (by omega) rfl rfl) ?_)))|(refine zH ?_;first|(refine WL.seq ?_)|(refine WL.region (by kernel_rfl) ?_)|(refine WL.block ?_)|(refine WL.skip ?_)|(refine WL.ret ?_)|(refine zu ?_;first|(refine WL.zJ rfl ?_ ?_;(focus (first|(exact decide_eq_true (by assumption))|(simp <;> omega))))))|(refine zw ?_)|(refine zZ ?_)|(refine zB ?_)|(refine qH ?_)|(refine zh.r1 (r := .tmp 4) (.inl rfl) (zn.tmp rfl) ?_)|(refine zX.mk ?_)
     simp [hc,jW,hp]
   · skip
     repeat' first|(refine zf ?_;first|(refine zq.nil ?_)|(refine zq.ev zx rfl ?_)|(refine zo ?_;first|(refine zq.ans (zk.zm zx rfl rfl rfl rfl) ?_))|(refine qx ?_;first|(refine zq.ans (zk.z8 zx rfl rfl rfl) ?_))|(refine xk ?_;first|(refine zq.ans (zk.add rfl rfl ?_) ?_;(focus (constructor <;> omega))))|(refine xw ?_;first|(refine zq.ans (zk.yZ zx rfl rfl rfl rfl rfl (by omega) rfl rfl) ?_)))|(refine zH ?_;first|(refine WL.seq ?_)|(refine WL.region (by kernel_rfl) ?_)|(refine WL.block ?_)|(refine WL.skip ?_)|(refine zu ?_;first|(refine WL.zJ rfl ?_ ?_;(focus (first|(simp <;> omega))))|(refine WL.zY rfl ?_ ?_;(focus (first|(exact decide_eq_false (by assumption)))))))|(refine zw ?_)|(refine zQ ?_)
     all_goals
       refine qB.of (i+1) ?_ ?_ ?_ ?_
       · first | omega |(refine ⟨?_,?_⟩;(focus (first | omega |(simp;omega)));(first | omega |(simp_all [hc,jW,hp] <;> fail)|(simp_all [hc,jW,hp];omega)))|(simp_all [hc,jW,hp] <;> fail)|(simp_all [hc,jW,hp];omega)
       · first | omega |(simp;omega) | simp_all
       · repeat' first
           | exact qz.nil
           |(refine qz.mk rfl ?_ ?_)
           | rfl
           |(simp [hc,jW,hp] <;> fail)
           |(simp [hc,jW,hp];omega)
       · first | rfl |(simp [hc,jW,hp] <;> fail)|(simp [hc,jW,hp];omega)
 · rw [yR hge] at hc
   repeat' first|(refine zf ?_;first|(refine zq.nil ?_)|(refine zq.ev zx rfl ?_)|(refine zo ?_;first|(refine zq.ans (zk.zm zx rfl rfl rfl rfl) ?_))|(refine qx ?_;first|(refine zq.ans (zk.z8 zx rfl rfl rfl) ?_)))|(refine zH ?_;first|(refine WL.seq ?_)|(refine WL.region (by kernel_rfl) ?_)|(refine WL.exit ?_)|(refine WL.ret ?_)|(refine zu ?_;first|(refine WL.zY rfl ?_ ?_;(focus (first|(simp <;> omega))))))|(refine zw ?_)|(refine zC ?_)|(refine zV ?_)|(refine zL ?_)|(refine zh.r1 (r := .tmp 4) (.inl rfl) (zn.tmp rfl) ?_)|(refine zX.mk ?_)
   simp [hc]
theorem pV (xs:List Tab) (p:Tab→Bool) (g:FuncId) (caps:List V) (hxs:xs.length≤1048576) (s:S) (hg:zW Tryz.prog g) (hcd:V.zO s.next caps=true)
   (hp:∀ x ys,VCalls Tryz.prog g (x.zF::caps) (s.ext ys) (fun v s'=>v = .bool (p x)∧s'=s.ext ys)) :
   VCalls Tryz.prog 82 [.sl 0 (xs.map Tab.zF),.fn g caps] s (fun v s'=>v = .int .i64 (vQ p xs 0)∧s'=s):=by
 refine zi.pure Tryz.func82 rfl (by kernel_rfl) (by simp) ?_
 repeat' first|(refine zf ?_;first|(refine zq.nil ?_)|(refine zq.ev zx rfl ?_)|(refine qx ?_;first|(refine zq.ans (zk.z8 zx rfl rfl rfl) ?_)))|(refine zH ?_;first|(refine WL.seq ?_)|(refine WL.region (by kernel_rfl) ?_)|(refine WL.block ?_))|(refine zw ?_)
 refine WL.xK (fun i:Nat=>xs.length - i) (fun i=>[(0,.sl 0 (xs.map Tab.zF)),(1,.fn g caps),(7,.int .i64 xs.length),(8,.int .i64 (i:Int))]) (fun i=>[])
   (fun i=>i≤xs.length∧vQ p xs 0=vQ p (xs.drop i) i) 0 0 ⟨by simp,rfl⟩ (fun _=>rfl) ⟨rfl,rfl,rfl,rfl,trivial⟩ rfl (fun i hi=>?_) (fun i hi=>?_)
 · simp [qF,qG,Own.under,V.under,V.zO,hcd]
 obtain ⟨hi,hc⟩:=hi
 rcases Nat.lt_or_ge i xs.length with hlt | hge
 · rw [wM hlt] at hc
   cases hpx:p xs[i]
   · skip
     repeat' first|(refine zf ?_;first|(refine zq.nil ?_)|(refine zq.ev zx rfl ?_)|(refine xk ?_;first|(refine zq.ans (zk.add rfl rfl ?_) ?_;(focus (constructor <;> omega))))|(refine xw ?_;first|(refine zq.ans (zk.yZ zx rfl rfl rfl rfl rfl (by omega) rfl rfl) ?_))|(refine dw ?_;first|(refine zq.ans (zk.ze rfl rfl rfl (hg) (hp _ _)) ?_)))|(refine zH ?_;first|(refine WL.seq ?_)|(refine WL.region (by kernel_rfl) ?_)|(refine WL.block ?_)|(refine WL.skip ?_)|(refine zu ?_;first|(refine WL.zJ rfl ?_ ?_;(focus (first|(simp <;> omega))))|(refine WL.zY rfl ?_ ?_;(focus (first|(assumption))))))|(refine zw ?_)|(refine zQ ?_)
     all_goals
       refine qB.of (i+1) ?_ ?_ ?_ ?_
       · first | omega |(refine ⟨?_,?_⟩;(focus (first | omega |(simp;omega)));(first | omega |(simp_all [hc,hpx] <;> fail)|(simp_all [hc,hpx];omega)))|(simp_all [hc,hpx] <;> fail)|(simp_all [hc,hpx];omega)
       · first | omega |(simp;omega) | simp_all
       · repeat' first
           | exact qz.nil
           |(refine qz.mk rfl ?_ ?_)
           | rfl
           |(simp [hc,hpx] <;> fail)
           |(simp [hc,hpx];omega)
       · first | rfl |(simp [hc,hpx] <;> fail)|(simp [hc,hpx];omega)
   · skip
     repeat' first|(refine zf ?_;first|(refine zq.nil ?_)|(refine zq.ev zx rfl ?_)|(refine xw ?_;first|(refine zq.ans (zk.yZ zx rfl rfl rfl rfl rfl (by omega) rfl rfl) ?_))|(refine dw ?_;first|(refine zq.ans (zk.ze rfl rfl rfl (hg) (hp _ _)) ?_)))|(refine zH ?_;first|(refine WL.seq ?_)|(refine WL.region (by kernel_rfl) ?_)|(refine WL.block ?_)|(refine WL.skip ?_)|(refine WL.ret ?_)|(refine zu ?_;first|(refine WL.zJ rfl ?_ ?_;(focus (first|(assumption)|(simp <;> omega))))))|(refine zw ?_)|(refine zZ ?_)|(refine zB ?_)|(refine qH ?_)|(refine zh.r1 (r := .tmp 4) (.inl rfl) (zn.tmp rfl) ?_)|(refine zX.mk ?_)
     simp [hc,hpx]
 · rw [yR hge] at hc
   repeat' first|(refine zf ?_;first|(refine zq.nil ?_)|(refine zq.ev zx rfl ?_))|(refine zH ?_;first|(refine WL.seq ?_)|(refine WL.region (by kernel_rfl) ?_)|(refine WL.exit ?_)|(refine WL.ret ?_)|(refine zu ?_;first|(refine WL.zY rfl ?_ ?_;(focus (first|(simp <;> omega))))))|(refine zw ?_)|(refine zC ?_)|(refine zV ?_)|(refine zL ?_)|(refine zh.r1 (r := .tmp 4) (.inl rfl) (zn.tmp rfl) ?_)|(refine zX.mk ?_)
   simp [hc]
theorem Zg (x:Tab) (name:List UInt8) (l:Nat) (s:S) (hl:l<s.next) (hv:s.vars l=some [.str name]):VCalls Tryz.prog 83 [x.zF,.ptr l 0] s (fun v s'=>v = .bool (yX name x)∧s'=s):=by
 refine zi.pure Tryz.func83 rfl (by kernel_rfl) (by simp) ?_
 repeat' first|(refine zf ?_;first|(refine zq.nil ?_)|(refine zq.ev zx rfl ?_)|(refine qW ?_;refine zq.box rfl rfl rfl rfl ?_)|(refine zo ?_;first|(refine zq.ans (zk.Zx zx rfl hl hv rfl rfl) ?_)|(refine zq.ans (zk.zm zx rfl rfl rfl rfl) ?_)))|(refine zH ?_;first|(refine WL.seq ?_)|(refine WL.region (by kernel_rfl) ?_)|(refine WL.ret ?_))|(refine zw ?_)|(refine zh.r1 (r := .tmp 3) (.inl rfl) (zn.tmp rfl) ?_)|(refine zX.mk ?_)
 simp [yX]
theorem lg (c:jy) (name:List UInt8) (h:c.wt≤1048576) (s:S):VCalls Tryz.prog 47 [c.zF,.str name] s (fun v s'=>v = .int .i64 (c.at name)∧s'=s):=by
 simp only [jy.wt] at h
 have hl:=jA Tab.wt c.tables
 refine zi.pure Tryz.func47 rfl (by kernel_rfl) (by simp) ?_
 repeat' first|(refine zf ?_;first|(refine zq.nil ?_)|(refine zq.ev zx rfl ?_)|(refine qW ?_;refine zq.box rfl rfl rfl rfl ?_)|(refine zo ?_;first|(refine zq.ans (zk.zm zx rfl rfl rfl rfl) ?_))|(refine zy 82 ?_;first|(refine zq.ans (zk.ze rfl rfl rfl (Od) (pV _ (yX name) _ _ ?_ _ Oe ?_ ?_)) ?_;(focus (omega));(focus (simp [V.zO,V.under]));(focus (exact fun x ys=>Zg x name _ _ (by simp) (by simp))))))|(refine zH ?_;first|(refine WL.seq ?_)|(refine WL.region (by kernel_rfl) ?_)|(refine WL.ret ?_))|(refine zw ?_)|(refine zh.r1 (r := .tmp 4) (.inl rfl) (zn.tmp rfl) ?_)|(refine zX.mk ?_)
 rfl
theorem Zh (xs:List Col) (p:Col→Bool) (g:FuncId) (caps:List V) (hxs:xs.length≤1048576) (s:S) (hg:zW Tryz.prog g) (hcd:V.zO s.next caps=true)
   (hp:∀ x ys,VCalls Tryz.prog g (x.zF::caps) (s.ext ys) (fun v s'=>v = .bool (p x)∧s'=s.ext ys)) :
   VCalls Tryz.prog 104 [.sl 0 (xs.map Col.zF),.fn g caps] s (fun v s'=>v = .int .i64 (vQ p xs 0)∧s'=s):=by
 refine zi.pure Tryz.func104 rfl (by kernel_rfl) (by simp) ?_
 repeat' first|(refine zf ?_;first|(refine zq.nil ?_)|(refine zq.ev zx rfl ?_)|(refine qx ?_;first|(refine zq.ans (zk.z8 zx rfl rfl rfl) ?_)))|(refine zH ?_;first|(refine WL.seq ?_)|(refine WL.region (by kernel_rfl) ?_)|(refine WL.block ?_))|(refine zw ?_)
 refine WL.xK (fun i:Nat=>xs.length - i) (fun i=>[(0,.sl 0 (xs.map Col.zF)),(1,.fn g caps),(7,.int .i64 xs.length),(8,.int .i64 (i:Int))]) (fun i=>[])
   (fun i=>i≤xs.length∧vQ p xs 0=vQ p (xs.drop i) i) 0 0 ⟨by simp,rfl⟩ (fun _=>rfl) ⟨rfl,rfl,rfl,rfl,trivial⟩ rfl (fun i hi=>?_) (fun i hi=>?_)
 · simp [qF,qG,Own.under,V.under,V.zO,hcd]
 obtain ⟨hi,hc⟩:=hi
 rcases Nat.lt_or_ge i xs.length with hlt | hge
 · rw [wM hlt] at hc
   cases hpx:p xs[i]
   · skip
     repeat' first|(refine zf ?_;first|(refine zq.nil ?_)|(refine zq.ev zx rfl ?_)|(refine xk ?_;first|(refine zq.ans (zk.add rfl rfl ?_) ?_;(focus (constructor <;> omega))))|(refine xw ?_;first|(refine zq.ans (zk.yZ zx rfl rfl rfl rfl rfl (by omega) rfl rfl) ?_))|(refine dw ?_;first|(refine zq.ans (zk.ze rfl rfl rfl (hg) (hp _ _)) ?_)))|(refine zH ?_;first|(refine WL.seq ?_)|(refine WL.region (by kernel_rfl) ?_)|(refine WL.block ?_)|(refine WL.skip ?_)|(refine zu ?_;first|(refine WL.zJ rfl ?_ ?_;(focus (first|(simp <;> omega))))|(refine WL.zY rfl ?_ ?_;(focus (first|(assumption))))))|(refine zw ?_)|(refine zQ ?_)
     all_goals
       refine qB.of (i+1) ?_ ?_ ?_ ?_
       · first | omega |(refine ⟨?_,?_⟩;(focus (first | omega |(simp;omega)));(first | omega |(simp_all [hc,hpx] <;> fail)|(simp_all [hc,hpx];omega)))|(simp_all [hc,hpx] <;> fail)|(simp_all [hc,hpx];omega)
       · first | omega |(simp;omega) | simp_all
       · repeat' first
           | exact qz.nil
           |(refine qz.mk rfl ?_ ?_)
           | rfl
           |(simp [hc,hpx] <;> fail)
           |(simp [hc,hpx];omega)
       · first | rfl |(simp [hc,hpx] <;> fail)|(simp [hc,hpx];omega)
   · skip
     repeat' first|(refine zf ?_;first|(refine zq.nil ?_)|(refine zq.ev zx rfl ?_)|(refine xw ?_;first|(refine zq.ans (zk.yZ zx rfl rfl rfl rfl rfl (by omega) rfl rfl) ?_))|(refine dw ?_;first|(refine zq.ans (zk.ze rfl rfl rfl (hg) (hp _ _)) ?_)))|(refine zH ?_;first|(refine WL.seq ?_)|(refine WL.region (by kernel_rfl) ?_)|(refine WL.block ?_)|(refine WL.skip ?_)|(refine WL.ret ?_)|(refine zu ?_;first|(refine WL.zJ rfl ?_ ?_;(focus (first|(assumption)|(simp <;> omega))))))|(refine zw ?_)|(refine zZ ?_)|(refine zB ?_)|(refine qH ?_)|(refine zh.r1 (r := .tmp 4) (.inl rfl) (zn.tmp rfl) ?_)|(refine zX.mk ?_)
     simp [hc,hpx]
 · rw [yR hge] at hc
   repeat' first|(refine zf ?_;first|(refine zq.nil ?_)|(refine zq.ev zx rfl ?_))|(refine zH ?_;first|(refine WL.seq ?_)|(refine WL.region (by kernel_rfl) ?_)|(refine WL.exit ?_)|(refine WL.ret ?_)|(refine zu ?_;first|(refine WL.zY rfl ?_ ?_;(focus (first|(simp <;> omega))))))|(refine zw ?_)|(refine zC ?_)|(refine zV ?_)|(refine zL ?_)|(refine zh.r1 (r := .tmp 4) (.inl rfl) (zn.tmp rfl) ?_)|(refine zX.mk ?_)
   simp [hc]
theorem XF (x:Col) (name:List UInt8) (l:Nat) (s:S) (hl:l<s.next) (hv:s.vars l=some [.str name]):VCalls Tryz.prog 105 [x.zF,.ptr l 0] s (fun v s'=>v = .bool (jW name x)∧s'=s):=by
 refine zi.pure Tryz.func105 rfl (by kernel_rfl) (by simp) ?_
 repeat' first|(refine zf ?_;first|(refine zq.nil ?_)|(refine zq.ev zx rfl ?_)|(refine qW ?_;refine zq.box rfl rfl rfl rfl ?_)|(refine zo ?_;first|(refine zq.ans (zk.Zx zx rfl hl hv rfl rfl) ?_)|(refine zq.ans (zk.zm zx rfl rfl rfl rfl) ?_)))|(refine zH ?_;first|(refine WL.seq ?_)|(refine WL.region (by kernel_rfl) ?_)|(refine WL.ret ?_))|(refine zw ?_)|(refine zh.r1 (r := .tmp 3) (.inl rfl) (zn.tmp rfl) ?_)|(refine zX.mk ?_)
 simp [jW]
theorem rW (c:Tab) (name:List UInt8) (h:c.wt≤1048576) (s:S):VCalls Tryz.prog 81 [c.zF,.str name] s (fun v s'=>v = .int .i64 (c.at name)∧s'=s):=by
 simp only [Tab.wt] at h
 have hl:=jA Col.wt c.qO
 refine zi.pure Tryz.func81 rfl (by kernel_rfl) (by simp) ?_
 repeat' first|(refine zf ?_;first|(refine zq.nil ?_)|(refine zq.ev zx rfl ?_)|(refine qW ?_;refine zq.box rfl rfl rfl rfl ?_)|(refine zo ?_;first|(refine zq.ans (zk.zm zx rfl rfl rfl rfl) ?_))|(refine zy 104 ?_;first|(refine zq.ans (zk.ze rfl rfl rfl (HV) (Zh _ (jW name) _ _ ?_ _ HY ?_ ?_)) ?_;(focus (omega));(focus (simp [V.zO,V.under]));(focus (exact fun x ys=>XF x name _ _ (by simp) (by simp))))))|(refine zH ?_;first|(refine WL.seq ?_)|(refine WL.region (by kernel_rfl) ?_)|(refine WL.ret ?_))|(refine zw ?_)|(refine zh.r1 (r := .tmp 4) (.inl rfl) (zn.tmp rfl) ?_)|(refine zX.mk ?_)
 rfl
end Go.Proofs.YtolhegocbkckdaaGreat

namespace Go.Proofs.YtolhegocbkckdaaGreat
open Go
set_option linter.unusedSimpArgs false
set_option linter.unusedVariables false
@[simp] theorem Ma (i:IntKind) (n k:Int):nk (.int i n) k=k+1:=by simp only [nk]
@[simp] theorem Lb (b:Bool) (k:Int):nk (.bool b) k=k+1:=by simp only [nk]
@[simp] theorem Mc (b:List UInt8) (k:Int):nk (.str b) k=k+1:=by simp only [nk]
section
variable {P:Program} {L:Kn} {s:S} {tt:BT}
theorem zk.toStr (ht:tt.ok P) {U T e:TypeId} {u t te:Ty} {x:Operand} {id:Nat} {us:List V} {bs:List UInt8} (hx:jf L x=some (.sl id us)) (hU:tt.get U=some u) (MO:u.kd = .slice e) (hT:tt.get T=some t) (hkt:t.kd = .string)
   (hte:tt.get e=some te) (hke:te.kd = .int .u8) (hsz:Nat.beq te.size 1=true) (hb:yG us=some bs):zk P (.convert U T x) L s (.str bs) :=
 .of fun σ hσ _ _ _ _ _=>by
   have h1:te.size=1:=Nat.eq_of_beq_eq_true hsz
   simp only [vU,qd hσ hx,bS,tZ,ht.get hU,ht.get hT,MO,hkt,ht.get hte,hke,h1,if_true,uO,hb,Option.bind_some,Option.map_some]
end
theorem OJ {α : Type} {f : α → V} {l:List α} (h:¬ l=[]):(l.map f).isEmpty=false:=by cases l <;> simp_all
theorem BP (n i:Nat) (xs:List V):(kH n (.sl i xs)).1.cells=[(kH n (.sl i xs)).1]:=by
 unfold kH
 cases xs.isEmpty <;> rfl
theorem zG {v:V} {vs:List V} (h1:v.plain=true) (h2:V.xV vs=true):V.xV (v::vs)=true:=by simp only [V.xV,h1,h2,Bool.and_self]
theorem wX (l:List Int):V.plain (.sl 0 (l.map iV))=true:=jR (f:=iV) 1 (fun _=>rfl) (fun _=>rfl) l
theorem lZ (l:List (List UInt8)):V.plain (.sl 0 (l.map sV))=true:=jR (f:=sV) 1 (fun _=>rfl) (fun _=>rfl) l
theorem XG (l:List Val):V.plain (.sl 0 (l.map Val.zF))=true:=jR (f:=Val.zF) 3 (fun x=>(zG rfl (zG rfl (zG rfl rfl)))) (fun _=>rfl) l
theorem Zi (l:List Col):V.plain (.sl 0 (l.map Col.zF))=true:=jR (f:=Col.zF) 2 (fun x=>(zG rfl (zG rfl rfl))) (fun _=>rfl) l
theorem XH (l:List Named):V.plain (.sl 0 (l.map Named.zF))=true:=jR (f:=Named.zF) 3 (fun x=>(zG rfl (zG rfl (zG rfl rfl)))) (fun _=>rfl) l
theorem bA (l:List Bind):V.plain (.sl 0 (l.map Bind.zF))=true:=jR (f:=Bind.zF) 3 (fun x=>(zG rfl (zG rfl (zG rfl rfl)))) (fun _=>rfl) l
theorem BR (l:List Token):V.plain (.sl 0 (l.map Token.zF))=true:=jR (f:=Token.zF) 3 (fun x=>(zG rfl (zG rfl (zG rfl rfl)))) (fun _=>rfl) l
theorem Dw (l:List (List Int)):V.plain (.sl 0 (l.map ints))=true:=jR (f:=ints) 1 (fun x=>wX x) (fun _=>rfl) l
theorem Z9 (l:List (List Val)):V.plain (.sl 0 (l.map Val.xS))=true:=jR (f:=Val.xS) 1 (fun x=>XG x) (fun _=>rfl) l
theorem aj (l:List Tab):V.plain (.sl 0 (l.map Tab.zF))=true:=jR (f:=Tab.zF) 2 (fun x=>(zG rfl (zG (Zi x.qO) rfl))) (fun _=>rfl) l
theorem Dy (l:List Data):V.plain (.sl 0 (l.map Data.zF))=true:=jR (f:=Data.zF) 1 (fun x=>(zG (Z9 x.rows) rfl)) (fun _=>rfl) l
theorem BS (l:List Scope):V.plain (.sl 0 (l.map Scope.zF))=true:=jR (f:=Scope.zF) 1 (fun x=>(zG (XH x.names) rfl)) (fun _=>rfl) l
end Go.Proofs.YtolhegocbkckdaaGreat

namespace Go.Proofs.YtolhegocbkckdaaGreat
open Go
set_option linter.unusedSimpArgs false
set_option linter.unusedVariables false
def jw (x lo hi:Int):Bool:=decide (lo≤x)&&decide (x≤hi)
theorem q9 (x lo hi:Int) (s:S):VCalls Tryz.prog 27 [.int .i64 x,.int .i64 lo,.int .i64 hi] s (fun v s'=>v = .bool (jw x lo hi)∧s'=s):=by
 refine zi.pure Tryz.func27 rfl (by kernel_rfl) (by simp) ?_
 repeat' first|(refine zf ?_;first|(refine zq.nil ?_)|(refine kG ?_;first|(refine zq.gT rfl rfl rfl ?_)|(refine zq.gF rfl rfl rfl ?_)|(refine zq.gC rfl rfl rfl (fun h=>?_) (fun h=>?_)))|(refine zq.ev zx rfl ?_))|(refine zH ?_;first|(refine WL.seq ?_)|(refine WL.region (by kernel_rfl) ?_)|(refine WL.ret ?_))|(refine zw ?_)|(refine zh.r1 (r := .tmp 6) (.inl rfl) (zn.tmp rfl) ?_)|(refine zX.mk ?_)
 all_goals (simp_all [jw] <;> omega)
def Val.ok (v:Val):Bool :=
 if v.kind=0 then decide (v.num=0)&&decide (v.text=[]) else if v.kind=1 then decide (v.text=[]) else
 if v.kind=2 then decide (v.num=0)&&decide ((v.text.length:Int)≤200) else if v.kind=3 then jw v.num 0 1&&decide (v.text=[]) else false
def Val.fits (v:Val) (ty:Int):Bool:=v.ok&&(decide (v.kind=0) || decide (v.kind=ty))
theorem Lc {n:Int}:jw n 0 1=(decide (n=0) || decide (n=1)):=by
 unfold jw
 by_cases h0:n=0
 · subst h0;decide
 by_cases h1:n=1
 · subst h1;decide
 simp only [h0,h1,decide_false,Bool.or_self,Bool.and_eq_false_iff,decide_eq_false_iff_not]
 omega
theorem Qz (v:Val) (s:S):VCalls Tryz.prog 125 [v.zF] s (fun r s'=>r = .bool v.ok∧s'=s):=by
 refine zi.pure Tryz.func125 rfl (by kernel_rfl) (by simp) ?_
 repeat' first|(refine zf ?_;first|(refine zq.nil ?_)|(refine kG ?_;first|(refine zq.gT rfl rfl rfl ?_)|(refine zq.gF rfl rfl rfl ?_)|(refine zq.gC rfl rfl rfl (fun h=>?_) (fun h=>?_)))|(refine zq.ev zx rfl ?_)|(refine qW ?_;refine zq.box rfl rfl rfl rfl ?_)|(refine zo ?_;first|(refine zq.ans (zk.zm zx rfl rfl rfl rfl) ?_))|(refine zy 27 ?_;first|(refine zq.ans (zk.ze rfl rfl rfl (jO) (q9 _ _ _ _)) ?_)))|(refine zH ?_;first|(refine WL.seq ?_)|(refine WL.region (by kernel_rfl) ?_)|(refine WL.block ?_)|(refine WL.skip ?_)|(refine WL.ret ?_)|(refine zu ?_;first|(refine WL.cond rfl (fun h=>?_) (fun h=>?_))))|(refine zw ?_)|(refine zZ ?_)|(refine zQ ?_)|(refine zB ?_)|(refine zh.r1 (r := .tmp 2) (.inl rfl) (zn.tmp rfl) ?_)|(refine zX.mk ?_)
 all_goals simp_all [Val.ok]
theorem Qq (v:Val) (s:S):VCalls Tryz.prog 120 [v.zF] s (fun r s'=>r = .bool v.ok∧s'=s):=by
 refine zi.pure Tryz.func120 rfl (by kernel_rfl) (by simp) ?_
 repeat' first|(refine zf ?_;first|(refine zq.nil ?_)|(refine kG ?_;first|(refine zq.gT rfl rfl rfl ?_)|(refine zq.gF rfl rfl rfl ?_)|(refine zq.gC rfl rfl rfl (fun h=>?_) (fun h=>?_)))|(refine zq.ev zx rfl ?_)|(refine qW ?_;refine zq.box rfl rfl rfl rfl ?_)|(refine zo ?_;first|(refine zq.ans (zk.zm zx rfl rfl rfl rfl) ?_)))|(refine zH ?_;first|(refine WL.seq ?_)|(refine WL.region (by kernel_rfl) ?_)|(refine WL.block ?_)|(refine WL.skip ?_)|(refine WL.ret ?_)|(refine zu ?_;first|(refine WL.cond rfl (fun h=>?_) (fun h=>?_))))|(refine zw ?_)|(refine zZ ?_)|(refine zQ ?_)|(refine zB ?_)|(refine zh.r1 (r := .tmp 2) (.inl rfl) (zn.tmp rfl) ?_)|(refine zX.mk ?_)
 all_goals simp_all [Val.ok,Lc]
def WV:List Val→List Int→Bool
 | v::vs,t::ts=>v.fits t&&WV vs ts
 | _,_=>true
def rowFits (row:List Val) (types:List Int):Bool:=decide (row.length=types.length)&&WV row types
end Go.Proofs.YtolhegocbkckdaaGreat

namespace Go.Proofs.YtolhegocbkckdaaGreat
open Go
set_option linter.unusedSimpArgs false
set_option linter.unusedVariables false
end Go.Proofs.YtolhegocbkckdaaGreat
