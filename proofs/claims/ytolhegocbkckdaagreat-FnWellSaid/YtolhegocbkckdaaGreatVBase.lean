/-
 The value level: values that carry what a slice holds inside themselves, and what it means that a value of the model represents one of them. Own work; no condition.
-/
import Derived.ProofKit
import Derived.WalkKit
namespace Go.Proofs.YtolhegocbkckdaaGreat
open Go
inductive Cp where
 | un
 | eq
 | is (c:Nat)
def Cp.ok:Cp→Nat→Nat→Prop
 | .un,_,_=>True
 | .eq,cap,len=>cap=len
 | .is c,cap,_=>cap=c
inductive V where
 | int (k:IntKind) (n:Int)
 | bool (b:Bool)
 | str (s:List UInt8)
 | agg (cs:List V)
 | ptr (l off:Nat)
 | xG (cs:List V) (off:Nat)
 | kC
 | sl (id:Nat) (xs:List V)
 | jo
 | zl
 | qJ (ex:Cp) (l off len:Nat)
 | fn (f:Nat) (caps:List V)
 | jY (vs:List V)
 | und
 | raw (v:Value)
def V.cells:V→List V
 | .agg cs=>cs
 | .raw v=>v.cells.toList.map .raw
 | v=>[v]
def V.flat (xs:List V):List V:=xs.flatMap V.cells
def V.one:V→Bool
 | .agg _ | .jY _ | .und | .raw _=>false
 | _=>true
structure Fam where
 len:Nat
 blk:Option Nat
 cap:Nat
 sz:Nat
structure Env where
 w:World
 vY:Nat→Nat→Prop
 loc:Nat→Option Nat
 fam:Nat→Option Fam
def Seg (E:Env) (g off:Nat) (vals:List Value):Prop :=
 ∀ j v,vals[j]?=some v→E.vY g (off+j)∧E.w.cell? ⟨g,off+j,none⟩=some v
def Kr (E:Env) (id n g off cap sz:Nat):Prop :=
 id=0∨∃ F,E.fam id=some F∧n≤F.len∧(n=F.len→F.blk=some g∧off=0∧cap=F.cap∧sz=F.sz)
def oC (E:Env) (id:Nat):Prop :=
 id=0∨∃ F,E.fam id=some F∧(F.len=0→F.blk=none)
mutual
inductive qy (E:Env):V→Value→Prop
 | int {k n}:k.min≤n→n≤k.max→qy E (.int k n) (.int k n)
 | bool {b}:qy E (.bool b) (.bool b)
 | str {s}:s.length≤maxLen→qy E (.str s) (.string ⟨s.toArray⟩)
 | agg {cs vals}:ql E cs vals→qy E (.agg cs) (.agg vals.toArray)
 | ptr {l off g}:E.loc l=some g→qy E (.ptr l off) (.pointer (some ⟨g,off,none⟩))
 | xG {cs vals g off k}:ql E cs vals→Seg E g off vals→qy E (.xG cs k) (.pointer (some ⟨g,off+k,none⟩))
 | kC:qy E .kC (.pointer none)
 | sl {id xs vals g off cap sz}:(∀ x∈xs,x.cells.length=sz)→xs.length≤cap→cap≤maxLen→ql E (V.flat xs) vals→Seg E g off vals →
     Kr E id xs.length g off cap sz→qy E (.sl id xs) (.slice (some ⟨g,off,none⟩) xs.length cap)
 | iy {id a}:oC E id→qy E (.sl id []) (.slice a 0 0)
 | jo {a}:qy E .jo (.slice a 0 0)
 | zl:qy E .zl (.slice none 0 0)
 | qJ {ex l off len cap g}:E.loc l=some g→len≤cap→cap≤maxLen→ex.ok cap len→qy E (.qJ ex l off len) (.slice (some ⟨g,off,none⟩) len cap)
 | jS {a}:qy E (.qJ (.is 0) 0 0 0) (.slice a 0 0)
 | fn {f caps vals}:ql E caps vals→qy E (.fn f caps) (.func (.func f) #[] vals.toArray)
 | jY {vs vals}:ql E vs vals→qy E (.jY vs) (.tuple vals.toArray)
 | und:qy E .und undef
 | raw {val}:qy E (.raw val) val
inductive ql (E:Env):List V→List Value→Prop
 | nil:ql E [] []
 | cons {v vs val vals}:qy E v val→ql E vs vals→ql E (v::vs) (val::vals)
end
structure jc (E E':Env):Prop where
 vY:∀ g o,E.vY g o→E'.vY g o
 cell:∀ g o,E.vY g o→E'.w.cell? ⟨g,o,none⟩=E.w.cell? ⟨g,o,none⟩
 loc:∀ l g,E.loc l=some g→E'.loc l=some g
 fam:∀ id F,E.fam id=some F→∃ F',E'.fam id=some F'∧F.len≤F'.len∧(F.len=F'.len→F'=F)
theorem jc.refl (E:Env):jc E E:=⟨fun _ _ h=>h,fun _ _ _=>rfl,fun _ _ h=>h,fun _ F h=>⟨F,h,Nat.le_refl _,fun _=>rfl⟩⟩
theorem jc.trans {A B C:Env} (h:jc A B) (k:jc B C):jc A C:=by
 refine ⟨fun g o i=>k.vY g o (h.vY g o i),fun g o i=>(k.cell g o (h.vY g o i)).trans (h.cell g o i),fun l g i=>k.loc l g (h.loc l g i),fun id F i=>?_⟩
 obtain ⟨F1,h1,l1,e1⟩:=h.fam id F i
 obtain ⟨F2,h2,l2,e2⟩:=k.fam id F1 h1
 refine ⟨F2,h2,Nat.le_trans l1 l2,fun e=>?_⟩
 have:F.len=F1.len:=by omega
 rw [e2 (by omega),e1 this]
theorem Seg.xQ {E E':Env} {g off:Nat} {vals:List Value} (h:Seg E g off vals) (ev:jc E E'):Seg E' g off vals :=
 fun j v hj=>⟨ev.vY _ _ (h j v hj).1,(ev.cell _ _ (h j v hj).1).trans (h j v hj).2⟩
theorem Kr.xQ {E E':Env} {id n g off cap sz:Nat} (h:Kr E id n g off cap sz) (ev:jc E E'):Kr E' id n g off cap sz:=by
 rcases h with h | ⟨F,hF,hn,he⟩
 · exact .inl h
 · obtain ⟨F', h1, h2, h3⟩ := ev.fam id F hF
   refine .inr ⟨F',h1,by omega,fun e=>?_⟩
   have e1:F.len=F'.len:=by omega
   rw [h3 e1]
   exact he (by omega)
theorem oC.xQ {E E':Env} {id:Nat} (h:oC E id) (ev:jc E E'):oC E' id:=by
 rcases h with h | ⟨F,hF,he⟩
 · exact .inl h
 · obtain ⟨F', h1, h2, h3⟩ := ev.fam id F hF
   refine .inr ⟨F',h1,fun e=>?_⟩
   have e1:F.len=F'.len:=by omega
   rw [h3 e1]
   exact he (by omega)
theorem qy.xQ {E E':Env} (ev:jc E E') {v:V} {val:Value} (h:qy E v val):qy E' v val:=by
 refine qy.rec (motive_1:=fun v val _=>qy E' v val) (motive_2:=fun vs vals _=>ql E' vs vals) ?_ ?_ ?_ ?_ ?_ ?_ ?_ ?_ ?_ ?_ ?_ ?_ ?_ ?_ ?_ ?_ ?_ ?_ ?_ h
 · intro k n a b;exact .int a b
 · intro b;exact .bool
 · intro s a;exact .str a
 · intro cs vals _ a;exact .agg a
 · intro l off g a;exact .ptr (ev.loc _ _ a)
 · intro cs vals g off k _ s a;exact .xG a (s.xQ ev)
 · exact .kC
 · intro id xs vals g off cap sz a b c _ s f r;exact .sl a b c r (s.xQ ev) (f.xQ ev)
 · intro id a f;exact .iy (f.xQ ev)
 · intro a;exact .jo
 · exact .zl
 · intro ex l off len cap g a b c d;exact .qJ (ev.loc _ _ a) b c d
 · exact .jS
 · intro f caps vals _ a;exact .fn a
 · intro vs vals _ a;exact .jY a
 · exact .und
 · exact .raw
 · exact .nil
 · intro v vs val vals _ _ a b;exact .cons a b
theorem ql.xQ {E E':Env} (ev:jc E E'):∀ {vs:List V} {vals:List Value},ql E vs vals→ql E' vs vals
 | _,_,.nil => .nil
 | _,_,.cons h t => .cons (h.xQ ev) (ql.xQ ev t)
theorem ql.length {E:Env}:∀ {vs:List V} {vals:List Value},ql E vs vals→vals.length=vs.length
 | _,_,.nil=>rfl
 | _,_,.cons _ t=>by simp [ql.length t]
theorem ql.get {E:Env}:∀ {vs:List V} {vals:List Value},ql E vs vals→∀ {i:Nat} {v:V},vs[i]?=some v→∃ val,vals[i]?=some val∧qy E v val
 | _,_,.nil,i,v,h=>by simp at h
 | _,_,.cons (val:=val) h t,0,v,e=>by simp at e;subst e;exact ⟨val,by simp,h⟩
 | _,_,.cons h t,i+1,v,e=>by simpa using ql.get t (i:=i) (by simpa using e)
theorem ql.append {E:Env}:∀ {vs:List V} {vals:List Value} {us:List V} {FV:List Value},ql E vs vals→ql E us FV→ql E (vs++us) (vals++FV)
 | _,_,_,_,.nil,k=>k
 | _,_,_,_,.cons h t,k => .cons h (ql.append t k)
theorem ql.split {E:Env}:∀ {vs us:List V} {vals:List Value},ql E (vs++us) vals→∃ a b,vals=a++b∧ql E vs a∧ql E us b
 | [],us,vals,h=>⟨[],vals,rfl,.nil,h⟩
 | v::vs,us,vals,h=>by
   cases h with
   | cons h t =>
     obtain ⟨a,b,rfl,ha,hb⟩:=ql.split t
     exact ⟨_::a,b,rfl,.cons h ha,hb⟩
theorem ql.take {E:Env} {vs:List V} {vals:List Value} (h:ql E vs vals) (n:Nat):ql E (vs.take n) (vals.take n):=by
 induction n generalizing vs vals with
 | zero=>simpa using ql.nil
 | succ n ih =>
   cases h with
   | nil=>simpa using ql.nil
   | cons h t=>simpa using ql.cons h (ih t)
theorem ql.drop {E:Env} {vs:List V} {vals:List Value} (h:ql E vs vals) (n:Nat):ql E (vs.drop n) (vals.drop n):=by
 induction n generalizing vs vals with
 | zero=>simpa using h
 | succ n ih =>
   cases h with
   | nil=>simpa using ql.nil
   | cons h t=>simpa using ih t
theorem qy.DX {E:Env} {id n g off cap sz:Nat} {xs:List V} {vals:List Value} (hn:xs.length=n) (a:∀ x∈xs,x.cells.length=sz) (b:n≤cap) (c:cap≤maxLen) (r:ql E (V.flat xs) vals) (s:Seg E g off vals)
   (f:Kr E id n g off cap sz):qy E (.sl id xs) (.slice (some ⟨g,off,none⟩) n cap):=by
 subst hn
 exact .sl a b c r s f
theorem qy.cells {E:Env} {v:V} {val:Value} (h:qy E v val):ql E v.cells val.cells.toList:=by
 cases h with
 | agg h=>simpa [V.cells,Value.cells] using h
 | raw =>
   simp only [V.cells]
   generalize val.cells.toList=l
   induction l with
   | nil=>exact .nil
   | cons x l ih=>exact .cons .raw ih
 | _=>simp only [V.cells,Value.cells];exact .cons (by constructor <;> assumption) .nil
theorem qy.one {E:Env} {v:V} {val:Value} (h:qy E v val) (h1:v.one=true):val.oneCell'=true:=by
 cases h <;> simp_all [V.one,Value.oneCell']
mutual
def V.forget:V→V
 | .agg cs => .agg (V.qE cs)
 | .sl _ xs => .sl 0 (V.qE xs)
 | .jo => .sl 0 []
 | .zl => .sl 0 []
 | .jY vs => .jY (V.qE vs)
 | .int k n => .int k n
 | .bool b => .bool b
 | .str s => .str s
 | .ptr l o => .ptr l o
 | .xG cs o => .xG cs o
 | .kC => .kC
 | .qJ x l o n => .qJ x l o n
 | .fn f cs => .fn f cs
 | .und => .und
 | .raw v => .raw v
def V.qE:List V→List V
 | []=>[]
 | v::vs=>V.forget v::V.qE vs
end
theorem V.xL:∀ vs:List V,V.qE vs=vs.map V.forget
 | []=>rfl
 | v::vs=>by simp [V.qE,V.xL vs]
theorem V.mG (v:V):v.forget.cells=v.cells.map V.forget:=by
 cases v <;> simp [V.forget,V.cells,V.xL]
theorem V.Kt (xs:List V):V.flat (xs.map V.forget)=(V.flat xs).map V.forget:=by
 induction xs with
 | nil=>rfl
 | cons x xs ih=>simp only [V.flat,List.map_cons,List.flatMap_cons,List.map_append,V.mG] at *;rw [ih]
theorem qy.forget {E:Env} {v:V} {val:Value} (h:qy E v val):qy E v.forget val:=by
 refine qy.rec (motive_1:=fun v val _=>qy E v.forget val) (motive_2:=fun vs vals _=>ql E (vs.map V.forget) vals) ?_ ?_ ?_ ?_ ?_ ?_ ?_ ?_ ?_ ?_ ?_ ?_ ?_ ?_ ?_ ?_ ?_ ?_ ?_ h
 · intro k n a b;exact .int a b
 · intro b;exact .bool
 · intro s a;exact .str a
 · intro cs vals _ a;rw [V.forget,V.xL];exact .agg a
 · intro l off g a;exact .ptr a
 · intro cs vals g off k r s _;exact .xG r s
 · exact .kC
 · intro id xs vals g off cap sz a b c _ s f r
   rw [V.forget,V.xL]
   have e:xs.length=(xs.map V.forget).length:=by simp
   rw [e]
   refine .sl (sz:=sz) (vals:=vals) (fun x hx=>?_) (by simpa using b) c (by rw [V.Kt];exact r) s (.inl rfl)
   obtain ⟨y,hy,rfl⟩:=List.mem_map.1 hx
   rw [V.mG,List.length_map]
   exact a y hy
 · intro id a f;exact .iy (.inl rfl)
 · intro a;exact .iy (.inl rfl)
 · exact .iy (.inl rfl)
 · intro ex l off len cap g a b c d;exact .qJ a b c d
 · exact .jS
 · intro f caps vals r _;exact .fn r
 · intro vs vals _ a;rw [V.forget,V.xL];exact .jY a
 · exact .und
 · exact .raw
 · exact .nil
 · intro v vs val vals _ _ a b;exact .cons a b
theorem ql.forget {E:Env}:∀ {vs:List V} {vals:List Value},ql E vs vals→ql E (vs.map V.forget) vals
 | _,_,.nil => .nil
 | _,_,.cons h t => .cons h.forget (ql.forget t)
end Go.Proofs.YtolhegocbkckdaaGreat
