/-
 Plans' trees and plans drawn, in memory of one's own. Own work; no condition.
-/
import Derived.Test.YtolhegocbkckdaaGreatVCap
import Derived.Test.YtolhegocbkckdaaGreatMg17
namespace Go.Proofs.YtolhegocbkckdaaGreat
open Go
set_option linter.unusedSimpArgs false
set_option linter.unusedVariables false
theorem Val.vg (a b:Int) (c:List UInt8):V.agg [.int .i64 a,.int .i64 b,.str c]=Val.zF ⟨a,b,c⟩:=rfl
def Du (n:Nat):V→Bool
 | .str x=>decide (x.length≤n)
 | _=>false
theorem vF {x:List UInt8} {vs:List V} {n:Nat} (h:V.str x∈vs) (ha:vs.all (Du n)=true):x.length≤n:=by
 have:=List.all_eq_true.1 ha _ h
 simpa [Du] using this
theorem gQ (n:Int) (s:S):VCalls Tryz.prog 119 [.int .i64 n] s (fun v s'=>v = .agg [.int .i64 1,.int .i64 n,.str []]∧s'=s):=by
 refine zi.pure Tryz.func119 rfl (by kernel_rfl) (by simp) ?_
 repeat' first|(refine zf ?_;first|(refine zq.nil ?_)|(refine zU ?_;refine zq.qD zx rfl rfl rfl rfl rfl rfl rfl rfl rfl ?_)|(refine zq.ev zx rfl ?_)|(refine qj ?_;refine zq.alloc zx rfl rfl rfl rfl ?_))|(refine zH ?_;first|(refine WL.seq ?_)|(refine WL.region (by kernel_rfl) ?_)|(refine WL.ret ?_))|(refine zw ?_)|(refine zh.r1 (r := .cell 2 45) (.inl rfl) (zn.cell zx rfl rfl rfl rfl) ?_)|(refine zX.mk ?_)
 rfl
theorem eP (t:List UInt8) (s:S):VCalls Tryz.prog 117 [.str t] s (fun v s'=>v = .agg [.int .i64 2,.int .i64 0,.str t]∧s'=s):=by
 refine zi.pure Tryz.func117 rfl (by kernel_rfl) (by simp) ?_
 repeat' first|(refine zf ?_;first|(refine zq.nil ?_)|(refine zU ?_;refine zq.qD zx rfl rfl rfl rfl rfl rfl rfl rfl rfl ?_)|(refine zq.ev zx rfl ?_)|(refine qj ?_;refine zq.alloc zx rfl rfl rfl rfl ?_))|(refine zH ?_;first|(refine WL.seq ?_)|(refine WL.region (by kernel_rfl) ?_)|(refine WL.ret ?_))|(refine zw ?_)|(refine zh.r1 (r := .cell 2 45) (.inl rfl) (zn.cell zx rfl rfl rfl rfl) ?_)|(refine zX.mk ?_)
 rfl
theorem eT (b:Bool) (s:S):VCalls Tryz.prog 118 [.bool b] s (fun v s'=>v = .agg [.int .i64 3,.int .i64 (if b then 1 else 0),.str []]∧s'=s):=by
 cases b
 all_goals
   refine zi.pure Tryz.func118 rfl (by kernel_rfl) (by simp) ?_
   repeat' first|(refine zf ?_;first|(refine zq.nil ?_)|(refine zU ?_;refine zq.qD zx rfl rfl rfl rfl rfl rfl rfl rfl rfl ?_)|(refine zq.ev zx rfl ?_)|(refine qj ?_;refine zq.alloc zx rfl rfl rfl rfl ?_))|(refine zH ?_;first|(refine WL.seq ?_)|(refine WL.region (by kernel_rfl) ?_)|(refine WL.skip ?_)|(refine WL.ret ?_)|(refine zu ?_;first|(refine WL.qb rfl ?_)|(refine WL.qQ rfl ?_)))|(refine zw ?_)|(refine zZ ?_)|(refine zh.r1 (r := .cell 2 45) (.inl rfl) (zn.cell zx rfl rfl rfl rfl) ?_)|(refine zX.mk ?_)
   rfl
theorem lQ {b:V} (hb:Bytes b):bN Tryz.prog 103 b [] Val.zF (fun x=>x.text.length≤4):=by
 intro s H l i h hi hh
 refine zi.jX Tryz.func103 rfl (by kernel_rfl) ?_
 repeat' first|(refine qj ?_;refine zq.kR zx hh rfl rfl ?_;intro s n hh)|(refine zU ?_;first|(refine zq.zN zx 1 hh rfl rfl rfl rfl rfl rfl rfl rfl rfl ?_;intro s hh)|(refine zq.zN zx 2 hh rfl rfl rfl rfl rfl rfl rfl rfl rfl ?_;intro s hh))|(refine kZ ?_;refine' zq.XK zx rfl rfl rfl rfl rfl rfl rfl rfl hh ?_ ?_ ?_;rotate_left 2 ;(focus ((repeat' first|(exact xE.sK rfl rfl));done)) ;(focus ((repeat' first|(exact jM.of rfl));done)) ;intro s n hh)|(refine zy 38 ?_;first|(refine zq.qc 0 rfl rfl vE hh rfl rfl ?_ (zP hb (by omega)) ?_;(focus (first | assumption | omega)) ;intro s x i h hq hi hh ;try dsimp only)|(refine zq.qc 1 rfl rfl vE hh rfl rfl ?_ (zP hb (by omega)) ?_;(focus (first | assumption | omega)) ;intro s x i h hq hi hh ;try dsimp only))|(refine zy 76 ?_;first|(refine zq.qc 1 rfl rfl VZ hh rfl rfl ?_ (vC hb rfl (by simp)) ?_;(focus (first | assumption | omega)) ;intro s x i h hq hi hh ;try dsimp only))|(refine zy 68 ?_;first|(refine zq.qc 0 rfl rfl wU hh rfl rfl ?_ (qg hb (by omega)) ?_;(focus (first | assumption | omega)) ;intro s x i h hq hi hh ;try dsimp only))|(refine zy 45 ?_;first|(refine zq.qc 0 rfl rfl XC hh rfl rfl ?_ (jg hb) ?_;(focus (first | assumption | omega)) ;intro s x i h hq hi hh ;try dsimp only))|(refine zf ?_;first|(refine zq.nil ?_)|(refine zq.ev zx rfl ?_)|(refine xk ?_;first|(refine zq.ans (zk.sub rfl rfl ?_) ?_;(focus (constructor <;> omega))))|(refine zy 117 ?_;first|(refine zq.ans (zk.ze rfl rfl rfl (Dz) (eP _ _)) ?_))|(refine zy 118 ?_;first|(refine zq.ans (zk.ze rfl rfl rfl (Dq) (eT _ _)) ?_))|(refine zy 119 ?_;first|(refine zq.ans (zk.ze rfl rfl rfl (Dx) (gQ _ _)) ?_)))|(refine zH ?_;first|(refine WL.seq ?_)|(refine WL.region (by kernel_rfl) ?_)|(refine WL.block ?_)|(refine WL.skip ?_)|(refine WL.ret ?_)|(refine zu ?_;first|(refine WL.cond rfl (fun h=>?_) (fun h=>?_))))|(refine zw ?_)|(refine zZ ?_)|(refine zQ ?_)|(refine zB ?_)|(refine' zh.r1 (r := .cell 2 45) (.inl rfl) ?_ ?_;rotate_left 1;(focus (first|(exact zn.xM 1 zx hh rfl rfl rfl rfl)|(exact zn.xM 2 zx hh rfl rfl rfl rfl))))
 all_goals
   apply bN.fin (x:=⟨_,_,_⟩) (hh:=hh)
   case hv=>first | exact Val.vg _ _ _ | rfl
   case hs=>(first|(refine zK.cons 0 rfl rfl ?_)|(refine zK.cons 1 rfl rfl ?_)|(refine zK.cons 2 rfl rfl ?_)|(refine zK.cons 3 rfl rfl ?_)|(refine zK.cons 4 rfl rfl ?_)|(refine zK.cons 5 rfl rfl ?_)|(refine zK.cons 6 rfl rfl ?_)|(refine zK.cons 7 rfl rfl ?_));(repeat' first|(exact zK.refl _)|(refine zK.drop ?_))
   case hi=>first | assumption | omega |(simp;omega)
   case hp=>first|(simp;done)|(exact vF (by assumption) rfl)
theorem bG {b:V} (hb:Bytes b):bN Tryz.prog 74 b [] Val.zF (fun x=>x.text.length≤4):=by
 intro s H l i h hi hh
 refine zi.jX Tryz.func74 rfl (by kernel_rfl) ?_
 repeat' first|(refine qj ?_;refine zq.kR zx hh rfl rfl ?_;intro s n hh)|(refine zU ?_;first|(refine zq.zN zx 0 hh rfl rfl rfl rfl rfl rfl rfl rfl rfl ?_;intro s hh)|(refine zq.zN zx 2 hh rfl rfl rfl rfl rfl rfl rfl rfl rfl ?_;intro s hh))|(refine zy 103 ?_;first|(refine zq.qc 1 rfl rfl CS hh rfl rfl ?_ (lQ hb) ?_;(focus (first | assumption | omega)) ;intro s x i h hq hi hh ;try dsimp only))|(refine zf ?_;first|(refine zq.nil ?_)|(refine kG ?_;first|(refine zq.gT rfl rfl rfl ?_)|(refine zq.gF rfl rfl rfl ?_)|(refine zq.gC rfl rfl rfl (fun h=>?_) (fun h=>?_)))|(refine zq.ev zx rfl ?_)|(refine zo ?_;first|(refine zq.ans (zk.zM zx 0 hh rfl rfl rfl rfl) ?_)))|(refine zH ?_;first|(refine WL.seq ?_)|(refine WL.region (by kernel_rfl) ?_)|(refine WL.skip ?_)|(refine WL.ret ?_)|(refine zu ?_;first|(refine WL.qQ rfl ?_)|(refine WL.cond rfl (fun h=>?_) (fun h=>?_))))|(refine zw ?_)|(refine' zh.r1 (r := .cell 2 45) (.inl rfl) ?_ ?_;rotate_left 1;(focus (first|(exact zn.xM 2 zx hh rfl rfl rfl rfl))))
 all_goals
   apply bN.fin (x:=⟨_,_,_⟩) (hh:=hh)
   case hv=>first | exact Val.vg _ _ _ | rfl
   case hs=>(first|(refine zK.cons 0 rfl rfl ?_)|(refine zK.cons 1 rfl rfl ?_)|(refine zK.cons 2 rfl rfl ?_)|(refine zK.cons 3 rfl rfl ?_)|(refine zK.cons 4 rfl rfl ?_)|(refine zK.cons 5 rfl rfl ?_)|(refine zK.cons 6 rfl rfl ?_)|(refine zK.cons 7 rfl rfl ?_));(repeat' first|(exact zK.refl _)|(refine zK.drop ?_))
   case hi=>first | assumption | omega |(simp;omega)
   case hp=>assumption
theorem eZ {b:V} (hb:Bytes b):bN Tryz.prog 79 b [] V.str (fun x=>x.length≤6):=by
 intro s H l i h hi hh
 refine zi.jX Tryz.func79 rfl (by kernel_rfl) ?_
 repeat' first|(refine kZ ?_;refine' zq.XK zx rfl rfl rfl rfl rfl rfl rfl rfl hh ?_ ?_ ?_;rotate_left 2 ;(focus ((repeat' first|(exact xE.sK rfl rfl));done)) ;(focus ((repeat' first|(exact jM.of rfl));done)) ;intro s n hh)|(refine zy 76 ?_;first|(refine zq.qc 1 rfl rfl VZ hh rfl rfl ?_ (vC hb rfl (by simp)) ?_;(focus (first | assumption | omega)) ;intro s x i h hq hi hh ;try dsimp only))|(refine zy 68 ?_;first|(refine zq.qc 0 rfl rfl wU hh rfl rfl ?_ (qg hb (by omega)) ?_;(focus (first | assumption | omega)) ;intro s x i h hq hi hh ;try dsimp only))|(refine zf ?_;first|(refine zq.nil ?_)|(refine zq.ev zx rfl ?_))|(refine zH ?_;first|(refine WL.seq ?_)|(refine WL.region (by kernel_rfl) ?_)|(refine WL.skip ?_)|(refine WL.ret ?_)|(refine zu ?_;first|(refine WL.cond rfl (fun h=>?_) (fun h=>?_))))|(refine zw ?_)|(refine zZ ?_)|(refine zh.r1 (r := .tmp 2) (.inl rfl) (zn.tmp rfl) ?_)
 all_goals
   apply bN.fin (hh:=hh)
   case hv=>first | exact Val.vg _ _ _ | rfl
   case hs=>(first|(refine zK.cons 0 rfl rfl ?_)|(refine zK.cons 1 rfl rfl ?_)|(refine zK.cons 2 rfl rfl ?_)|(refine zK.cons 3 rfl rfl ?_)|(refine zK.cons 4 rfl rfl ?_)|(refine zK.cons 5 rfl rfl ?_)|(refine zK.cons 6 rfl rfl ?_)|(refine zK.cons 7 rfl rfl ?_));(repeat' first|(exact zK.refl _)|(refine zK.drop ?_))
   case hi=>first | assumption | omega |(simp;omega)
   case hp=>exact vF (by assumption) rfl
theorem PE.uH (x:PE):V.agg [.int .i64 x.kind,.int .i64 x.op,.bool x.nt,.int .i64 x.value.kind,.int .i64 x.value.num,.str x.value.text,.int .i64 x.up,.int .i64 x.pos,.sl 0 (x.kids.map PE.zF),.sl 0 (x.sub.map PE.xu)]=x.zF:=(PE.qK x).symm
theorem PE.snoc (es:List PE) (x:PE):es.map PE.zF++[V.agg [.int .i64 x.kind,.int .i64 x.op,.bool x.nt,.int .i64 x.value.kind,.int .i64 x.value.num,.str x.value.text,.int .i64 x.up,.int .i64 x.pos,.sl 0 (x.kids.map PE.zF),.sl 0 (x.sub.map PE.xu)]]=(es++[x]).map PE.zF:=by
 rw [PE.uH,List.map_append,List.map_cons,List.map_nil]
theorem kT {α : Type} {f : α → V} {c:Nat}:∀ l:List α,(∀ x∈l,qV (f x)≤c)→qV (.sl 0 (l.map f))≤l.length*(c+1)
 | [],_=>by simp [qV,wJ]
 | x::l,h=>by
   have h1:=h x (by simp)
   have h2:=kT l fun y hy=>h y (by simp [hy])
   simp only [List.map_cons,qV,wJ,List.length_cons,List.length_map,Nat.add_mul] at h2 ⊢
   omega
def f2 (a b:Nat × Nat):Nat→Nat × Nat
 | 0=>a
 | _=>b
abbrev PE.ov (w:PE × (Nat→Nat × Nat)):V := .agg [.int .i64 w.1.kind,.int .i64 w.1.op,.bool w.1.nt,.int .i64 w.1.value.kind,.int .i64 w.1.value.num,.str w.1.value.text,.int .i64 w.1.up,.int .i64 w.1.pos,.qJ (.is (w.2 0).1) (w.2 0).2 0 w.1.kids.length,.qJ (.is (w.2 1).1) (w.2 1).2 0 w.1.sub.length]
abbrev PE.ob (w:PE × (Nat→Nat × Nat)):List BE:=[.own (.qJ (.is (w.2 0).1) (w.2 0).2 0 w.1.kids.length) (.sl 0 (w.1.kids.map PE.zF)),.own (.qJ (.is (w.2 1).1) (w.2 1).2 0 w.1.sub.length) (.sl 0 (w.1.sub.map PE.xu))]
abbrev PL.ov (w:PL × (Nat→Nat × Nat)):V := .agg [.qJ (.is (w.2 0).1) (w.2 0).2 0 w.1.tables.length,.qJ (.is (w.2 1).1) (w.2 1).2 0 w.1.on.length,.qJ (.is (w.2 2).1) (w.2 2).2 0 w.1.xO.length,.qJ (.is (w.2 3).1) (w.2 3).2 0 w.1.order.length,.qJ (.is (w.2 4).1) (w.2 4).2 0 w.1.items.length,.qJ (.is (w.2 5).1) (w.2 5).2 0 w.1.names.length,.bool w.1.distinct,.int .i64 w.1.limit]
abbrev PL.ob (w:PL × (Nat→Nat × Nat)):List BE:=[.own (.qJ (.is (w.2 0).1) (w.2 0).2 0 w.1.tables.length) (.sl 0 (w.1.tables.map iV)),.own (.qJ (.is (w.2 1).1) (w.2 1).2 0 w.1.on.length) (.sl 0 (w.1.on.map PE.vS)),.own (.qJ (.is (w.2 2).1) (w.2 2).2 0 w.1.xO.length) (.sl 0 (w.1.xO.map PE.zF)),
 .own (.qJ (.is (w.2 3).1) (w.2 3).2 0 w.1.order.length) (.sl 0 (w.1.order.map PE.sv)),.own (.qJ (.is (w.2 4).1) (w.2 4).2 0 w.1.items.length) (.sl 0 (w.1.items.map PE.zF)),.own (.qJ (.is (w.2 5).1) (w.2 5).2 0 w.1.names.length) (.sl 0 (w.1.names.map sV))]
abbrev PE.D (P:Program) (g:FuncId) (b:V) (args:List V) (p:PE→Prop):Prop:=jl P g b args [] PE.ov PE.ob (fun w=>p w.1)
abbrev PL.D (P:Program) (g:FuncId) (b:V) (args:List V) (p:PL→Prop):Prop:=jl P g b args [] PL.ov PL.ob (fun w=>p w.1)
abbrev PE.KD (P:Program) (g:FuncId) (b:V) (args:List V) (p:List PE→Prop):Prop:=jl P g b args [] (fun w:List PE × Nat × Nat => .qJ (.is w.2.1) w.2.2 0 w.1.length) (fun w=>[.own (.qJ (.is w.2.1) w.2.2 0 w.1.length) (.sl 0 (w.1.map PE.zF))]) (fun w=>p w.1)
theorem lX {b:V} {w:Nat} {deep m:Int} (he:PE.D Tryz.prog 43 b [.int .i64 (deep - 1)] (fun e=>qV e.v≤w)) (hd:0≤deep∧deep≤100) (hm:0≤m∧m≤5):PE.KD Tryz.prog 75 b [.int .i64 deep,.int .i64 m] (fun es=>es.length=m.toNat∧∀ e∈es,qV e.v≤w):=by
 intro s H l i h hi hh
 refine zi.jX Tryz.func75 rfl (by kernel_rfl) ?_
 replace hh:Hold s s.next (.cell l (vw b i h)::H):=hh
 repeat' first|(refine kZ ?_;first|(refine zq.ans (zk.BU zx rfl rfl rfl rfl rfl) ?_))|(refine zf ?_;first|(refine zq.nil ?_)|(refine zq.ev zx rfl ?_))|(refine zH ?_;first|(refine WL.seq ?_)|(refine WL.region (by kernel_rfl) ?_)|(refine WL.block ?_))|(refine zw ?_)
 replace hh:=hh.vR
 refine WL.yw (fun y:(List PE × Nat × Nat) × Int × Int=>(m - y.1.1.length).toNat) (fun y=>[(0,.ptr l 0),(1,.int .i64 deep),(2,.int .i64 m),(7,.qJ (.is y.1.2.1) y.1.2.2 0 y.1.1.length),(8,.int .i64 (y.1.1.length:Int))])
   (fun y => .own (.qJ (.is y.1.2.1) y.1.2.2 0 y.1.1.length) (.sl 0 (y.1.1.map PE.zF)) :: .cell l (vw b y.2.1 y.2.2)::H)
   (fun y=>((y.1.1.length:Int)≤m∧∀ e∈y.1.1,qV e.v≤w)∧0≤y.2.1) (([],0,0),i,h) ⟨⟨by simp;omega,by simp⟩,hi⟩ ⟨rfl,rfl,rfl,rfl,rfl,trivial⟩ hh (zK.refl _) (fun y s hI hh=>?_)
 obtain ⟨⟨es,c0,l0⟩,i,h⟩:=y
 obtain ⟨⟨hI,XP⟩,hi⟩:=hI
 dsimp only at hI XP hi hh ⊢
 by_cases hlt:(es.length:Int)<m
 · skip
   repeat' first|(refine kZ ?_;first|(refine zq.ans (zk.Zb zx rfl rfl rfl rfl rfl rfl rfl rfl ?_) ?_;(focus ((repeat' first|(exact jM.of rfl));done))))|(refine ji ?_;first|(refine' zq.appW zx 3 rfl rfl rfl rfl rfl rfl rfl rfl rfl rfl hh ?_ ?_ ?_ (xU.of ?_ rfl) ?_;rotate_left 2 ;(focus (first|(intro x hx;obtain ⟨y,_,rfl⟩:=List.mem_map.1 hx;first | rfl | exact PE.qA _ | exact PE.xC _))) ;(focus ((repeat' first|(exact qw.nil)|(exact qm.qP rfl)|(refine' qm.op ?_;((repeat' first|(exact Pick.here)|(refine' Pick.there ?_));done))|(refine' qw.cons ?_ ?_)|(refine' qm.agg ?_));done)) ;(focus ((repeat' first|(exact zS.of rfl));done)) ;(focus (first | omega |(simp ;omega))) ;intro s c n hh))|(refine zy 43 ?_;first|(refine zq.jF 1 rfl rfl U9 hh (he) .nil rfl rfl ?_ ?_;(focus (first | assumption | omega)) ;intro s y i h hq hi hh ;try dsimp only [List.cons_append,List.nil_append] at hh))|(refine zf ?_;first|(refine zq.nil ?_)|(refine zq.ev zx rfl ?_)|(refine xk ?_;first|(refine zq.ans (zk.add rfl rfl ?_) ?_;(focus (constructor <;> omega)))|(refine zq.ans (zk.sub rfl rfl ?_) ?_;(focus (constructor <;> omega)))))|(refine zH ?_;first|(refine WL.seq ?_)|(refine WL.region (by kernel_rfl) ?_)|(refine WL.block ?_)|(refine WL.skip ?_)|(refine zu ?_;first|(refine WL.zJ rfl ?_ ?_;(focus (first|(exact decide_eq_true (by assumption)))))))|(refine zw ?_)|(refine zQ ?_)
   rw [PE.snoc,show (es.map PE.zF).length+[PE.ov y].length=(es++[y.1]).length by simp] at hh
   refine kW.of ((es++[y.1],c,n),i,h) ?_ hh (zK.refl _) ⟨⟨by simp;omega,fun e he=>?_⟩,by assumption⟩ (by simp;omega)
   · dsimp only
     repeat' first | exact qz.nil |(refine qz.mk rfl ?_ ?_) | rfl |(simp;omega)|(simp <;> fail)
   · rcases List.mem_append.1 he with he | he
     · exact XP e he
     · rw [List.mem_singleton] at he;subst he;exact hq
 · skip
   repeat' first|(refine zf ?_;first|(refine zq.nil ?_)|(refine zq.ev zx rfl ?_))|(refine zH ?_;first|(refine WL.seq ?_)|(refine WL.region (by kernel_rfl) ?_)|(refine WL.exit ?_)|(refine WL.ret ?_)|(refine zu ?_;first|(refine WL.zY rfl ?_ ?_;(focus (first|(exact decide_eq_false (by assumption)))))))|(refine zw ?_)|(refine zC ?_)|(refine zV ?_)|(refine ko ?_)|(refine zh.r1 (r := .tmp 6) (.inl rfl) (zn.tmp rfl) ?_)
   exact jl.fin (y:=(es,c0,l0)) ⟨by show es.length=_;omega,XP⟩ rfl hi hh (zK.refl _)
set_option maxHeartbeats 4000000 in
theorem lK {b:V} (hb:Bytes b) {w:Nat} {deep:Int} (he:PE.D Tryz.prog 43 b [.int .i64 deep] (fun e=>qV e.v≤w)) (hd:0≤deep∧deep≤99) :
   PL.D Tryz.prog 72 b [.int .i64 deep] (fun p=>qV p.v≤64+6*w∧0<p.items.length):=by
 have hk:=fun (m:Int) hm=>lX (b:=b) (w:=w) (deep:=deep+1) (m:=m) (by rw [show deep+1 - 1=deep by omega];exact he) (by omega) hm
 intro s H l i h hi hh
 replace hh:Hold s s.next (.cell l (vw b i h)::H):=hh
 refine zi.jX Tryz.func72 rfl (by kernel_rfl) ?_
 repeat' first|(refine qj ?_;refine zq.kR zx hh rfl rfl ?_;intro s n hh)|(refine zU ?_;first|(refine zq.zN zx 0 hh rfl rfl rfl rfl rfl rfl rfl rfl rfl ?_;intro s hh))|(refine zy 38 ?_;first|(refine zq.qc 1 rfl rfl vE hh rfl rfl ?_ (zP hb (by omega)) ?_;(focus (first | assumption | omega)) ;intro s x i h hq hi hh ;try dsimp only))|(refine zy 68 ?_;first|(refine zq.qc 1 rfl rfl wU hh rfl rfl ?_ (qg hb (by omega)) ?_;(focus (first | assumption | omega)) ;intro s x i h hq hi hh ;try dsimp only))|(refine zf ?_;first|(refine zq.nil ?_)|(refine' zq.ans (v := .agg _) (zk.jV zx rfl rfl rfl rfl ?_) ?_;rotate_left 1;(focus ((repeat' first|(exact Fills.nil)|(refine' Fills.cons rfl rfl rfl rfl ?_));done)))|(refine zq.ev zx rfl ?_)|(refine xk ?_;first|(refine zq.ans (zk.add rfl rfl ?_) ?_;(focus (constructor <;> omega)))))|(refine zH ?_;first|(refine WL.seq ?_)|(refine WL.region (by kernel_rfl) ?_)|(refine WL.block ?_))|(refine zw ?_)
 rename_i s1 nr OY s2 ds i2 h2 hq2 hi2 Da s3 hh3 s4 Pm
 replace hh:=hh.vR.vR
 refine WL.yw (fun y:(List Int × Nat × Nat) × (List (List PE) × Nat × Nat) × Int × Int=>(1+x - y.1.1.length).toNat)
   (fun y=>[(0,.ptr l 0),(1,.int .i64 deep),(4,.ptr nr 0),(5,.ptr n 0),(6,.int .i64 (1+x)),(7,.int .i64 (y.1.1.length:Int))])
   (fun y => .own (.qJ (.is y.1.2.1) y.1.2.2 0 y.1.1.length) (.sl 0 (y.1.1.map iV)) :: .own (.qJ (.is y.2.1.2.1) y.2.1.2.2 0 y.2.1.1.length) (.sl 0 (y.2.1.1.map PE.vS)) :: .cell l (vw b y.2.2.1 y.2.2.2) ::
     .cell n [.qJ (.is y.1.2.1) y.1.2.2 0 y.1.1.length,.qJ (.is y.2.1.2.1) y.2.1.2.2 0 y.2.1.1.length,.qJ (.is 0) 0 0 0,.qJ (.is 0) 0 0 0,.qJ (.is 0) 0 0 0,.qJ (.is 0) 0 0 0,.bool ds,.int .i64 (-1)] ::
     .cell nr [.zl,.zl,.zl,.zl,.zl,.zl,.bool false,.int .i64 0]::H)
   (fun y=>((y.1.1.length:Int)≤1+x∧y.2.1.1.length=y.1.1.length∧∀ r∈y.2.1.1,r.length≤1∧∀ e∈r,qV e.v≤w)∧0≤y.2.2.1) (([],0,0),([],0,0),i,h) ⟨⟨by simp;omega,rfl,by simp⟩,hi⟩ ⟨rfl,rfl,rfl,rfl,rfl,rfl,trivial⟩ hh (zK.refl _) (fun y s hI hh=>?_)
 obtain ⟨⟨ts,c0,l0⟩,⟨os,c1,l1⟩,i,h⟩:=y
 obtain ⟨⟨hI,Rp,XP⟩,hi⟩:=hI
 dsimp only at hI Rp XP hi hh ⊢
 by_cases hlt:(ts.length:Int)<1+x
 · skip
   repeat' first|(refine zU ?_;first|(refine zq.zN zx 3 hh rfl rfl rfl rfl rfl rfl rfl rfl rfl ?_;intro s hh))|(refine kZ ?_;first|(refine zq.ans (zk.Zb zx rfl rfl rfl rfl rfl rfl rfl rfl ?_) ?_;(focus ((repeat' first|(exact jM.of rfl));done)))|(refine zq.ans (zk.BU zx rfl rfl rfl rfl rfl) ?_))|(refine ji ?_;first|(refine' zq.appW zx 1 rfl rfl rfl rfl rfl rfl rfl rfl rfl rfl hh ?_ ?_ ?_ (xU.of ?_ rfl) ?_;rotate_left 2 ;(focus (first|(intro x hx;obtain ⟨y,_,rfl⟩:=List.mem_map.1 hx;first | rfl | exact PE.qA _ | exact PE.xC _))) ;(focus ((repeat' first|(exact qw.nil)|(exact qm.qP rfl)|(refine' qw.cons ?_ ?_));done)) ;(focus ((repeat' first|(exact zS.of rfl));done)) ;(focus (first | omega |(simp ;omega))) ;intro s c n hh)|(refine' zq.appW zx 2 rfl rfl rfl rfl rfl rfl rfl rfl rfl rfl hh ?_ ?_ ?_ (xU.of ?_ rfl) ?_;rotate_left 2 ;(focus (first|(intro x hx;obtain ⟨y,_,rfl⟩:=List.mem_map.1 hx;first | rfl | exact PE.qA _ | exact PE.xC _))) ;(focus ((repeat' first|(exact qw.nil)|(exact qm.jS)|(refine' qw.cons ?_ ?_));done)) ;(focus ((repeat' first|(exact zS.of rfl));done)) ;(focus (first | omega |(simp ;omega))) ;intro s c n hh)|(refine' zq.appW zx 3 rfl rfl rfl rfl rfl rfl rfl rfl rfl rfl hh ?_ ?_ ?_ (xU.of ?_ rfl) ?_;rotate_left 2 ;(focus (first|(intro x hx;obtain ⟨y,_,rfl⟩:=List.mem_map.1 hx;first | rfl | exact PE.qA _ | exact PE.xC _))) ;(focus ((repeat' first|(exact qw.nil)|(refine' qm.op ?_;((repeat' first|(exact Pick.here));done))|(refine' qw.cons ?_ ?_));done)) ;(focus ((repeat' first|(exact zS.of rfl));done)) ;(focus (first | omega |(simp ;omega))) ;intro s c n hh)|(refine' zq.BK zx rfl rfl rfl rfl rfl rfl rfl rfl hh ?_ ?_ (xU.of ?_ rfl) ?_;rotate_left 2 ;(focus ((repeat' first|(exact qw.nil)|(exact qm.qP rfl)|(refine' qm.op ?_;((repeat' first|(exact Pick.here)|(refine' Pick.there ?_));done))|(refine' qw.cons ?_ ?_)|(refine' qm.agg ?_));done)) ;(focus ((repeat' first|(exact zS.of rfl));done)) ;(focus (first | omega |(simp <;> fail))) ;intro s c n hh))|(refine zy 38 ?_;first|(refine zq.qc 2 rfl rfl vE hh rfl rfl ?_ (zP hb (by omega)) ?_;(focus (first | assumption | omega)) ;intro s x i h hq hi hh ;try dsimp only))|(refine zy 68 ?_;first|(refine zq.qc 1 rfl rfl wU hh rfl rfl ?_ (qg hb (by omega)) ?_;(focus (first | assumption | omega)) ;intro s x i h hq hi hh ;try dsimp only))|(refine zy 43 ?_;first|(refine zq.jF 0 rfl rfl U9 hh (he) .nil rfl rfl ?_ ?_;(focus (first | assumption | omega)) ;intro s y i h hq hi hh ;try dsimp only [List.cons_append,List.nil_append] at hh))|(refine zf ?_;first|(refine zq.nil ?_)|(refine kG ?_;first|(refine zq.gT rfl rfl rfl ?_)|(refine zq.gF rfl rfl rfl ?_)|(refine zq.gC rfl rfl rfl (fun h=>?_) (fun h=>?_)))|(refine zq.ev zx rfl ?_)|(refine zo ?_;first|(refine zq.ans (zk.zM zx 3 hh rfl rfl rfl rfl) ?_)|(refine zq.ans (zk.zM zx 4 hh rfl rfl rfl rfl) ?_))|(refine xk ?_;first|(refine zq.ans (zk.add rfl rfl ?_) ?_;(focus (constructor <;> omega)))))|(refine zH ?_;first|(refine WL.seq ?_)|(refine WL.region (by kernel_rfl) ?_)|(refine WL.drawn (id:=6) [0,1,2,3,4,5,6,7] [3,5,7] [[],[0],[],[2],[2,3],[0,1,2,3,4],[0,1,2,3,4,5],[0,1,2,3,4,5,6]] (by kernel_rfl) (by kernel_rfl) ?_)|(refine WL.block ?_)|(refine WL.skip ?_)|(refine zu ?_;first|(refine WL.qQ rfl ?_)|(refine WL.zJ rfl ?_ ?_;(focus (first|(exact decide_eq_true (by assumption)))))|(refine WL.cond rfl (fun h=>?_) (fun h=>?_))))|(refine vN ?_;first|(refine zA.nil ?_)|(refine zA.fl rfl rfl (.ev zx rfl) ?_)|(refine zA.fl rfl rfl (zk.fD zx rfl rfl rfl rfl rfl rfl rfl rfl rfl) ?_)|(refine qo rfl ?_;first|(refine zA.fl rfl rfl (zk.zM zx 3 hh rfl rfl rfl rfl) ?_))|(refine zA.iY rfl rfl rfl ?_))|(refine zw ?_)|(refine zQ ?_)|(refine And.intro ?_ ?_)|(exact xR.nil)|(refine xR.cons ?_ ?_)|(refine jG.fl rfl rfl (.ev zx rfl))|(refine jG.fl rfl rfl (zk.zM zx 3 hh rfl rfl rfl rfl))
   · skip
     all_goals
       try simp only [PE.uH,List.length_append,List.length_map,List.length_cons,List.length_nil,Nat.zero_add,PE.vS] at hh
       refine' kW.of (((ts++[_],_,_),(os++[[y.1]],_,_),_,_)) ?_ hh ?_ ?_ ?_
       rotate_left 8
       · dsimp only;(try simp only [List.map_append,List.map_cons,List.map_nil,PE.vS,List.length_append,List.length_map,List.length_cons,List.length_nil,Nat.zero_add]);(repeat' first|(exact zK.nil)|(exact zK.refl _)|(refine' zK.p ?_ ?_;rotate_left 1;(focus (((repeat' first|(exact Pick.here)|(refine' Pick.there ?_));done)))));done
       · dsimp only;refine ⟨⟨by simp;omega,by simp;omega,fun r hr=>?_⟩,by assumption⟩;rcases List.mem_append.1 hr with hr | hr;exact XP r hr;rw [List.mem_singleton] at hr;subst hr;simp;try assumption
       · dsimp only;first | omega |(simp;omega)|(simp_all;omega)
       · repeat' first | exact qz.nil |(refine qz.mk rfl ?_ ?_) | rfl |(simp;done)|(simp;omega)
   all_goals
     try simp only [PE.uH,List.length_append,List.length_map,List.length_cons,List.length_nil,Nat.zero_add] at hh
     refine' kW.of (((ts++[_],_,_),(os++[[]],_,_),_,_)) ?_ hh ?_ ?_ ?_
     rotate_left 8
     · dsimp only;(try simp only [List.map_append,List.map_cons,List.map_nil,PE.vS,List.length_append,List.length_map,List.length_cons,List.length_nil,Nat.zero_add]);(repeat' first|(exact zK.nil)|(exact zK.refl _)|(refine' zK.p ?_ ?_;rotate_left 1;(focus (((repeat' first|(exact Pick.here)|(refine' Pick.there ?_));done)))));done
     · dsimp only;refine ⟨⟨by simp;omega,by simp;omega,fun r hr=>?_⟩,by assumption⟩;rcases List.mem_append.1 hr with hr | hr;exact XP r hr;rw [List.mem_singleton] at hr;subst hr;simp;try assumption
     · dsimp only;first | omega |(simp;omega)|(simp_all;omega)
     · repeat' first | exact qz.nil |(refine qz.mk rfl ?_ ?_) | rfl |(simp;done)|(simp;omega)
 have htl:(ts.length:Int)=1+x:=by omega
 have hx2:x≤1:=by omega
 repeat' first|(refine zy 38 ?_;first|(refine zq.qc 2 rfl rfl vE hh rfl rfl ?_ (zP hb (by omega)) ?_;(focus (first | assumption | omega)) ;intro s x i h hq hi hh ;try dsimp only))|(refine zf ?_;first|(refine zq.nil ?_)|(refine zq.ev zx rfl ?_)|(refine xk ?_;first|(refine zq.ans (zk.add rfl rfl ?_) ?_;(focus (constructor <;> omega)))))|(refine zH ?_;first|(refine WL.seq ?_)|(refine WL.region (by kernel_rfl) ?_)|(refine WL.block ?_)|(refine WL.exit ?_)|(refine zu ?_;first|(refine WL.zY rfl ?_ ?_;(focus (first|(exact decide_eq_false (by assumption)))))))|(refine zw ?_)|(refine zC ?_)|(refine zV ?_)|(refine ko ?_)
 replace hh:=hh.vR.vR
 refine WL.yw (fun y:(List PE × Nat × Nat) × (List (List UInt8) × Nat × Nat) × Int × Int=>(1+x - y.1.1.length).toNat)
   (fun y=>[(0,.ptr l 0),(1,.int .i64 deep),(4,.ptr nr 0),(5,.ptr n 0),(6,.int .i64 (1+x)),(9,.int .i64 (y.1.1.length:Int))])
   (fun y => .own (.qJ (.is y.1.2.1) y.1.2.2 0 y.1.1.length) (.sl 0 (y.1.1.map PE.zF)) :: .own (.qJ (.is y.2.1.2.1) y.2.1.2.2 0 y.2.1.1.length) (.sl 0 (y.2.1.1.map sV)) :: .cell l (vw b y.2.2.1 y.2.2.2) ::
     .cell n [.qJ (.is c0) l0 0 ts.length,.qJ (.is c1) l1 0 os.length,.qJ (.is 0) 0 0 0,.qJ (.is 0) 0 0 0,.qJ (.is y.1.2.1) y.1.2.2 0 y.1.1.length,.qJ (.is y.2.1.2.1) y.2.1.2.2 0 y.2.1.1.length,.bool ds,.int .i64 (-1)] ::
     .cell nr [.zl,.zl,.zl,.zl,.zl,.zl,.bool false,.int .i64 0] :: .own (.qJ (.is c0) l0 0 ts.length) (.sl 0 (ts.map iV)) :: .own (.qJ (.is c1) l1 0 os.length) (.sl 0 (os.map PE.vS))::H)
   (fun y=>((y.1.1.length:Int)≤1+x∧y.2.1.1.length=y.1.1.length∧(∀ e∈y.1.1,qV e.v≤w)∧∀ q∈y.2.1.1,q.length≤6)∧0≤y.2.2.1) (([],0,0),([],0,0),i,h) ⟨⟨by simp;omega,rfl,by simp,by simp⟩,hi⟩ ⟨rfl,rfl,rfl,rfl,rfl,rfl,trivial⟩ hh ?_ (fun y s hI hh=>?_)
 · dsimp only
   (repeat' first|(exact zK.nil)|(exact zK.refl _)|(refine' zK.p ?_ ?_;rotate_left 1;(focus (((repeat' first|(exact Pick.here)|(refine' Pick.there ?_));done)))))
 obtain ⟨⟨is,c4,l4⟩,⟨ns,c5,l5⟩,i,h⟩:=y
 obtain ⟨⟨hI1,Rs,VK,hsI⟩,hi⟩:=hI
 dsimp only at hI1 Rs VK hsI hi hh ⊢
 by_cases hlt1:(is.length:Int)<1+x
 · skip
   repeat' first|(refine zU ?_;first|(refine zq.zN zx 3 hh rfl rfl rfl rfl rfl rfl rfl rfl rfl ?_;intro s hh))|(refine ji ?_;first|(refine' zq.appW zx 2 rfl rfl rfl rfl rfl rfl rfl rfl rfl rfl hh ?_ ?_ ?_ (xU.of ?_ rfl) ?_;rotate_left 2 ;(focus (first|(intro x hx;obtain ⟨y,_,rfl⟩:=List.mem_map.1 hx;first | rfl | exact PE.qA _ | exact PE.xC _))) ;(focus ((repeat' first|(exact qw.nil)|(exact qm.qP rfl)|(refine' qw.cons ?_ ?_));done)) ;(focus ((repeat' first|(exact zS.of rfl));done)) ;(focus (first | omega |(simp ;omega))) ;intro s c n hh)|(refine' zq.appW zx 3 rfl rfl rfl rfl rfl rfl rfl rfl rfl rfl hh ?_ ?_ ?_ (xU.of ?_ rfl) ?_;rotate_left 2 ;(focus (first|(intro x hx;obtain ⟨y,_,rfl⟩:=List.mem_map.1 hx;first | rfl | exact PE.qA _ | exact PE.xC _))) ;(focus ((repeat' first|(exact qw.nil)|(exact qm.qP rfl)|(refine' qm.op ?_;((repeat' first|(exact Pick.here)|(refine' Pick.there ?_));done))|(refine' qw.cons ?_ ?_)|(refine' qm.agg ?_));done)) ;(focus ((repeat' first|(exact zS.of rfl));done)) ;(focus (first | omega |(simp ;omega))) ;intro s c n hh))|(refine zy 79 ?_;first|(refine zq.qc 1 rfl rfl Er hh rfl rfl ?_ (eZ hb) ?_;(focus (first | assumption | omega)) ;intro s x i h hq hi hh ;try dsimp only))|(refine zy 43 ?_;first|(refine zq.jF 2 rfl rfl U9 hh (he) .nil rfl rfl ?_ ?_;(focus (first | assumption | omega)) ;intro s y i h hq hi hh ;try dsimp only [List.cons_append,List.nil_append] at hh))|(refine zf ?_;first|(refine zq.nil ?_)|(refine zq.ev zx rfl ?_)|(refine xk ?_;first|(refine zq.ans (zk.add rfl rfl ?_) ?_;(focus (constructor <;> omega)))))|(refine zH ?_;first|(refine WL.seq ?_)|(refine WL.region (by kernel_rfl) ?_)|(refine WL.drawn (id:=15) [0,1,2,3,4,5,6,7,8] [4,6,8] [[],[0],[],[],[2,3],[2,3,4],[0,1,2,3,4,5],[0,1,2,3,4,5,6],[0,1,2,3,4,5,6,7]] (by kernel_rfl) (by kernel_rfl) ?_)|(refine WL.drawn (id:=16) [0,1,2,3,4,5,6,7] [3,5,7] [[],[0],[],[2],[2,3],[0,1,2,3,4],[0,1,2,3,4,5],[0,1,2,3,4,5,6]] (by kernel_rfl) (by kernel_rfl) ?_)|(refine WL.block ?_)|(refine WL.skip ?_)|(refine zu ?_;first|(refine WL.zJ rfl ?_ ?_;(focus (first|(exact decide_eq_true (by assumption)))))))|(refine vN ?_;first|(refine zA.nil ?_)|(refine zA.fl rfl rfl (.ev zx rfl) ?_)|(refine zA.fl rfl rfl (zk.fD zx rfl rfl rfl rfl rfl rfl rfl rfl rfl) ?_)|(refine qo rfl ?_;first|(refine zA.fl rfl rfl (zk.zM zx 3 hh rfl rfl rfl rfl) ?_))|(refine zA.iY rfl rfl rfl ?_))|(refine zw ?_)|(refine zQ ?_)|(refine And.intro ?_ ?_)|(exact xR.nil)|(refine xR.cons ?_ ?_)|(refine jG.fl rfl rfl (.ev zx rfl))|(refine jG.fl rfl rfl (zk.zM zx 3 hh rfl rfl rfl rfl))|(refine jG.fl rfl rfl (zk.zM zx 5 hh rfl rfl rfl rfl))
   all_goals
     try simp only [PE.uH,List.length_append,List.length_map,List.length_cons,List.length_nil,Nat.zero_add] at hh
     refine' kW.of (((is++[y.1],_,_),(ns++[_],_,_),_,_)) ?_ hh ?_ ?_ ?_
     rotate_left 8
     · dsimp only;(try simp only [List.map_append,List.map_cons,List.map_nil,PE.vS,List.length_append,List.length_map,List.length_cons,List.length_nil,Nat.zero_add]);(repeat' first|(exact zK.nil)|(exact zK.refl _)|(refine' zK.p ?_ ?_;rotate_left 1;(focus (((repeat' first|(exact Pick.here)|(refine' Pick.there ?_));done)))));done
     · dsimp only;refine ⟨⟨by simp;omega,by simp;omega,fun e he'=>?_,fun q hq'=>?_⟩,by assumption⟩;rcases List.mem_append.1 he' with he' | he';exact VK e he';rw [List.mem_singleton] at he';subst he';assumption;rcases List.mem_append.1 hq' with hq' | hq';exact hsI q hq';rw [List.mem_singleton] at hq';subst hq';assumption
     · dsimp only;first | omega |(simp;omega)|(simp_all;omega)
     · repeat' first | exact qz.nil |(refine qz.mk rfl ?_ ?_) | rfl |(simp;done)|(simp;omega)
 have hil:(is.length:Int)=1+x:=by omega
 have hx3:x≤1:=by omega
 repeat' first|(refine zy 68 ?_;first|(refine zq.qc 2 rfl rfl wU hh rfl rfl ?_ (qg hb (by omega)) ?_;(focus (first | assumption | omega)) ;intro s x i h hq hi hh ;try dsimp only))|(refine zf ?_;first|(refine zq.nil ?_)|(refine zq.ev zx rfl ?_))|(refine zH ?_;first|(refine WL.seq ?_)|(refine WL.region (by kernel_rfl) ?_)|(refine WL.exit ?_)|(refine zu ?_;first|(refine WL.zY rfl ?_ ?_;(focus (first|(exact decide_eq_false (by assumption)))))))|(refine zw ?_)|(refine zC ?_)|(refine zV ?_)|(refine ko ?_)
 refine WL.YP (fun _:(List PE × Nat × Nat) × Int × Int=>[(0,.ptr l 0),(1,.int .i64 deep),(4,.ptr nr 0),(5,.ptr n 0)]) (fun y => .own (.qJ (.is y.1.2.1) y.1.2.2 0 y.1.1.length) (.sl 0 (y.1.1.map PE.zF)) :: .cell l (vw b y.2.1 y.2.2) :: .cell n [.qJ (.is c0) l0 0 ts.length,.qJ (.is c1) l1 0 os.length,.qJ (.is y.1.2.1) y.1.2.2 0 y.1.1.length,.qJ (.is 0) 0 0 0,.qJ (.is c4) l4 0 is.length,.qJ (.is c5) l5 0 ns.length,.bool ds,.int .i64 (-1)] :: .cell nr [.zl,.zl,.zl,.zl,.zl,.zl,.bool false,.int .i64 0] :: .own (.qJ (.is c4) l4 0 is.length) (.sl 0 (is.map PE.zF)) :: .own (.qJ (.is c5) l5 0 ns.length) (.sl 0 (ns.map sV)) :: .own (.qJ (.is c0) l0 0 ts.length) (.sl 0 (ts.map iV)) :: .own (.qJ (.is c1) l1 0 os.length) (.sl 0 (os.map PE.vS))::H)
   (fun y=>(y.1.1.length≤1∧∀ e∈y.1.1,qV e.v≤w)∧0≤y.2.1) ?_ (fun y s hI hh=>?_)
 · skip
   repeat' first|(refine zU ?_;first|(refine zq.zN zx 4 hh rfl rfl rfl rfl rfl rfl rfl rfl rfl ?_;intro s hh))|(refine zy 75 ?_;first|(refine zq.jF 0 rfl rfl Ep hh (hk _ (by omega)) .nil rfl rfl ?_ ?_;(focus (first | assumption | omega)) ;intro s y i h hq hi hh ;try dsimp only [List.cons_append,List.nil_append] at hh))|(refine zf ?_;first|(refine zq.nil ?_)|(refine zq.ev zx rfl ?_)|(refine xk ?_;first|(refine zq.ans (zk.add rfl rfl ?_) ?_;(focus (constructor <;> omega)))))|(refine zH ?_;first|(refine WL.region (by kernel_rfl) ?_)|(refine WL.skip ?_)|(refine zu ?_;first|(refine WL.cond rfl (fun h=>?_) (fun h=>?_))))
   · skip
     all_goals
       try simp only [PE.uH,List.length_append,List.length_map,List.length_cons,List.length_nil,Nat.zero_add] at hh
       refine' bE.of (((y.1,_,_),_,_)) ?_ hh ?_ ?_
       rotate_left 5
       · try dsimp only
         (try simp only [List.map_append,List.map_cons,List.map_nil,PE.vS,List.length_append,List.length_map,List.length_cons,List.length_nil,Nat.zero_add]);(repeat' first|(exact zK.nil)|(exact zK.refl _)|(refine' zK.p ?_ ?_;rotate_left 1;(focus (((repeat' first|(exact Pick.here)|(refine' Pick.there ?_));done)))));done
       · try dsimp only
         exact ⟨⟨by have:=hq.1;omega,hq.2⟩,by assumption⟩
       · repeat' first | exact qz.nil |(refine qz.mk rfl ?_ ?_) | rfl |(simp;done)|(simp;omega)
   replace hh:=hh.vR
   all_goals
     try simp only [PE.uH,List.length_append,List.length_map,List.length_cons,List.length_nil,Nat.zero_add] at hh
     refine' bE.of ((([],0,0),_,_)) ?_ hh ?_ ?_
     rotate_left 3
     · try dsimp only
       (try simp only [List.map_append,List.map_cons,List.map_nil,PE.vS,List.length_append,List.length_map,List.length_cons,List.length_nil,Nat.zero_add]);(repeat' first|(exact zK.nil)|(exact zK.refl _)|(refine' zK.p ?_ ?_;rotate_left 1;(focus (((repeat' first|(exact Pick.here)|(refine' Pick.there ?_));done)))));done
     · try dsimp only
       exact ⟨⟨by simp,by simp⟩,by assumption⟩
     · repeat' first | exact qz.nil |(refine qz.mk rfl ?_ ?_) | rfl |(simp;done)|(simp;omega)
 obtain ⟨⟨ws,c2,l2⟩,i,h⟩:=y
 obtain ⟨⟨hw1,hw2⟩,hi⟩:=hI
 dsimp only at hw1 hw2 hi hh ⊢
 repeat' first|(refine zy 68 ?_;first|(refine zq.qc 1 rfl rfl wU hh rfl rfl ?_ (qg hb (by omega)) ?_;(focus (first | assumption | omega)) ;intro s x i h hq hi hh ;try dsimp only))|(refine zf ?_;first|(refine zq.nil ?_)|(refine zq.ev zx rfl ?_))|(refine zH ?_;first|(refine WL.seq ?_)|(refine WL.region (by kernel_rfl) ?_))|(refine zw ?_)
 refine WL.YP (fun _:(List (PE × Bool) × Nat × Nat) × Int × Int=>[(0,.ptr l 0),(1,.int .i64 deep),(4,.ptr nr 0),(5,.ptr n 0)]) (fun y => .own (.qJ (.is y.1.2.1) y.1.2.2 0 y.1.1.length) (.sl 0 (y.1.1.map PE.sv)) :: .cell l (vw b y.2.1 y.2.2) :: .cell n [.qJ (.is c0) l0 0 ts.length,.qJ (.is c1) l1 0 os.length,.qJ (.is c2) l2 0 ws.length,.qJ (.is y.1.2.1) y.1.2.2 0 y.1.1.length,.qJ (.is c4) l4 0 is.length,.qJ (.is c5) l5 0 ns.length,.bool ds,.int .i64 (-1)] :: .cell nr [.zl,.zl,.zl,.zl,.zl,.zl,.bool false,.int .i64 0] :: .own (.qJ (.is c2) l2 0 ws.length) (.sl 0 (ws.map PE.zF)) :: .own (.qJ (.is c4) l4 0 is.length) (.sl 0 (is.map PE.zF)) :: .own (.qJ (.is c5) l5 0 ns.length) (.sl 0 (ns.map sV)) :: .own (.qJ (.is c0) l0 0 ts.length) (.sl 0 (ts.map iV)) :: .own (.qJ (.is c1) l1 0 os.length) (.sl 0 (os.map PE.vS))::H)
   (fun y=>(y.1.1.length≤1∧∀ e∈y.1.1,qV e.1.v≤w)∧0≤y.2.1) ?_ (fun y s hI hh=>?_)
 · skip
   repeat' first|(refine zU ?_;first|(refine zq.zN zx 3 hh rfl rfl rfl rfl rfl rfl rfl rfl rfl ?_;intro s hh))|(refine ji ?_;first|(refine' zq.BK zx rfl rfl rfl rfl rfl rfl rfl rfl hh ?_ ?_ (xU.of ?_ rfl) ?_;rotate_left 2 ;(focus ((repeat' first|(exact qw.nil)|(exact qm.qP rfl)|(refine' qm.op ?_;((repeat' first|(exact Pick.here)|(refine' Pick.there ?_));done))|(refine' qw.cons ?_ ?_)|(refine' qm.agg ?_));done)) ;(focus ((repeat' first|(exact zS.of rfl));done)) ;(focus (first | omega |(simp <;> fail))) ;intro s c n hh))|(refine zy 68 ?_;first|(refine zq.qc 2 rfl rfl wU hh rfl rfl ?_ (qg hb (by omega)) ?_;(focus (first | assumption | omega)) ;intro s x i h hq hi hh ;try dsimp only))|(refine zy 43 ?_;first|(refine zq.jF 0 rfl rfl U9 hh (he) .nil rfl rfl ?_ ?_;(focus (first | assumption | omega)) ;intro s y i h hq hi hh ;try dsimp only [List.cons_append,List.nil_append] at hh))|(refine zf ?_;first|(refine zq.nil ?_))|(refine zH ?_;first|(refine WL.drawn (id:=20) [0,1,2,3,5,4,6,7,8,9,10,11] [4,6,9,11] [[],[0],[],[],[2,3],[],[2,3,4,5],[2,3,4,5,6],[2,3,4,5,6,7],[0,1,2,3,4,5,6,7,8],[0,1,2,3,4,5,6,7,8,9],[0,1,2,3,4,5,6,7,8,9,10]] (by kernel_rfl) (by kernel_rfl) ?_)|(refine WL.skip ?_)|(refine zu ?_;first|(refine WL.cond rfl (fun h=>?_) (fun h=>?_))))|(refine vN ?_;first|(refine zA.nil ?_)|(refine' zA.fl (v := .agg _) rfl rfl (zk.jV zx rfl rfl rfl rfl ?_) ?_;rotate_left 1;(focus ((repeat' first|(exact Fills.nil)|(refine' Fills.cons rfl rfl rfl rfl ?_));done)))|(refine zA.fl rfl rfl (.ev zx rfl) ?_)|(refine zA.fl rfl rfl (zk.fD zx rfl rfl rfl rfl rfl rfl rfl rfl rfl) ?_)|(refine qo rfl ?_;first|(refine zA.fl rfl rfl (zk.zM zx 2 hh rfl rfl rfl rfl) ?_))|(refine zA.iY rfl rfl rfl ?_))|(refine And.intro ?_ ?_)|(exact xR.nil)|(refine xR.cons ?_ ?_)|(refine jG.fl rfl rfl (.ev zx rfl))|(refine jG.fl rfl rfl (zk.zM zx 4 hh rfl rfl rfl rfl))
   · skip
     all_goals
       try simp only [PE.uH,List.length_append,List.length_map,List.length_cons,List.length_nil,Nat.zero_add] at hh
       refine' bE.of ((([(y.1,_)],_,_),_,_)) ?_ hh ?_ ?_
       rotate_left 6
       · try dsimp only
         (try simp only [List.map_append,List.map_cons,List.map_nil,PE.vS,List.length_append,List.length_map,List.length_cons,List.length_nil,Nat.zero_add]);(repeat' first|(exact zK.nil)|(exact zK.refl _)|(refine' zK.p ?_ ?_;rotate_left 1;(focus (((repeat' first|(exact Pick.here)|(refine' Pick.there ?_));done)))));done
       · try dsimp only
         exact ⟨⟨by simp,fun e he'=>by rw [List.mem_singleton] at he';subst he';assumption⟩,by assumption⟩
       · repeat' first | exact qz.nil |(refine qz.mk rfl ?_ ?_) | rfl |(simp;done)|(simp;omega)
   replace hh:=hh.vR
   all_goals
     try simp only [PE.uH,List.length_append,List.length_map,List.length_cons,List.length_nil,Nat.zero_add] at hh
     refine' bE.of ((([],0,0),_,_)) ?_ hh ?_ ?_
     rotate_left 3
     · try dsimp only
       (try simp only [List.map_append,List.map_cons,List.map_nil,PE.vS,List.length_append,List.length_map,List.length_cons,List.length_nil,Nat.zero_add]);(repeat' first|(exact zK.nil)|(exact zK.refl _)|(refine' zK.p ?_ ?_;rotate_left 1;(focus (((repeat' first|(exact Pick.here)|(refine' Pick.there ?_));done)))));done
     · try dsimp only
       exact ⟨⟨by simp,by simp⟩,by assumption⟩
     · repeat' first | exact qz.nil |(refine qz.mk rfl ?_ ?_) | rfl |(simp;done)|(simp;omega)
 obtain ⟨⟨rs,c3,l3⟩,i,h⟩:=y
 obtain ⟨⟨ho1,ho2⟩,hi⟩:=hI
 dsimp only at ho1 ho2 hi hh ⊢
 repeat' first|(refine zU ?_;first|(refine zq.zN zx 2 hh rfl rfl rfl rfl rfl rfl rfl rfl rfl ?_;intro s hh)|(refine zq.zN zx 3 hh rfl rfl rfl rfl rfl rfl rfl rfl rfl ?_;intro s hh))|(refine zy 68 ?_;first|(refine zq.qc 1 rfl rfl wU hh rfl rfl ?_ (qg hb (by omega)) ?_;(focus (first | assumption | omega)) ;intro s x i h hq hi hh ;try dsimp only))|(refine zy 45 ?_;first|(refine zq.qc 0 rfl rfl XC hh rfl rfl ?_ (jg hb) ?_;(focus (first | assumption | omega)) ;intro s x i h hq hi hh ;try dsimp only))|(refine zf ?_;first|(refine zq.nil ?_)|(refine zq.ev zx rfl ?_)|(refine zo ?_;first|(refine zq.ans (zk.zM zx 2 hh rfl rfl rfl rfl) ?_)))|(refine zH ?_;first|(refine WL.seq ?_)|(refine WL.region (by kernel_rfl) ?_)|(refine WL.skip ?_)|(refine WL.ret ?_)|(refine zu ?_;first|(refine WL.cond rfl (fun h=>?_) (fun h=>?_))))|(refine zw ?_)|(refine' zh.r1 (r := .cell 4 33) (.inl rfl) ?_ ?_;rotate_left 1;(focus (first|(exact zn.xM 3 zx hh rfl rfl rfl rfl))))
 all_goals
   apply jl.fin (y:=(⟨ts,os,ws,rs,is,ns,ds,_⟩,fun k=>match k with | 0=>(c0,l0) | 1=>(c1,l1) | 2=>(c2,l2) | 3=>(c3,l3) | 4=>(c4,l4) | _=>(c5,l5))) (hh:=hh)
   case hv=>rfl
   case hi=>assumption
   case hs =>
     dsimp only [PL.ob,List.cons_append,List.nil_append]
     (repeat' first|(exact zK.nil)|(exact zK.refl _)|(refine' zK.p ?_ ?_;rotate_left 1;(focus (((repeat' first|(exact Pick.here)|(refine' Pick.there ?_));done)))))
     (repeat' first|(exact zK.refl _)|(refine zK.drop ?_))
   case hp =>
     dsimp only
     refine ⟨?_,by omega⟩
     rw [PL.qC]
     dsimp only
     have g1:=kT (f:=iV) (c:=0) ts (fun x _=>by simp [iV,qV])
     have g2:=kT (f:=PE.vS) (c:=1+w) os (fun r hr=>by
       have h1:=kT (f:=PE.zF) (c:=w) r (fun e he'=>by rw [PE.qK];exact (XP r hr).2 e he')
       have h2:=(XP r hr).1
       have h3:r.length*(w+1)≤1*(w+1):=Nat.mul_le_mul_right _ h2
       simp only [PE.vS]
       omega)
     have g3:=kT (f:=PE.zF) (c:=w) ws (fun e he'=>by rw [PE.qK];exact hw2 e he')
     have g4:=kT (f:=PE.sv) (c:=w) rs (fun e he'=>by rw [PE.sW];exact ho2 e he')
     have g5:=kT (f:=PE.zF) (c:=w) is (fun e he'=>by rw [PE.qK];exact VK e he')
     have g6:=kT (f:=sV) (c:=6) ns (fun q hq'=>by simpa [sV,qV] using hsI q hq')
     have m1:os.length*(1+w+1)≤2*(1+w+1):=Nat.mul_le_mul_right _ (by omega)
     have m2:ws.length*(w+1)≤1*(w+1):=Nat.mul_le_mul_right _ (by omega)
     have m3:rs.length*(w+1)≤1*(w+1):=Nat.mul_le_mul_right _ (by omega)
     have m4:is.length*(w+1)≤2*(w+1):=Nat.mul_le_mul_right _ (by omega)
     omega
end Go.Proofs.YtolhegocbkckdaaGreat
