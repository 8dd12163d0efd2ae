/-
 Catalogs drawn from a string of bytes. Own work; no condition.
-/
import Derived.Test.YtolhegocbkckdaaGreatDPd4
import Derived.Test.YtolhegocbkckdaaGreatMg15
namespace Go.Proofs.YtolhegocbkckdaaGreat
open Go
set_option linter.unusedSimpArgs false
set_option linter.unusedVariables false
abbrev jy.ov (y:List Tab × Nat × Nat):V := .agg [.qJ (.is y.2.1) y.2.2 0 y.1.length]
abbrev jy.ob (y:List Tab × Nat × Nat):List BE:=[.own (.qJ (.is y.2.1) y.2.2 0 y.1.length) (.sl 0 (y.1.map Tab.zF))]
def Tab.small (t:Tab):Prop:=t.name.length≤1∧t.qO.length≤3∧∀ c∈t.qO,c.name.length≤6
theorem Tab.oq {t:Tab} (h:t.small):t.wt≤22:=by
 obtain ⟨h1,h2,h3⟩:=h
 have e:bY Col.wt t.qO≤t.qO.length*7:=by
   generalize t.qO=l at h3
   induction l with
   | nil=>exact Nat.le_refl _
   | cons c l ih =>
     have a1:=h3 c (by simp)
     have a2:=ih fun x hx=>h3 x (by simp [hx])
     have a3:bY Col.wt (c::l)=l.length+1+(c.name.length+kM Col.wt l):=by simp [bY,kM,Col.wt]
     have a4:bY Col.wt l=l.length+kM Col.wt l:=rfl
     simp only [List.length_cons]
     omega
 have m:t.qO.length*7≤3*7:=Nat.mul_le_mul_right _ h2
 simp only [Tab.wt]
 omega
abbrev XT:List V:=[.str [116],.str [117],.str [118]]
theorem gX {b:V} (hb:Bytes b):jl Tryz.prog 67 b [] [] jy.ov jy.ob (fun y=>(0<y.1.length∧y.1.length≤3)∧∀ t∈y.1,t.small):=by
 intro s H l i h hi hh
 refine zi.jX Tryz.func67 rfl (by kernel_rfl) ?_
 repeat' first|(refine qj ?_;refine zq.kR zx hh rfl rfl ?_;intro s n hh)|(refine zU ?_;first|(refine zq.zN zx 0 hh rfl rfl rfl rfl rfl rfl rfl rfl rfl ?_;intro s hh))|(refine kZ ?_;first|(refine zq.ans (d:=12) (zk.fD zx rfl rfl rfl rfl rfl rfl rfl rfl rfl) ?_))|(refine zy 38 ?_;first|(refine zq.qc 2 rfl rfl vE hh rfl rfl ?_ (zP hb (by omega)) ?_;(focus (first | assumption | omega)) ;intro s x i h hq hi hh ;try dsimp only))|(refine zf ?_;first|(refine zq.nil ?_)|(refine' zq.ans (v := .agg _) (zk.jV zx rfl rfl rfl rfl ?_) ?_;rotate_left 1;(focus ((repeat' first|(exact Fills.nil));done)))|(refine zq.ev zx rfl ?_)|(refine xk ?_;first|(refine zq.ans (zk.add rfl rfl ?_) ?_;(focus (constructor <;> omega)))))|(refine zH ?_;first|(refine WL.seq ?_)|(refine WL.region (by kernel_rfl) ?_)|(refine WL.block ?_))|(refine zw ?_)
 rename_i nr _ _ _ _ _
 obtain ⟨m,rfl⟩:∃ m,m=n:=⟨n,rfl⟩
 obtain ⟨N,rfl⟩:∃ N,N=x:=⟨x,rfl⟩
 replace hh:=hh.vR
 refine WL.yw (fun y:(List Tab × Nat × Nat) × Int × Int=>(1+N - y.1.1.length).toNat) (fun y=>[(0,.ptr l 0),(2,.ptr nr 0),(3,.ptr m 0),(4,.sl 0 XT),(5,.int .i64 (1+N)),(6,.int .i64 (y.1.1.length:Int))])
   (fun y => .own (.qJ (.is y.1.2.1) y.1.2.2 0 y.1.1.length) (.sl 0 (y.1.1.map Tab.zF)) :: .cell l (vw b y.2.1 y.2.2) :: .cell m [.qJ (.is y.1.2.1) y.1.2.2 0 y.1.1.length] :: .cell nr [.zl]::H)
   (fun y=>((y.1.1.length:Int)≤1+N∧∀ t∈y.1.1,t.small)∧0≤y.2.1) (([],0,0),i,h) ⟨⟨by simp;omega,by simp⟩,hi⟩ ⟨rfl,rfl,rfl,rfl,rfl,rfl,trivial⟩ hh (zK.refl _) (fun y s hI hh=>?_)
 obtain ⟨⟨ts,c0,l0⟩,i,h⟩:=y
 obtain ⟨⟨hI,hsm⟩,hi⟩:=hI
 dsimp only at hI hsm hi hh ⊢
 by_cases hlt:(ts.length:Int)<1+N
 · skip
   repeat' first|(refine qj ?_;refine zq.kR zx hh rfl rfl ?_;intro s n hh)|(refine zU ?_;first|(refine zq.zN zx 0 hh rfl rfl rfl rfl rfl rfl rfl rfl rfl ?_;intro s hh))|(refine zy 38 ?_;first|(refine zq.qc 2 rfl rfl vE hh rfl rfl ?_ (zP hb (by omega)) ?_;(focus (first | assumption | omega)) ;intro s x i h hq hi hh ;try dsimp only))|(refine zf ?_;first|(refine zq.nil ?_)|(refine' zq.ans (v := .agg _) (zk.jV zx rfl rfl rfl rfl ?_) ?_;rotate_left 1;(focus ((repeat' first|(exact Fills.nil)|(refine' Fills.cons rfl rfl rfl rfl ?_));done)))|(refine zq.ev zx rfl ?_)|(refine xk ?_;first|(refine zq.ans (zk.add rfl rfl ?_) ?_;(focus (constructor <;> omega))))|(refine xw ?_;first|(refine zq.ans (zk.UZ zx rfl rfl rfl rfl rfl ?_ (iC (vs:=XT) rfl ?_ ?_) rfl rfl) ?_;(focus (omega));(focus (omega));(focus (show _≤(3:Int) - 1 ;omega)))))|(refine zH ?_;first|(refine WL.seq ?_)|(refine WL.region (by kernel_rfl) ?_)|(refine WL.block ?_)|(refine WL.skip ?_)|(refine zu ?_;first|(refine WL.zJ rfl ?_ ?_;(focus (first|(exact decide_eq_true (by assumption)))))))|(refine zw ?_)
   replace hh:=hh.vR
   refine WL.yw (fun y:(List Col × Nat × Nat) × Nat × Int × Int=>(1+x - y.2.1).toNat) (fun y=>[(0,.ptr l 0),(2,.ptr nr 0),(3,.ptr m 0),(4,.sl 0 XT),(5,.int .i64 (1+N)),(6,.int .i64 (ts.length:Int)),(7,.ptr n 0),(8,.int .i64 (1+x)),(9,.int .i64 (y.2.1:Int))])
     (fun y => .own (.qJ (.is y.1.2.1) y.1.2.2 0 y.1.1.length) (.sl 0 (y.1.1.map Col.zF)) :: .cell l (vw b y.2.2.1 y.2.2.2) :: .cell n [.str (VQ XT ts.length),.qJ (.is y.1.2.1) y.1.2.2 0 y.1.1.length] :: .own (.qJ (.is c0) l0 0 ts.length) (.sl 0 (ts.map Tab.zF)) :: .cell m [.qJ (.is c0) l0 0 ts.length] :: .cell nr [.zl]::H)
     (fun y=>(((y.1.1.length:Int)≤y.2.1∧(y.2.1:Int)≤1+x)∧∀ c∈y.1.1,c.name.length≤6)∧0≤y.2.2.1) (([],0,0),0,i,h) ⟨⟨⟨by simp,by show ((0:Nat):Int)≤1+x;omega⟩,by simp⟩,hi⟩ ⟨rfl,rfl,rfl,rfl,rfl,rfl,rfl,rfl,rfl,trivial⟩ hh (zK.refl _) (fun y s hJ hh=>?_)
   obtain ⟨⟨cs,c1,l1⟩,k,i,h⟩:=y
   obtain ⟨⟨⟨OA,hJ2⟩,hcn⟩,hi⟩:=hJ
   dsimp only at OA hJ2 hcn hi hh ⊢
   have hnm:(VQ XT ts.length).length≤1:=vF (n:=1) (List.mem_of_getElem? (iC (vs:=XT) rfl (by omega) (by show _≤(3:Int) - 1;omega))) rfl
   have hC:∀ (q:List UInt8) (t:S),VCalls Tryz.prog 28 [(⟨VQ XT ts.length,cs⟩:Tab).zF,.str q] t (fun v s'=>v = .int .i64 ((⟨VQ XT ts.length,cs⟩:Tab).at q)∧s'=t):=fun q t=>bU _ q (Nat.le_trans (Tab.oq ⟨hnm,by dsimp only;omega,hcn⟩) (by omega)) t
   obtain ⟨X,rfl⟩:∃ X,X=x:=⟨x,rfl⟩
   by_cases hlt1:(k:Int)<1+X
   · skip
     repeat' first|(refine qj ?_;refine zq.kR zx hh rfl rfl ?_;intro s n hh)|(refine zU ?_;first|(refine zq.zN zx 0 hh rfl rfl rfl rfl rfl rfl rfl rfl rfl ?_;intro s hh)|(refine zq.zN zx 1 hh rfl rfl rfl rfl rfl rfl rfl rfl rfl ?_;intro s hh)|(refine zq.zN zx 3 hh rfl rfl rfl rfl rfl rfl rfl rfl rfl ?_;intro s hh))|(refine kZ ?_;first|(refine zq.ans (d:=35) (zk.fD zx rfl rfl rfl rfl rfl rfl rfl rfl rfl) ?_)|(refine zq.ans (d:=38) (zk.fD zx rfl rfl rfl rfl rfl rfl rfl rfl rfl) ?_)|(refine zq.ans (zk.Zb zx rfl rfl rfl rfl rfl rfl rfl rfl ?_) ?_;(focus ((repeat' first|(exact jM.of rfl));done))))|(refine ji ?_;first|(refine' zq.appW zx 2 rfl rfl rfl rfl rfl rfl rfl rfl rfl rfl hh ?_ ?_ ?_ (xU.of ?_ rfl) ?_;rotate_left 2 ;(focus (first|(intro x hx;obtain ⟨y,_,rfl⟩:=List.mem_map.1 hx;first | rfl | exact PE.qA _ | exact PE.xC _))) ;(focus ((repeat' first|(exact qw.nil)|(exact qm.qP rfl)|(refine' qw.cons ?_ ?_)|(refine' qm.agg ?_));done)) ;(focus ((repeat' first|(exact zS.of rfl));done)) ;(focus (first | omega |(simp ;omega))) ;intro s c n hh))|(refine zy 68 ?_;first|(refine zq.qc 1 rfl rfl wU hh rfl rfl ?_ (qg hb (by omega)) ?_;(focus (first | assumption | omega)) ;intro s x i h hq hi hh ;try dsimp only))|(refine zy 76 ?_;first|(refine zq.qc 1 rfl rfl VZ hh rfl rfl ?_ (vC hb rfl (by simp)) ?_;(focus (first | assumption | omega)) ;intro s x i h hq hi hh ;try dsimp only))|(refine zy 80 ?_;first|(refine zq.qc 0 rfl rfl Es hh rfl rfl ?_ (uG hb rfl (by simp)) ?_;(focus (first | assumption | omega)) ;intro s x i h hq hi hh ;try dsimp only))|(refine zy 79 ?_;first|(refine zq.qc 0 rfl rfl Er hh rfl rfl ?_ (eZ hb) ?_;(focus (first | assumption | omega)) ;intro s x i h hq hi hh ;try dsimp only))|(refine zf ?_;first|(refine zq.nil ?_)|(refine' zq.ans (v := .agg _) (zk.jV zx rfl rfl rfl rfl ?_) ?_;rotate_left 1;(focus ((repeat' first|(exact Fills.nil)|(refine' Fills.cons rfl rfl rfl rfl ?_));done)))|(refine zq.ev zx rfl ?_)|(refine zo ?_;first|(refine zq.ans (zk.zM zx 1 hh rfl rfl rfl rfl) ?_)|(refine zq.ans (zk.zM zx 3 hh rfl rfl rfl rfl) ?_))|(refine xk ?_;first|(refine zq.ans (zk.add rfl rfl ?_) ?_;(focus (constructor <;> omega))))|(refine dw ?_;first|(refine zq.ans (zk.ze rfl rfl rfl BH (VCalls.Gu rfl hh (.cons (.agg (.cons (.pl rfl) (.cons (.own (.tail _ (.tail _ (.head _)))) .nil))) (.cons (.pl rfl) .nil)) (hC _))) ?_)))|(refine zH ?_;first|(refine WL.seq ?_)|(refine WL.region (by kernel_rfl) ?_)|(refine WL.block ?_)|(refine WL.skip ?_)|(refine zu ?_;first|(refine WL.zJ rfl ?_ ?_;(focus (first|(exact decide_eq_true (by assumption)))))|(refine WL.cond rfl (fun h=>?_) (fun h=>?_))))|(refine zw ?_)|(refine zQ ?_)
     · replace hh := hh.sel (.cons 0 rfl rfl (.cons 0 rfl rfl (.drop (zK.refl _))))
       all_goals
         try simp only [PE.uH,List.length_append,List.length_map,List.length_cons,List.length_nil,Nat.zero_add,Col.zF] at hh
         refine' kW.of (((cs++[Col.mk _ _],_,_),k+1,_,_)) ?_ hh ?_ ?_ ?_
         rotate_left 7
         · dsimp only;(try simp only [List.map_append,List.map_cons,List.map_nil,PE.vS,List.length_append,List.length_map,List.length_cons,List.length_nil,Nat.zero_add]);(repeat' first|(exact zK.nil)|(exact zK.refl _)|(refine' zK.p ?_ ?_;rotate_left 1;(focus (((repeat' first|(exact Pick.here)|(refine' Pick.there ?_));done)))));done
         · dsimp only;refine ⟨⟨⟨by simp;omega,by omega⟩,fun c hc=>?_⟩,by assumption⟩;rcases List.mem_append.1 hc with hc | hc;exact hcn c hc;rw [List.mem_singleton] at hc;subst hc;first | assumption | exact Nat.le_trans (vF (n:=4) (by assumption) rfl) (by omega)
         · dsimp only;first | omega |(simp;omega)|(simp_all;omega)
         · repeat' first | exact qz.nil |(refine qz.mk rfl ?_ ?_) | rfl |(simp;done)|(simp;omega)
     · replace hh := hh.sel (.cons 0 rfl rfl (.drop (zK.refl _)))
       all_goals
         try simp only [PE.uH,List.length_append,List.length_map,List.length_cons,List.length_nil,Nat.zero_add] at hh
         refine' kW.of (((cs,c1,l1),k+1,_,_)) ?_ hh ?_ ?_ ?_
         rotate_left 3
         · dsimp only;(try simp only [List.map_append,List.map_cons,List.map_nil,PE.vS,List.length_append,List.length_map,List.length_cons,List.length_nil,Nat.zero_add]);(repeat' first|(exact zK.nil)|(exact zK.refl _)|(refine' zK.p ?_ ?_;rotate_left 1;(focus (((repeat' first|(exact Pick.here)|(refine' Pick.there ?_));done)))));done
         · dsimp only;refine ⟨⟨⟨by omega,by omega⟩,hcn⟩,by assumption⟩
         · dsimp only;first | omega |(simp;omega)|(simp_all;omega)
         · repeat' first | exact qz.nil |(refine qz.mk rfl ?_ ?_) | rfl |(simp;done)|(simp;omega)
     · replace hh := hh.sel (.cons 0 rfl rfl (.cons 0 rfl rfl (.drop (zK.refl _))))
       all_goals
         try simp only [PE.uH,List.length_append,List.length_map,List.length_cons,List.length_nil,Nat.zero_add,Col.zF] at hh
         refine' kW.of (((cs++[Col.mk _ _],_,_),k+1,_,_)) ?_ hh ?_ ?_ ?_
         rotate_left 7
         · dsimp only;(try simp only [List.map_append,List.map_cons,List.map_nil,PE.vS,List.length_append,List.length_map,List.length_cons,List.length_nil,Nat.zero_add]);(repeat' first|(exact zK.nil)|(exact zK.refl _)|(refine' zK.p ?_ ?_;rotate_left 1;(focus (((repeat' first|(exact Pick.here)|(refine' Pick.there ?_));done)))));done
         · dsimp only;refine ⟨⟨⟨by simp;omega,by omega⟩,fun c hc=>?_⟩,by assumption⟩;rcases List.mem_append.1 hc with hc | hc;exact hcn c hc;rw [List.mem_singleton] at hc;subst hc;first | assumption | exact Nat.le_trans (vF (n:=4) (by assumption) rfl) (by omega)
         · dsimp only;first | omega |(simp;omega)|(simp_all;omega)
         · repeat' first | exact qz.nil |(refine qz.mk rfl ?_ ?_) | rfl |(simp;done)|(simp;omega)
     · replace hh := hh.sel (.cons 0 rfl rfl (.drop (zK.refl _)))
       all_goals
         try simp only [PE.uH,List.length_append,List.length_map,List.length_cons,List.length_nil,Nat.zero_add] at hh
         refine' kW.of (((cs,c1,l1),k+1,_,_)) ?_ hh ?_ ?_ ?_
         rotate_left 3
         · dsimp only;(try simp only [List.map_append,List.map_cons,List.map_nil,PE.vS,List.length_append,List.length_map,List.length_cons,List.length_nil,Nat.zero_add]);(repeat' first|(exact zK.nil)|(exact zK.refl _)|(refine' zK.p ?_ ?_;rotate_left 1;(focus (((repeat' first|(exact Pick.here)|(refine' Pick.there ?_));done)))));done
         · dsimp only;refine ⟨⟨⟨by omega,by omega⟩,hcn⟩,by assumption⟩
         · dsimp only;first | omega |(simp;omega)|(simp_all;omega)
         · repeat' first | exact qz.nil |(refine qz.mk rfl ?_ ?_) | rfl |(simp;done)|(simp;omega)
   · skip
     repeat' first|(refine zU ?_;first|(refine zq.zN zx 3 hh rfl rfl rfl rfl rfl rfl rfl rfl rfl ?_;intro s hh))|(refine kZ ?_;first|(refine zq.ans (zk.Zb zx rfl rfl rfl rfl rfl rfl rfl rfl ?_) ?_;(focus ((repeat' first|(exact jM.of rfl));done))))|(refine ji ?_;first|(refine' zq.appW zx 3 rfl rfl rfl rfl rfl rfl rfl rfl rfl rfl hh ?_ ?_ ?_ (xU.of ?_ rfl) ?_;rotate_left 2 ;(focus (first|(intro x hx;obtain ⟨y,_,rfl⟩:=List.mem_map.1 hx;first | rfl | exact PE.qA _ | exact PE.xC _))) ;(focus ((repeat' first|(exact qw.nil)|(exact qm.qP rfl)|(refine' qm.op ?_;((repeat' first|(exact Pick.here)|(refine' Pick.there ?_));done))|(refine' qw.cons ?_ ?_)|(refine' qm.agg ?_));done)) ;(focus ((repeat' first|(exact zS.of rfl));done)) ;(focus (first | omega |(simp ;omega))) ;intro s c n hh))|(refine zf ?_;first|(refine zq.nil ?_)|(refine zq.ev zx rfl ?_)|(refine zo ?_;first|(refine zq.ans (zk.zM zx 2 hh rfl rfl rfl rfl) ?_)|(refine zq.ans (zk.zM zx 4 hh rfl rfl rfl rfl) ?_))|(refine xk ?_;first|(refine zq.ans (zk.add rfl rfl ?_) ?_;(focus (constructor <;> omega)))))|(refine zH ?_;first|(refine WL.seq ?_)|(refine WL.region (by kernel_rfl) ?_)|(refine WL.exit ?_)|(refine zu ?_;first|(refine WL.zY rfl ?_ ?_;(focus (first|(exact decide_eq_false (by assumption)))))))|(refine zw ?_)|(refine zC ?_)|(refine zQ ?_)|(refine zV ?_)|(refine ko ?_)
     replace hh:=hh.sel (.cons 0 rfl rfl (.cons 0 rfl rfl (.drop (zK.refl _))))
     all_goals
       try simp only [PE.uH,List.length_append,List.length_map,List.length_cons,List.length_nil,Nat.zero_add,Tab.zF] at hh
       refine' kW.of (((ts++[⟨VQ XT ts.length,cs⟩],_,_),_,_)) ?_ hh ?_ ?_ ?_
       rotate_left 5
       · dsimp only;(try simp only [List.map_append,List.map_cons,List.map_nil,PE.vS,List.length_append,List.length_map,List.length_cons,List.length_nil,Nat.zero_add]);(repeat' first|(exact zK.nil)|(exact zK.refl _)|(refine' zK.p ?_ ?_;rotate_left 1;(focus (((repeat' first|(exact Pick.here)|(refine' Pick.there ?_));done)))));done
       · dsimp only;refine ⟨⟨by simp;omega,fun t ht=>?_⟩,by assumption⟩;rcases List.mem_append.1 ht with ht | ht;exact hsm t ht;rw [List.mem_singleton] at ht;subst ht;exact ⟨hnm,by dsimp only;omega,hcn⟩
       · dsimp only;first | omega |(simp;omega)|(simp_all;omega)
       · repeat' first | exact qz.nil |(refine qz.mk rfl ?_ ?_) | rfl |(simp;done)|(simp;omega)
 · skip
   repeat' first|(refine zU ?_;first|(refine zq.zN zx 3 hh rfl rfl rfl rfl rfl rfl rfl rfl rfl ?_;intro s hh))|(refine zf ?_;first|(refine zq.nil ?_)|(refine zq.ev zx rfl ?_)|(refine zo ?_;first|(refine zq.ans (zk.zM zx 2 hh rfl rfl rfl rfl) ?_)))|(refine zH ?_;first|(refine WL.seq ?_)|(refine WL.region (by kernel_rfl) ?_)|(refine WL.exit ?_)|(refine WL.ret ?_)|(refine zu ?_;first|(refine WL.zY rfl ?_ ?_;(focus (first|(exact decide_eq_false (by assumption)))))))|(refine zw ?_)|(refine zC ?_)|(refine zV ?_)|(refine ko ?_)|(refine' zh.r1 (r := .cell 2 26) (.inl rfl) ?_ ?_;rotate_left 1;(focus (first|(exact zn.xM 3 zx hh rfl rfl rfl rfl))))
   apply jl.fin (y:=(ts,c0,l0)) (hh:=hh)
   case hv=>rfl
   case hi=>assumption
   case hs =>
     dsimp only [List.cons_append,List.nil_append]
     (repeat' first|(exact zK.nil)|(exact zK.refl _)|(refine' zK.p ?_ ?_;rotate_left 1;(focus (((repeat' first|(exact Pick.here)|(refine' Pick.there ?_));done)))))
     (repeat' first|(exact zK.refl _)|(refine zK.drop ?_))
   case hp=>exact ⟨⟨by dsimp only;omega,by dsimp only;omega⟩,hsm⟩
end Go.Proofs.YtolhegocbkckdaaGreat
