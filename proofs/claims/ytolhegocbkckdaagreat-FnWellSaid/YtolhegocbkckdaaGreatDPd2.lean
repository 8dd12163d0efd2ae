/-
 Plans' trees drawn, whole: by induction on the depth. Own work; no condition.
-/
import Derived.Test.YtolhegocbkckdaaGreatDPd
namespace Go.Proofs.YtolhegocbkckdaaGreat
open Go
set_option linter.unusedSimpArgs false
set_option linter.unusedVariables false
def wE:Nat→Nat
 | 0=>8
 | 1=>30
 | n+2=>3*(wE (n+1)+1)+1+(64+6*wE n)
theorem Lf:∀ n,8≤wE n
 | 0=>by decide
 | 1=>by decide
 | n+2=>by simp only [wE];omega
theorem XR (n:Nat):3*(wE n+1)+1≤wE (n+1):=by
 cases n with
 | zero=>decide
 | succ n=>show 3*(wE (n+1)+1)+1≤3*(wE (n+1)+1)+1+(64+6*wE n);omega
theorem Me (n:Nat):wE n≤wE (n+1):=by have:=XR n;omega
theorem aM {es:List PE} {w:Nat} (h:∀ e∈es,qV e.v≤w):qV (.sl 0 (es.map PE.zF))≤es.length*(w+1):=kT es fun e he=>by rw [PE.qK];exact h e he
theorem PL.uH (p:PL):V.agg [.sl 0 (p.tables.map iV),.sl 0 (p.on.map PE.vS),.sl 0 (p.xO.map PE.zF),.sl 0 (p.order.map PE.sv),.sl 0 (p.items.map PE.zF),.sl 0 (p.names.map sV),.bool p.distinct,.int .i64 p.limit]=PE.xu p:=(PE.kX p).symm
theorem wK:qV (.sl 0 (([]:List PL).map PE.xu))=0:=rfl
theorem uV:qV (.sl 0 (([]:List PE).map PE.zF))=0:=rfl
theorem nL (p:PL):qV (.sl 0 ([p].map PE.xu))=1+qV p.v:=by simp only [List.map_cons,List.map_nil,PE.kX,qV,wJ,List.length_cons,List.length_nil];omega
set_option maxHeartbeats 4000000 in
theorem lJ {b:V} (hb:Bytes b):∀ (n:Nat) (deep:Int),0≤deep→deep≤n→n≤60→PE.D Tryz.prog 43 b [.int .i64 deep] (fun e=>qV e.v≤wE n):=by
 intro n
 induction n using Nat.strongRecOn with
 | ind n ih =>
 intro deep hd0 hdn Rt
 have hk:∀ (k:Nat),n=k+1→1≤deep→∀ m:Int,0≤m∧m≤5→PE.KD Tryz.prog 75 b [.int .i64 deep,.int .i64 m] (fun es=>es.length=m.toNat∧∀ e∈es,qV e.v≤wE k):=fun k hk hd m hm =>
   lX (ih k (by omega) (deep - 1) (by omega) (by omega) (by omega)) (by omega) hm
 have hp:∀ (k:Nat),n=k+2→2≤deep→PL.D Tryz.prog 72 b [.int .i64 (deep - 2)] (fun p=>qV p.v≤64+6*wE k∧0<p.items.length):=fun k hk hd =>
   lK hb (ih k (by omega) (deep - 2) (by omega) (by omega) (by omega)) (by omega)
 intro s H l i h hi hh
 replace hh:Hold s s.next (.cell l (vw b i h)::H):=hh
 have h8:=Lf n
 refine zi.jX Tryz.func43 rfl (by kernel_rfl) ?_
 by_cases hz:deep≤0
 · skip
   repeat' first|(refine qj ?_;refine zq.kR zx hh rfl rfl ?_;intro s n hh)|(refine zU ?_;first|(refine zq.zN zx 1 hh rfl rfl rfl rfl rfl rfl rfl rfl rfl ?_;intro s hh))|(refine zy 38 ?_;first|(refine zq.qc 0 rfl rfl vE hh rfl rfl ?_ (zP hb (by omega)) ?_;(focus (first | assumption | omega)) ;intro s x i h hq hi hh ;try dsimp only))|(refine zy 68 ?_;first|(refine zq.qc 1 rfl rfl wU hh rfl rfl ?_ (qg hb (by omega)) ?_;(focus (first | assumption | omega)) ;intro s x i h hq hi hh ;try dsimp only))|(refine zy 74 ?_;first|(refine zq.qc 0 rfl rfl Eo hh rfl rfl ?_ (bG hb) ?_;(focus (first | assumption | omega)) ;intro s x i h hq hi hh ;try dsimp only))|(refine zf ?_;first|(refine zq.nil ?_)|(refine kG ?_;first|(refine zq.gF rfl rfl rfl ?_)|(refine zq.gD true rfl rfl rfl ?_ ?_;(focus (first|(exact decide_eq_true (by assumption))))))|(refine' zq.ans (v := .agg _) (zk.jV zx rfl rfl rfl rfl ?_) ?_;rotate_left 1;(focus ((repeat' first|(exact Fills.nil)|(refine' Fills.cons rfl rfl rfl rfl ?_));done)))|(refine zq.ev zx rfl ?_))|(refine zH ?_;first|(refine WL.seq ?_)|(refine WL.region (by kernel_rfl) ?_)|(refine WL.skip ?_)|(refine WL.ret ?_)|(refine zu ?_;first|(refine WL.qb rfl ?_)|(refine WL.cond rfl (fun h=>?_) (fun h=>?_))))|(refine zw ?_)|(refine zZ ?_)|(refine' zh.r1 (r := .cell 4 48) (.inl rfl) ?_ ?_;rotate_left 1;(focus (first|(exact zn.xM 1 zx hh rfl rfl rfl rfl))))
   all_goals
     replace hh:=hh.vR.vR
     apply jl.fin (y:=(PE.mk _ _ _ ⟨_,_,_⟩ _ _ [] [],fun _=>(0,0))) (hh:=hh)
     case hv=>rfl
     case hi=>assumption
     case hs =>
       dsimp only [PE.ob,List.cons_append,List.nil_append]
       (repeat' first|(exact zK.nil)|(exact zK.refl _)|(refine' zK.p ?_ ?_;rotate_left 1;(focus (((repeat' first|(exact Pick.here)|(refine' Pick.there ?_));done)))))
       (repeat' first|(exact zK.refl _)|(refine zK.drop ?_))
     case hp =>
       dsimp only
       rw [PE.qC]
       simp only [PE.value,PE.kids,PE.sub,wK,uV,List.length_nil]
       first | omega |(have hq2:x.text.length≤4:=hq;omega)
 obtain ⟨k,rfl⟩:∃ k,n=k+1:=⟨n - 1,by omega⟩
 replace hk:=hk k rfl (by omega)
 by_cases ho:deep≤1
 · skip
   repeat' first|(refine qj ?_;refine zq.kR zx hh rfl rfl ?_;intro s n hh)|(refine zU ?_;first|(refine zq.zN zx 1 hh rfl rfl rfl rfl rfl rfl rfl rfl rfl ?_;intro s hh)|(refine zq.zN zx 2 hh rfl rfl rfl rfl rfl rfl rfl rfl rfl ?_;intro s hh))|(refine zy 38 ?_;first|(refine zq.qc 0 rfl rfl vE hh rfl rfl ?_ (zP hb (by omega)) ?_;(focus (first | assumption | omega)) ;intro s x i h hq hi hh ;try dsimp only))|(refine zy 68 ?_;first|(refine zq.qc 0 rfl rfl wU hh rfl rfl ?_ (qg hb (by omega)) ?_;(focus (first | assumption | omega)) ;intro s x i h hq hi hh ;try dsimp only)|(refine zq.qc 1 rfl rfl wU hh rfl rfl ?_ (qg hb (by omega)) ?_;(focus (first | assumption | omega)) ;intro s x i h hq hi hh ;try dsimp only))|(refine zy 74 ?_;first|(refine zq.qc 0 rfl rfl Eo hh rfl rfl ?_ (bG hb) ?_;(focus (first | assumption | omega)) ;intro s x i h hq hi hh ;try dsimp only))|(refine zy 75 ?_;first|(refine zq.jF 0 rfl rfl Ep hh (hk _ (by omega)) .nil rfl rfl ?_ ?_;(focus (first | assumption | omega)) ;intro s y i h hq hi hh ;try dsimp only [List.cons_append,List.nil_append] at hh))|(refine zf ?_;first|(refine zq.nil ?_)|(refine kG ?_;first|(refine zq.gT rfl rfl rfl ?_)|(refine zq.gD false rfl rfl rfl ?_ ?_;(focus (first|(exact decide_eq_false (by assumption))))))|(refine' zq.ans (v := .agg _) (zk.jV zx rfl rfl rfl rfl ?_) ?_;rotate_left 1;(focus ((repeat' first|(exact Fills.nil)|(refine' Fills.cons rfl rfl rfl rfl ?_));done)))|(refine zq.ev zx rfl ?_)|(refine xk ?_;first|(refine zq.ans (zk.add rfl rfl ?_) ?_;(focus (constructor <;> omega)))))|(refine zH ?_;first|(refine WL.seq ?_)|(refine WL.region (by kernel_rfl) ?_)|(refine WL.block ?_)|(refine WL.skip ?_)|(refine WL.ret ?_)|(refine zu ?_;first|(refine WL.zY rfl ?_ ?_;(focus (first|(simp <;> omega))))|(refine WL.cond rfl (fun h=>?_) (fun h=>?_))))|(refine zw ?_)|(refine zZ ?_)|(refine zQ ?_)|(refine zB ?_)|(refine' zh.r1 (r := .cell 4 48) (.inl rfl) ?_ ?_;rotate_left 1;(focus (first|(exact zn.xM 1 zx hh rfl rfl rfl rfl)|(exact zn.xM 2 zx hh rfl rfl rfl rfl))))
   all_goals
     first
       | skip
         replace hh:=hh.vR.vR
         apply jl.fin (y:=(PE.mk _ _ _ ⟨_,_,_⟩ _ _ [] [],fun _=>(0,0))) (hh:=hh)
         case hv=>rfl
         case hi=>assumption
         case hs =>
           dsimp only [PE.ob,List.cons_append,List.nil_append]
           (repeat' first|(exact zK.nil)|(exact zK.refl _)|(refine' zK.p ?_ ?_;rotate_left 1;(focus (((repeat' first|(exact Pick.here)|(refine' Pick.there ?_));done)))))
           (repeat' first|(exact zK.refl _)|(refine zK.drop ?_))
         case hp =>
           dsimp only
           rw [PE.qC]
           simp only [PE.value,PE.kids,PE.sub,wK,uV,List.length_nil]
           first | omega |(have hq2:x.text.length≤4:=hq;omega)
       | skip
         replace hh:=hh.vR
         apply jl.fin (y:=(PE.mk _ _ _ ⟨_,_,_⟩ _ _ y.1 [],f2 y.2 (0,0))) (hh:=hh)
         case hv=>rfl
         case hi=>assumption
         case hs =>
           dsimp only [PE.ob,List.cons_append,List.nil_append]
           (repeat' first|(exact zK.nil)|(exact zK.refl _)|(refine' zK.p ?_ ?_;rotate_left 1;(focus (((repeat' first|(exact Pick.here)|(refine' Pick.there ?_));done)))))
           (repeat' first|(exact zK.refl _)|(refine zK.drop ?_))
         case hp =>
           have g1:y.1.length≤3:=by have:=hq.1;omega
           have g2:=aM hq.2
           have g3:=Nat.mul_le_mul_right (wE k+1) g1
           have g4:=XR k
           dsimp only
           rw [PE.qC]
           simp only [PE.value,PE.kids,PE.sub,wK,List.length_nil]
           omega
 obtain ⟨k,rfl⟩:∃ j,k=j+1:=⟨k - 1,by omega⟩
 replace hp:=hp k rfl (by omega)
 repeat' first|(refine qj ?_;refine zq.kR zx hh rfl rfl ?_;intro s n hh)|(refine zU ?_;first|(refine zq.zN zx 1 hh rfl rfl rfl rfl rfl rfl rfl rfl rfl ?_;intro s hh)|(refine zq.zN zx 2 hh rfl rfl rfl rfl rfl rfl rfl rfl rfl ?_;intro s hh)|(refine zq.zN zx 3 hh rfl rfl rfl rfl rfl rfl rfl rfl rfl ?_;intro s hh))|(refine kZ ?_;first|(refine' zq.Z7 (d:=69) zx rfl rfl rfl rfl rfl rfl rfl rfl hh ?_ ?_ ?_;rotate_left 2 ;(focus ((repeat' first|(exact qw.nil)|(exact qm.qP rfl)|(refine' qm.op ?_;((repeat' first|(exact Pick.here)|(refine' Pick.there ?_));done))|(refine' qw.cons ?_ ?_)|(refine' qm.agg ?_));done)) ;(focus ((repeat' first|(exact jM.of rfl));done)) ;intro s n hh)|(refine' zq.Z7 (d:=79) zx rfl rfl rfl rfl rfl rfl rfl rfl hh ?_ ?_ ?_;rotate_left 2 ;(focus ((repeat' first|(exact qw.nil)|(exact qm.qP rfl)|(refine' qm.op ?_;((repeat' first|(exact Pick.here)|(refine' Pick.there ?_));done))|(refine' qw.cons ?_ ?_)|(refine' qm.agg ?_));done)) ;(focus ((repeat' first|(exact jM.of rfl));done)) ;intro s n hh))|(refine zy 38 ?_;first|(refine zq.qc 0 rfl rfl vE hh rfl rfl ?_ (zP hb (by omega)) ?_;(focus (first | assumption | omega)) ;intro s x i h hq hi hh ;try dsimp only))|(refine zy 68 ?_;first|(refine zq.qc 0 rfl rfl wU hh rfl rfl ?_ (qg hb (by omega)) ?_;(focus (first | assumption | omega)) ;intro s x i h hq hi hh ;try dsimp only)|(refine zq.qc 1 rfl rfl wU hh rfl rfl ?_ (qg hb (by omega)) ?_;(focus (first | assumption | omega)) ;intro s x i h hq hi hh ;try dsimp only))|(refine zy 74 ?_;first|(refine zq.qc 0 rfl rfl Eo hh rfl rfl ?_ (bG hb) ?_;(focus (first | assumption | omega)) ;intro s x i h hq hi hh ;try dsimp only))|(refine zy 75 ?_;first|(refine zq.jF 0 rfl rfl Ep hh (hk _ (by omega)) .nil rfl rfl ?_ ?_;(focus (first | assumption | omega)) ;intro s y i h hq hi hh ;try dsimp only [List.cons_append,List.nil_append] at hh))|(refine zy 72 ?_;first|(refine zq.jF 0 rfl rfl En hh (hp) .nil rfl rfl ?_ ?_;(focus (first | assumption | omega)) ;intro s y i h hq hi hh ;try dsimp only [List.cons_append,List.nil_append] at hh)|(refine zq.jF 1 rfl rfl En hh (hp) .nil rfl rfl ?_ ?_;(focus (first | assumption | omega)) ;intro s y i h hq hi hh ;try dsimp only [List.cons_append,List.nil_append] at hh))|(refine zf ?_;first|(refine zq.nil ?_)|(refine kG ?_;first|(refine zq.gT rfl rfl rfl ?_)|(refine zq.gD false rfl rfl rfl ?_ ?_;(focus (first|(exact decide_eq_false (by assumption))))))|(refine' zq.ans (v := .agg _) (zk.jV zx rfl rfl rfl rfl ?_) ?_;rotate_left 1;(focus ((repeat' first|(exact Fills.nil)|(refine' Fills.cons rfl rfl rfl rfl ?_));done)))|(refine zq.ev zx rfl ?_)|(refine xk ?_;first|(refine zq.ans (zk.add rfl rfl ?_) ?_;(focus (constructor <;> omega)))|(refine zq.ans (zk.sub rfl rfl ?_) ?_;(focus (constructor <;> omega)))))|(refine zH ?_;first|(refine WL.seq ?_)|(refine WL.region (by kernel_rfl) ?_)|(refine WL.block ?_)|(refine WL.skip ?_)|(refine WL.ret ?_)|(refine zu ?_;first|(refine WL.zJ rfl ?_ ?_;(focus (first|(simp <;> omega))))|(refine WL.cond rfl (fun h=>?_) (fun h=>?_))))|(refine zw ?_)|(refine zZ ?_)|(refine zQ ?_)|(refine zB ?_)|(refine' zh.r1 (r := .cell 4 48) (.inl rfl) ?_ ?_;rotate_left 1;(focus (first|(exact zn.xM 1 zx hh rfl rfl rfl rfl)|(exact zn.xM 2 zx hh rfl rfl rfl rfl)|(exact zn.xM 3 zx hh rfl rfl rfl rfl))))
 all_goals try simp only [PL.uH] at hh
 all_goals
   first
     | skip
       replace hh:=hh.vR.vR
       apply jl.fin (y:=(PE.mk _ _ _ ⟨_,_,_⟩ _ _ [] [],fun _=>(0,0))) (hh:=hh)
       case hv=>rfl
       case hi=>assumption
       case hs =>
         dsimp only [PE.ob,List.cons_append,List.nil_append]
         (repeat' first|(exact zK.nil)|(exact zK.refl _)|(refine' zK.p ?_ ?_;rotate_left 1;(focus (((repeat' first|(exact Pick.here)|(refine' Pick.there ?_));done)))))
         (repeat' first|(exact zK.refl _)|(refine zK.drop ?_))
       case hp =>
         dsimp only
         rw [PE.qC]
         simp only [PE.value,PE.kids,PE.sub,wK,uV,List.length_nil]
         first | omega |(have hq2:x.text.length≤4:=hq;omega)
     | skip
       replace hh:=hh.vR
       apply jl.fin (y:=(PE.mk _ _ _ ⟨_,_,_⟩ _ _ y.1 [],f2 y.2 (0,0))) (hh:=hh)
       case hv=>rfl
       case hi=>assumption
       case hs =>
         dsimp only [PE.ob,List.cons_append,List.nil_append]
         (repeat' first|(exact zK.nil)|(exact zK.refl _)|(refine' zK.p ?_ ?_;rotate_left 1;(focus (((repeat' first|(exact Pick.here)|(refine' Pick.there ?_));done)))))
         (repeat' first|(exact zK.refl _)|(refine zK.drop ?_))
       case hp =>
         have g1:y.1.length≤3:=by have:=hq.1;omega
         have g2:=aM hq.2
         have g3:=Nat.mul_le_mul_right (wE (k+1)+1) g1
         have g4:=XR (k+1)
         dsimp only
         rw [PE.qC]
         simp only [PE.value,PE.kids,PE.sub,wK,List.length_nil]
         omega
     | skip
       replace hh:=hh.vR
       apply jl.fin (y:=(PE.mk _ _ _ ⟨_,_,_⟩ _ _ [] [y.1],f2 (0,0) (1,_))) (hh:=hh)
       case hv=>rfl
       case hi=>assumption
       case hs =>
         dsimp only [PE.ob,List.cons_append,List.nil_append]
         (repeat' first|(exact zK.nil)|(exact zK.refl _)|(refine' zK.p ?_ ?_;rotate_left 1;(focus (((repeat' first|(exact Pick.here)|(refine' Pick.there ?_));done)))))
         (repeat' first|(exact zK.refl _)|(refine zK.drop ?_))
       case hp =>
         dsimp only
         rw [PE.qC]
         simp only [PE.value,PE.kids,PE.sub,uV,nL,List.length_nil]
         have g1:=hq.1
         have g2:wE (k+1+1)=3*(wE (k+1)+1)+1+(64+6*wE k):=rfl
         omega
     | skip
       skip
       apply jl.fin (y:=(PE.mk _ _ _ ⟨_,_,_⟩ _ _ _ [y.1],f2 (_,_) (1,_))) (hh:=hh)
       case hv=>rfl
       case hi=>assumption
       case hs =>
         dsimp only [PE.ob,List.cons_append,List.nil_append]
         (repeat' first|(exact zK.nil)|(exact zK.refl _)|(refine' zK.p ?_ ?_;rotate_left 1;(focus (((repeat' first|(exact Pick.here)|(refine' Pick.there ?_));done)))))
         (repeat' first|(exact zK.refl _)|(refine zK.drop ?_))
       case hp =>
         rename List PE × Nat × Nat=>y0
         have hq0:y0.1.length=Int.toNat 1∧∀ e∈y0.1,qV e.v≤wE (k+1):=by assumption
         have g1:y0.1.length≤3:=by have:=hq0.1;omega
         have g2:=aM hq0.2
         have g3:=Nat.mul_le_mul_right (wE (k+1)+1) g1
         have g4:=hq.1
         dsimp only
         rw [PE.qC]
         simp only [PE.value,PE.kids,PE.sub,nL,List.length_nil]
         have g5:wE (k+1+1)=3*(wE (k+1)+1)+1+(64+6*wE k):=rfl
         omega
end Go.Proofs.YtolhegocbkckdaaGreat
