/-
 Strings drawn; trees and plans drawn from a string of bytes. Own work; no condition.
-/
import Derived.Test.YtolhegocbkckdaaGreatDPd3
namespace Go.Proofs.YtolhegocbkckdaaGreat
open Go
set_option linter.unusedSimpArgs false
set_option linter.unusedVariables false
theorem VJ (x:Int):∃ y:UInt8,V.int .u8 (IntKind.u8.wrap x)=yA y:=by
 refine ⟨UInt8.ofNat (IntKind.u8.wrap x).toNat,?_⟩
 have h:0≤IntKind.u8.wrap x∧IntKind.u8.wrap x<256:=by constructor <;> simp [IntKind.wrap,IntKind.bits,IntKind.signed] <;> omega
 simp only [yA,UInt8.toNat_ofNat']
 congr 1
 omega
theorem nN:∀ L:List UInt8,yG (L.map yA)=some L
 | []=>rfl
 | c::L=>by
   have e:yG ((c::L).map yA)=(yG (L.map yA)).map (UInt8.ofNat ((c.toNat:Int)).toNat :: ·):=rfl
   rw [e,nN L]
   simp
theorem Qk {b:V} (hb:Bytes b) {n:Nat} (hn:n≤1000000):bN Tryz.prog 78 b [.int .i64 (n:Int)] (fun bs:List UInt8 => .sl 0 (bs.map yA)) (fun bs=>bs.length=n):=by
 intro s H l i h hi hh
 refine VCalls.Br ?_
 refine zi.jX Tryz.func78 rfl (by kernel_rfl) ?_
 repeat' first|(refine kZ ?_;refine zq.uT zx rfl rfl rfl rfl rfl ?_)|(refine zf ?_;first|(refine zq.nil ?_)|(refine zq.ev zx rfl ?_))|(refine zH ?_;first|(refine WL.seq ?_)|(refine WL.region (by kernel_rfl) ?_)|(refine WL.block ?_))|(refine zw ?_)
 refine WL.CB (t:=5) 1 rfl rfl hh (fun s id hh=>?_)
 replace hh:=hh.Gh (i:=0) rfl rfl
 refine WL.yw (fun x:List UInt8 × Int × Int=>n - x.1.length) (fun x=>[(0,.ptr l 0),(1,.int .i64 (n:Int)),(5,.sl id (x.1.map yA)),(6,.int .i64 (x.1.length:Int))]) (fun x => .Bg id 1 (x.1.map yA) :: .cell l (vw b x.2.1 x.2.2)::H)
   (fun x=>x.1.length≤n∧0≤x.2.1) ([],i,h) ⟨Nat.zero_le _,hi⟩ ⟨rfl,rfl,rfl,rfl,trivial⟩ hh (zK.refl _) (fun x s hI hh=>?_)
 obtain ⟨bs,i,h⟩:=x
 obtain ⟨hI,hi⟩:=hI
 dsimp only at hI hi hh ⊢
 by_cases hlt:(bs.length:Int)<n
 · skip
   repeat' first|(refine kZ ?_;refine' zq.XK zx rfl rfl rfl rfl rfl rfl rfl rfl hh ?_ ?_ ?_;rotate_left 2 ;(focus ((repeat' first|(exact xE.sK rfl rfl));done)) ;(focus ((repeat' first|(exact jM.of rfl));done)) ;intro s n hh)|(refine ji ?_;first|(refine' zq.Nu zx 2 rfl rfl rfl rfl rfl rfl rfl rfl rfl rfl rfl hh ?_ (xU.of ?_ rfl) ?_;(focus ((repeat' first|(exact zS.of rfl));done)) ;(focus (first | omega |(simp ;omega))) ;intro s hh))|(refine zy 70 ?_;first|(refine zq.qc 1 rfl rfl Em hh rfl rfl ?_ (d9 hb) ?_;(focus (first | assumption | omega)) ;intro s x i h hq hi hh ;try dsimp only))|(refine zf ?_;first|(refine zq.nil ?_)|(refine zq.ev zx rfl ?_)|(refine xk ?_;first|(refine zq.ans (zk.add rfl rfl ?_) ?_;(focus (constructor <;> omega)))))|(refine zH ?_;first|(refine WL.seq ?_)|(refine WL.region (by kernel_rfl) ?_)|(refine WL.block ?_)|(refine WL.skip ?_)|(refine zu ?_;first|(refine WL.zJ rfl ?_ ?_;(focus (first|(exact decide_eq_true (by assumption)))))))|(refine zw ?_)|(refine zQ ?_)
   obtain ⟨y,hy⟩:=VJ x
   rw [hy] at hh ⊢
   refine kW.of (bs++[y],i,h) ?_ hh ?_ ⟨by simp;omega,hi⟩ (by simp;omega)
   · dsimp only
     rw [List.map_append]
     repeat' first | exact qz.nil |(refine qz.mk rfl ?_ ?_) | rfl |(simp <;> fail)|(simp;omega)
   · dsimp only
     rw [List.map_append]
     (repeat' first|(exact zK.refl _)|(refine zK.cons 0 rfl rfl ?_)|(refine zK.cons 1 rfl rfl ?_)|(refine zK.cons 2 rfl rfl ?_)|(refine zK.cons 3 rfl rfl ?_)|(refine zK.drop ?_))
 · skip
   repeat' first|(refine zf ?_;first|(refine zq.nil ?_)|(refine zq.ev zx rfl ?_))|(refine zH ?_;first|(refine WL.seq ?_)|(refine WL.region (by kernel_rfl) ?_)|(refine WL.exit ?_)|(refine WL.ret ?_)|(refine zu ?_;first|(refine WL.zY rfl ?_ ?_;(focus (first|(exact decide_eq_false (by assumption)))))))|(refine zw ?_)|(refine zC ?_)|(refine zV ?_)|(refine ko ?_)|(refine zh.r1 (r := .tmp 4) (.inl rfl) (zn.tmp rfl) ?_)
   apply bN.fin (x:=bs) (hh:=hh)
   case hv=>simp [V.forget,V.xL,yA]
   case hp=>omega
   case hi=>exact hi
   case hs=>exact zK.drop (zK.refl _)
theorem Zn {b:V} (hb:Bytes b) {x:Int} (h:0≤x∧x≤1000000):bN Tryz.prog 78 b [.int .i64 x] (fun bs:List UInt8 => .sl 0 (bs.map yA)) (fun bs=>(bs.length:Int)=x):=by
 have h1:=Qk hb (n:=x.toNat) (by omega)
 rw [Int.toNat_of_nonneg h.1] at h1
 intro s H l i c hi hh
 refine VCalls.mono (h1 s H l i c hi hh) ?_
 rintro v s' ⟨x1,t,i',h',e1,e2⟩
 exact ⟨x1,t,i',h',(by show (x1.length:Int)=x;omega),e2⟩
abbrev Lg:List V:=[.str [],.str [83,69,76,69,67,84],.str [68,73,83,84,73,78,67,84],.str [70,82,79,77],.str [74,79,73,78],.str [79,78],.str [87,72,69,82,69],.str [79,82,68,69,82],.str [66,89],.str [65,83,67],.str [68,69,83,67],.str [76,73,77,73,84],.str [65,83],.str [65,78,68],.str [79,82],.str [78,79,84],.str [73,83],.str [73,78],.str [66,69,84,87,69,69,78],.str [69,88,73,83,84,83],.str [78,85,76,76],.str [84,82,85,69],.str [70,65,76,83,69],.str [73,78,83,69,82,84],.str [73,78,84,79],.str [86,65,76,85,69,83],.str [85,80,68,65,84,69],.str [83,69,84],.str [68,69,76,69,84,69]]
theorem Qj (s:S):VCalls Tryz.prog 77 [] s (fun v s'=>v = .sl 0 Lg∧s'=s):=by
 refine zi.pure Tryz.func77 rfl (by kernel_rfl) (by simp) ?_
 repeat' first|(refine zf ?_;first|(refine zq.nil ?_)|(refine zq.ev zx rfl ?_)|(refine kZ ?_;first|(refine zq.Kl zx rfl rfl rfl rfl rfl rfl rfl rfl rfl rfl rfl ?_)))|(refine zH ?_;first|(refine WL.seq ?_)|(refine WL.region (by kernel_rfl) ?_)|(refine WL.ret ?_))|(refine zw ?_)|(refine zh.r1 (r := .tmp 0) (.inl rfl) (zn.tmp rfl) ?_)|(refine zX.mk ?_)
 rfl
theorem bB {b:V} (hb:Bytes b):bN Tryz.prog 44 b [] V.str (fun x=>x.length≤21):=by
 intro s H l i h hi hh
 refine zi.jX Tryz.func44 rfl (by kernel_rfl) ?_
 repeat' first|(refine kZ ?_;refine' zq.XK zx rfl rfl rfl rfl rfl rfl rfl rfl hh ?_ ?_ ?_;rotate_left 2 ;(focus ((repeat' first|(exact xE.sK rfl rfl));done)) ;(focus ((repeat' first|(exact jM.of rfl));done)) ;intro s n hh)|(refine zy 38 ?_;first|(refine zq.qc 0 rfl rfl vE hh rfl rfl ?_ (zP hb (by omega)) ?_;(focus (first | assumption | omega)) ;intro s x i h hq hi hh ;try dsimp only))|(refine zy 76 ?_;first|(refine zq.qc 1 rfl rfl VZ hh rfl rfl ?_ (vC hb rfl (by simp)) ?_;(focus (first | assumption | omega)) ;intro s x i h hq hi hh ;try dsimp only))|(refine zy 79 ?_;first|(refine zq.qc 0 rfl rfl Er hh rfl rfl ?_ (eZ hb) ?_;(focus (first | assumption | omega)) ;intro s x i h hq hi hh ;try dsimp only))|(refine zf ?_;first|(refine zq.nil ?_)|(refine zq.ev zx rfl ?_)|(refine xw ?_;first|(refine zq.ans (zk.UZ zx rfl rfl rfl rfl rfl ?_ (iC (vs:=Lg) rfl ?_ ?_) rfl rfl) ?_;(focus (omega));(focus (omega));(focus (have e:((Lg.length:Nat):Int)=29:=rfl ;omega))))|(refine zy 77 ?_;first|(refine zq.ans (zk.ze rfl rfl rfl (Ob) (Qj _)) ?_)))|(refine zH ?_;first|(refine WL.seq ?_)|(refine WL.region (by kernel_rfl) ?_)|(refine WL.block ?_)|(refine WL.skip ?_)|(refine WL.ret ?_)|(refine zu ?_;first|(refine WL.cond rfl (fun h=>?_) (fun h=>?_))))|(refine zw ?_)|(refine zZ ?_)|(refine zQ ?_)|(refine zB ?_)|(refine zh.r1 (r := .tmp 2) (.inl rfl) (zn.tmp rfl) ?_)
 · skip
   all_goals
     apply bN.fin (hh:=hh)
     case hv=>first | exact Val.vg _ _ _ | rfl
     case hs=>(first|(refine zK.cons 0 rfl rfl ?_)|(refine zK.cons 1 rfl rfl ?_)|(refine zK.cons 2 rfl rfl ?_)|(refine zK.cons 3 rfl rfl ?_)|(refine zK.cons 4 rfl rfl ?_)|(refine zK.cons 5 rfl rfl ?_)|(refine zK.cons 6 rfl rfl ?_)|(refine zK.cons 7 rfl rfl ?_));(repeat' first|(exact zK.refl _)|(refine zK.drop ?_))
     case hi=>first | assumption | omega |(simp;omega)
     case hp=>exact Nat.le_trans (vF (n:=21) (by assumption) rfl) (by omega)
 · skip
   all_goals
     apply bN.fin (hh:=hh)
     case hv=>first | exact Val.vg _ _ _ | rfl
     case hs=>(first|(refine zK.cons 0 rfl rfl ?_)|(refine zK.cons 1 rfl rfl ?_)|(refine zK.cons 2 rfl rfl ?_)|(refine zK.cons 3 rfl rfl ?_)|(refine zK.cons 4 rfl rfl ?_)|(refine zK.cons 5 rfl rfl ?_)|(refine zK.cons 6 rfl rfl ?_)|(refine zK.cons 7 rfl rfl ?_));(repeat' first|(exact zK.refl _)|(refine zK.drop ?_))
     case hi=>first | assumption | omega |(simp;omega)
     case hp=>exact Nat.le_trans (vF (n:=8) (List.mem_of_getElem? (iC (vs:=Lg) rfl (by omega) (by have e:((Lg.length:Nat):Int)=29:=rfl;omega))) rfl) (by omega)
 · skip
   repeat' first|(refine zy 78 ?_;first|(refine zq.qc 0 rfl rfl Oc hh rfl rfl ?_ (Zn hb (by omega)) ?_;(focus (first | assumption | omega)) ;intro s x i h hq hi hh ;try dsimp only))|(refine zq.ans (zk.toStr zx rfl rfl rfl rfl rfl rfl rfl rfl (nN _)) ?_)|(refine zf ?_;first|(refine zq.nil ?_)|(refine zq.ev zx rfl ?_))|(refine zH ?_;first|(refine WL.ret ?_))|(refine zw ?_)|(refine zZ ?_)|(refine zB ?_)|(refine zh.r1 (r := .tmp 2) (.inl rfl) (zn.tmp rfl) ?_)
   all_goals
     apply bN.fin (hh:=hh)
     case hv=>first | exact Val.vg _ _ _ | rfl
     case hs=>(first|(refine zK.cons 0 rfl rfl ?_)|(refine zK.cons 1 rfl rfl ?_)|(refine zK.cons 2 rfl rfl ?_)|(refine zK.cons 3 rfl rfl ?_)|(refine zK.cons 4 rfl rfl ?_)|(refine zK.cons 5 rfl rfl ?_)|(refine zK.cons 6 rfl rfl ?_)|(refine zK.cons 7 rfl rfl ?_));(repeat' first|(exact zK.refl _)|(refine zK.drop ?_))
     case hi=>first | assumption | omega |(simp;omega)
     case hp=>omega
 · skip
   all_goals
     apply bN.fin (hh:=hh)
     case hv=>first | exact Val.vg _ _ _ | rfl
     case hs=>(first|(refine zK.cons 0 rfl rfl ?_)|(refine zK.cons 1 rfl rfl ?_)|(refine zK.cons 2 rfl rfl ?_)|(refine zK.cons 3 rfl rfl ?_)|(refine zK.cons 4 rfl rfl ?_)|(refine zK.cons 5 rfl rfl ?_)|(refine zK.cons 6 rfl rfl ?_)|(refine zK.cons 7 rfl rfl ?_));(repeat' first|(exact zK.refl _)|(refine zK.drop ?_))
     case hi=>first | assumption | omega |(simp;omega)
     case hp=>omega
def Lh (P:Program) (g:FuncId) (args:List V) {β : Type} (F : β → V) (B : β → List BE) (p : β → Prop):Prop :=
 ∀ (s:S) (H:List BE),Hold s s.next H→VCalls P g args (s.ext []) (fun v t=>∃ (y : β) (s':S),p y∧v=F y∧t=s'.ext []∧Hold s' s'.next (B y++H))
theorem zq.OU {P:Program} {N:Nat} {ops:Array Oper} {l:List Oper} {K:Kn→S→Prop} {L:Kn} {s:S} {d:Nat} {ty:TypeId} {p:String} {a:Array Edge} {H:List BE} {f:Operand} {g:FuncId} {args:Array Operand} {A:Array TypeId} {vs:List V} {β : Type} {F : β → V} {B : β → List BE} {q : β → Prop} (hf:jf L f=some (.fn g [])) (ha:uE L args.toList=some vs) (hok:zW P g)
   (hh:Hold s s.next H) (hc:Lh P g vs F B q) (hk:∀ (s':S) (y : β),q y→Hold s' s'.next (B y++H)→zq P N ops l K ((d,F y)::L) (s'.ext [])) :
   zq P N ops (⟨some d,.call ⟨.value f,args,A⟩,ty,p,a,none⟩::l) K L (s.ext []):=by
 refine .call hf ha (uJ _) hok (hc s H hh) fun v s' hv=>?_
 obtain ⟨y,t,h1,rfl,rfl,h2⟩:=hv
 exact hk t y h1 h2
theorem WE {n:Nat} (h:n≤maxLen):IntKind.i64.wrap (2+IntKind.i64.wrap ((n:Int).tdiv 20))=2+n / 20:=by
 rw [Int.tdiv_eq_ediv_of_nonneg (by omega)]
 unfold maxLen at h
 simp only [IntKind.wrap,IntKind.bits,IntKind.signed]
 simp
 omega
theorem nS {b:V} (hb:Bytes b):∃ n:Int,2≤n∧n≤4∧∀ s,VCalls Tryz.prog 39 [b,.int .i64 4] s (fun v s'=>v = .int .i64 n∧s'=s):=by
 rcases hb with rfl | ⟨bs,rfl,hlen⟩
 · refine ⟨2, by omega, by omega, fun s => ?_⟩
   refine zi.pure Tryz.func39 rfl (by kernel_rfl) (by simp) ?_
   repeat' first|(refine zf ?_;first|(refine zq.nil ?_)|(refine zq.ev zx rfl ?_)|(refine xk ?_;first|(refine zq.ans (zk.arith rfl rfl rfl) ?_)))|(refine zH ?_;first|(refine WL.seq ?_)|(refine WL.region (by kernel_rfl) ?_)|(refine WL.skip ?_)|(refine WL.ret ?_)|(refine zu ?_;first|(refine WL.qQ rfl ?_)))|(refine zw ?_)|(refine zh.r1 (r := .tmp 4) (.inl rfl) (zn.tmp rfl) ?_)|(refine zX.mk ?_)
   rfl
 · refine ⟨if 2 + bs.length / 20 > 4 then 4 else 2 + bs.length / 20, by split <;> omega, by split <;> omega, fun s => ?_⟩
   refine zi.pure Tryz.func39 rfl (by kernel_rfl) (by simp) ?_
   repeat' first|(refine zf ?_;first|(refine zq.nil ?_)|(refine zq.ev zx rfl ?_)|(refine qx ?_;first|(refine zq.ans (zk.z8 zx rfl rfl rfl) ?_))|(refine xk ?_;first|(refine zq.ans (zk.arith rfl rfl rfl) ?_)))|(refine zH ?_;first|(refine WL.seq ?_)|(refine WL.region (by kernel_rfl) ?_)|(refine WL.skip ?_)|(refine WL.ret ?_)|(refine zu ?_;first|(refine WL.cond rfl (fun h=>?_) (fun h=>?_))))|(refine zw ?_)|(refine zZ ?_)|(refine zh.r1 (r := .tmp 4) (.inl rfl) (zn.tmp rfl) ?_)|(refine zX.mk ?_)
   · rw [WE hlen] at h
     simp only [decide_eq_true_eq] at h
     rw [if_pos (by omega)]
     rfl
   · rw [WE hlen] at h ⊢
     simp only [decide_eq_false_iff_not] at h
     rw [if_neg (by omega)]
     rfl
end Go.Proofs.YtolhegocbkckdaaGreat
