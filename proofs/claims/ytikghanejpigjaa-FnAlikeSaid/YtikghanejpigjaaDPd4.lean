/-
 Strings drawn; trees and plans drawn from a string of bytes. Own work; no condition.
-/
import Derived.Test.YtikghanejpigjaaMg25
namespace Go.Proofs.Ytikghanejpigjaa
open Go
set_option linter.unusedSimpArgs false
set_option linter.unusedVariables false
theorem byteV_conv (x:Int):∃ y:UInt8,V.int .u8 (IntKind.u8.wrap x)=byteV y:=by
 refine ⟨UInt8.ofNat (IntKind.u8.wrap x).toNat,?_⟩
 have h:0≤IntKind.u8.wrap x∧IntKind.u8.wrap x<256:=by constructor <;> simp [IntKind.wrap,IntKind.bits,IntKind.signed] <;> omega
 simp only [byteV,UInt8.toNat_ofNat']
 congr 1
 omega
theorem vbytes_byteV:∀ L:List UInt8,vbytes (L.map byteV)=some L
 | []=>rfl
 | c::L=>by
   have e:vbytes ((c::L).map byteV)=(vbytes (L.map byteV)).map (UInt8.ofNat ((c.toNat:Int)).toNat :: ·):=rfl
   rw [e,vbytes_byteV L]
   simp
theorem specl1Bytes_d {b:V} (hb:Bytes b) {n:Nat} (hn:n≤1000000):Drw Try.prog 91 b [.int .i64 (n:Int)] (fun bs:List UInt8 => .sl 0 (bs.map byteV)) (fun bs=>bs.length=n):=by
 intro s H l i h hi hh
 refine VCalls.forgetR ?_
 refine LCalls.body0 Try.func91 rfl (by kernel_rfl) ?_
 repeat' first |(refine kBsl ?_ ;refine LOps.bsl0 tT_ok rfl rfl rfl rfl rfl ?_) |(refine kOps ?_;first |(refine LOps.nil ?_) |(refine LOps.ev tT_ok rfl ?_)) |(refine kWL ?_;first |(refine WL.seq ?_) |(refine WL.region (by kernel_rfl) ?_) |(refine WL.block ?_)) |(refine lthen_n ?_)
 refine WL.zfamH (t:=5) 1 rfl rfl hh (fun s id hh=>?_)
 replace hh:=hh.toFac (i:=0) rfl rfl
 refine WL.loopH (fun x:List UInt8 × Int × Int=>n - x.1.length) (fun x=>[(0,.ptr l 0),(1,.int .i64 (n:Int)),(5,.sl id (x.1.map byteV)),(6,.int .i64 (x.1.length:Int))]) (fun x => .fac id 1 (x.1.map byteV) :: .cell l (curC b x.2.1 x.2.2)::H)
   (fun x=>x.1.length≤n∧0≤x.2.1) ([],i,h) ⟨Nat.zero_le _,hi⟩ ⟨rfl,rfl,rfl,rfl,trivial⟩ hh (Sel.refl _) (fun x s hI hh=>?_)
 obtain ⟨bs,i,h⟩:=x
 obtain ⟨hI,hi⟩:=hI
 dsimp only at hI hi hh ⊢
 by_cases hlt:(bs.length:Int)<n
 · skip
   repeat' first |(refine kBsl ?_ ;refine' LOps.bslH tT_ok rfl rfl rfl rfl rfl rfl rfl rfl hh ?_ ?_ ?_ ;rotate_left 2 ;(focus ((repeat' first |(exact ConsL.pls rfl rfl));done)) ;(focus ((repeat' first |(exact ElsH.of rfl));done)) ;intro s n hh) |(refine kApp ?_ ;first |(refine' LOps.appF tT_ok 2 rfl rfl rfl rfl rfl rfl rfl rfl rfl rfl rfl hh ?_ (AppB.of ?_ rfl) ?_ ;(focus ((repeat' first |(exact Elems.of rfl));done)) ;(focus (first | omega |(simp ;omega))) ;intro s hh)) |(refine kCallN 49 ?_ ;first |(refine LOps.drawH 1 rfl rfl ok49 hh rfl rfl ?_ (specl1Byte_d hb) ?_ ;(focus (first | assumption | omega)) ;intro s x i h hq hi hh ;try dsimp only)) |(refine kOps ?_;first |(refine LOps.nil ?_) |(refine LOps.ev tT_ok rfl ?_) |(refine kBin ?_;first |(refine LOps.ans (AnsL.add rfl rfl ?_) ?_;(focus (constructor <;> omega))))) |(refine kWL ?_;first |(refine WL.seq ?_) |(refine WL.region (by kernel_rfl) ?_) |(refine WL.block ?_) |(refine WL.skip ?_) |(refine kCond ?_;first |(refine WL.condT' rfl ?_ ?_;(focus (first |(exact decide_eq_true (by assumption))))))) |(refine lthen_n ?_) |(refine lblock_n ?_)
   obtain ⟨y,hy⟩:=byteV_conv x
   rw [hy] at hh ⊢
   refine lbackH.of (bs++[y],i,h) ?_ hh ?_ ⟨by simp;omega,hi⟩ (by simp;omega)
   · dsimp only
     rw [List.map_append]
     repeat' first | exact SubL.nil |(refine SubL.mk rfl ?_ ?_) | rfl |(simp <;> fail) |(simp;omega)
   · dsimp only
     rw [List.map_append]
     (repeat' first |(exact Sel.refl _) |(refine Sel.cons 0 rfl rfl ?_) |(refine Sel.cons 1 rfl rfl ?_) |(refine Sel.cons 2 rfl rfl ?_) |(refine Sel.cons 3 rfl rfl ?_) |(refine Sel.drop ?_))
 · skip
   repeat' first |(refine kOps ?_;first |(refine LOps.nil ?_) |(refine LOps.ev tT_ok rfl ?_)) |(refine kWL ?_;first |(refine WL.seq ?_) |(refine WL.region (by kernel_rfl) ?_) |(refine WL.exit ?_) |(refine WL.ret ?_) |(refine kCond ?_;first |(refine WL.condF' rfl ?_ ?_;(focus (first |(exact decide_eq_false (by assumption))))))) |(refine lthen_n ?_) |(refine lthen_e ?_) |(refine lblock_e ?_) |(refine lbackH_e ?_) |(refine LPost.r1 (r := .tmp 4) (.inl rfl) (Res1.tmp rfl) ?_)
   apply Drw.fin (x:=bs) (hh:=hh)
   case hv=>simp [V.forget,V.forgetL_eq,byteV]
   case hp=>omega
   case hi=>exact hi
   case hs=>exact Sel.drop (Sel.refl _)
theorem specl1Bytes_di {b:V} (hb:Bytes b) {x:Int} (h:0≤x∧x≤1000000):Drw Try.prog 91 b [.int .i64 x] (fun bs:List UInt8 => .sl 0 (bs.map byteV)) (fun bs=>(bs.length:Int)=x):=by
 have h1:=specl1Bytes_d hb (n:=x.toNat) (by omega)
 rw [Int.toNat_of_nonneg h.1] at h1
 intro s H l i c hi hh
 refine VCalls.mono (h1 s H l i c hi hh) ?_
 rintro v s' ⟨x1,t,i',h',e1,e2⟩
 exact ⟨x1,t,i',h',(by show (x1.length:Int)=x;omega),e2⟩
abbrev l2W:List V:=[.str [],.str [83,69,76,69,67,84],.str [68,73,83,84,73,78,67,84],.str [70,82,79,77],.str [74,79,73,78],.str [79,78],.str [87,72,69,82,69],.str [79,82,68,69,82],.str [66,89],.str [65,83,67],.str [68,69,83,67],.str [76,73,77,73,84],.str [65,83],.str [65,78,68],.str [79,82],.str [78,79,84],.str [73,83],.str [73,78],.str [66,69,84,87,69,69,78],.str [69,88,73,83,84,83],.str [78,85,76,76],.str [84,82,85,69],.str [70,65,76,83,69],.str [73,78,83,69,82,84],.str [73,78,84,79],.str [86,65,76,85,69,83],.str [85,80,68,65,84,69],.str [83,69,84],.str [68,69,76,69,84,69]]
theorem specl2Words_v (s:S):VCalls Try.prog 90 [] s (fun v s'=>v = .sl 0 l2W∧s'=s):=by
 refine LCalls.pure Try.func90 rfl (by kernel_rfl) (by simp) ?_
 repeat' first |(refine kOps ?_;first |(refine LOps.nil ?_) |(refine LOps.ev tT_ok rfl ?_) |(refine kBsl ?_;first |(refine LOps.bsl tT_ok rfl rfl rfl rfl rfl rfl rfl rfl rfl rfl rfl ?_))) |(refine kWL ?_;first |(refine WL.seq ?_) |(refine WL.region (by kernel_rfl) ?_) |(refine WL.ret ?_)) |(refine lthen_n ?_) |(refine LPost.r1 (r := .tmp 0) (.inl rfl) (Res1.tmp rfl) ?_) |(refine PureR.mk ?_)
 rfl
theorem specl2Any_d {b:V} (hb:Bytes b):Drw Try.prog 54 b [] V.str (fun x=>x.length≤21):=by
 intro s H l i h hi hh
 refine LCalls.body0 Try.func54 rfl (by kernel_rfl) ?_
 repeat' first |(refine kBsl ?_ ;refine' LOps.bslH tT_ok rfl rfl rfl rfl rfl rfl rfl rfl hh ?_ ?_ ?_ ;rotate_left 2 ;(focus ((repeat' first |(exact ConsL.pls rfl rfl));done)) ;(focus ((repeat' first |(exact ElsH.of rfl));done)) ;intro s n hh) |(refine kCallN 26 ?_ ;first |(refine LOps.drawH 0 rfl rfl ok26 hh rfl rfl ?_ (specl1Below_d hb (by omega)) ?_ ;(focus (first | assumption | omega)) ;intro s x i h hq hi hh ;try dsimp only)) |(refine kCallN 86 ?_ ;first |(refine LOps.drawH 1 rfl rfl ok86 hh rfl rfl ?_ (specl1Pick_d hb rfl (by simp)) ?_ ;(focus (first | assumption | omega)) ;intro s x i h hq hi hh ;try dsimp only)) |(refine kCallN 87 ?_ ;first |(refine LOps.drawH 0 rfl rfl ok87 hh rfl rfl ?_ (specl2Name_d hb) ?_ ;(focus (first | assumption | omega)) ;intro s x i h hq hi hh ;try dsimp only)) |(refine kOps ?_;first |(refine LOps.nil ?_) |(refine LOps.ev tT_ok rfl ?_) |(refine kIdx ?_;first |(refine LOps.ans (AnsL.idxZ tT_ok rfl rfl rfl rfl rfl ?_ (getS_eq (vs:=l2W) rfl ?_ ?_) rfl rfl) ?_;(focus (omega));(focus (omega));(focus (have e:((l2W.length:Nat):Int)=29:=rfl ;omega)))) |(refine kCallN 90 ?_;first |(refine LOps.ans (AnsL.callP rfl rfl rfl (ok90) (specl2Words_v _)) ?_))) |(refine kWL ?_;first |(refine WL.seq ?_) |(refine WL.region (by kernel_rfl) ?_) |(refine WL.block ?_) |(refine WL.skip ?_) |(refine WL.ret ?_) |(refine kCond ?_;first |(refine WL.cond rfl (fun h=>?_) (fun h=>?_)))) |(refine lthen_n ?_) |(refine lthen_r ?_) |(refine lblock_n ?_) |(refine lblock_r ?_) |(refine LPost.r1 (r := .tmp 2) (.inl rfl) (Res1.tmp rfl) ?_)
 · skip
   all_goals
     apply Drw.fin (hh:=hh)
     case hv=>first | exact Val.agg_eq _ _ _ | rfl
     case hs=>(first |(refine Sel.cons 0 rfl rfl ?_) |(refine Sel.cons 1 rfl rfl ?_) |(refine Sel.cons 2 rfl rfl ?_) |(refine Sel.cons 3 rfl rfl ?_) |(refine Sel.cons 4 rfl rfl ?_) |(refine Sel.cons 5 rfl rfl ?_) |(refine Sel.cons 6 rfl rfl ?_) |(refine Sel.cons 7 rfl rfl ?_));(repeat' first |(exact Sel.refl _) |(refine Sel.drop ?_))
     case hi=>first | assumption | omega |(simp;omega)
     case hp=>exact Nat.le_trans (pick_len (n:=21) (by assumption) rfl) (by omega)
 · skip
   all_goals
     apply Drw.fin (hh:=hh)
     case hv=>first | exact Val.agg_eq _ _ _ | rfl
     case hs=>(first |(refine Sel.cons 0 rfl rfl ?_) |(refine Sel.cons 1 rfl rfl ?_) |(refine Sel.cons 2 rfl rfl ?_) |(refine Sel.cons 3 rfl rfl ?_) |(refine Sel.cons 4 rfl rfl ?_) |(refine Sel.cons 5 rfl rfl ?_) |(refine Sel.cons 6 rfl rfl ?_) |(refine Sel.cons 7 rfl rfl ?_));(repeat' first |(exact Sel.refl _) |(refine Sel.drop ?_))
     case hi=>first | assumption | omega |(simp;omega)
     case hp=>exact Nat.le_trans (pick_len (n:=8) (List.mem_of_getElem? (getS_eq (vs:=l2W) rfl (by omega) (by have e:((l2W.length:Nat):Int)=29:=rfl;omega))) rfl) (by omega)
 · skip
   repeat' first |(refine kCallN 91 ?_ ;first |(refine LOps.drawH 0 rfl rfl ok91 hh rfl rfl ?_ (specl1Bytes_di hb (by omega)) ?_ ;(focus (first | assumption | omega)) ;intro s x i h hq hi hh ;try dsimp only)) |(refine LOps.ans (AnsL.toStr tT_ok rfl rfl rfl rfl rfl rfl rfl rfl (vbytes_byteV _)) ?_) |(refine kOps ?_;first |(refine LOps.nil ?_) |(refine LOps.ev tT_ok rfl ?_)) |(refine kWL ?_;first |(refine WL.ret ?_)) |(refine lthen_n ?_) |(refine lthen_r ?_) |(refine lblock_r ?_) |(refine LPost.r1 (r := .tmp 2) (.inl rfl) (Res1.tmp rfl) ?_)
   all_goals
     apply Drw.fin (hh:=hh)
     case hv=>first | exact Val.agg_eq _ _ _ | rfl
     case hs=>(first |(refine Sel.cons 0 rfl rfl ?_) |(refine Sel.cons 1 rfl rfl ?_) |(refine Sel.cons 2 rfl rfl ?_) |(refine Sel.cons 3 rfl rfl ?_) |(refine Sel.cons 4 rfl rfl ?_) |(refine Sel.cons 5 rfl rfl ?_) |(refine Sel.cons 6 rfl rfl ?_) |(refine Sel.cons 7 rfl rfl ?_));(repeat' first |(exact Sel.refl _) |(refine Sel.drop ?_))
     case hi=>first | assumption | omega |(simp;omega)
     case hp=>omega
 · skip
   all_goals
     apply Drw.fin (hh:=hh)
     case hv=>first | exact Val.agg_eq _ _ _ | rfl
     case hs=>(first |(refine Sel.cons 0 rfl rfl ?_) |(refine Sel.cons 1 rfl rfl ?_) |(refine Sel.cons 2 rfl rfl ?_) |(refine Sel.cons 3 rfl rfl ?_) |(refine Sel.cons 4 rfl rfl ?_) |(refine Sel.cons 5 rfl rfl ?_) |(refine Sel.cons 6 rfl rfl ?_) |(refine Sel.cons 7 rfl rfl ?_));(repeat' first |(exact Sel.refl _) |(refine Sel.drop ?_))
     case hi=>first | assumption | omega |(simp;omega)
     case hp=>omega
def OutB (P:Program) (g:FuncId) (args:List V) {β : Type} (F : β → V) (B : β → List BE) (p : β → Prop):Prop :=
 ∀ (s:S) (H:List BE),Hold s s.next H→VCalls P g args (s.ext []) (fun v t=>∃ (y : β) (s':S),p y∧v=F y∧t=s'.ext []∧Hold s' s'.next (B y++H))
theorem OutB.fin {s:S} {β : Type} {F : β → V} {B : β → List BE} {p : β → Prop} {v:V} {H H':List BE} (y : β) (hp:p y) (hv:v=F y) (hh:Hold s s.next H') (hs:Sel H' (B y++H)) :
   ∃ (y : β) (s':S),p y∧v=F y∧s.ext []=s'.ext []∧Hold s' s'.next (B y++H):=⟨y,s,hp,hv,rfl,hh.sel hs⟩
theorem LOps.outB {P:Program} {N:Nat} {ops:Array Oper} {l:List Oper} {K:Kn→S→Prop} {L:Kn} {s:S} {d:Nat} {ty:TypeId} {p:String} {a:Array Edge} {H:List BE} {f:Operand} {g:FuncId} {args:Array Operand} {A:Array TypeId} {vs:List V} {β : Type} {F : β → V} {B : β → List BE} {q : β → Prop} (hf:opd L f=some (.fn g [])) (ha:opdL L args.toList=some vs) (hok:CallOk P g)
   (hh:Hold s s.next H) (hc:OutB P g vs F B q) (hk:∀ (s':S) (y : β),q y→Hold s' s'.next (B y++H)→LOps P N ops l K ((d,F y)::L) (s'.ext [])) :
   LOps P N ops (⟨some d,.call ⟨.value f,args,A⟩,ty,p,a,none⟩::l) K L (s.ext []):=by
 refine .call hf ha (appO_nil _) hok (hc s H hh) fun v s' hv=>?_
 obtain ⟨y,t,h1,rfl,rfl,h2⟩:=hv
 exact hk t y h1 h2
end Go.Proofs.Ytikghanejpigjaa
