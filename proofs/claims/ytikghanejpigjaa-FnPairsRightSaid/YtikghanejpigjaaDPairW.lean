/-
 Pairs of parentheses: the program's PairsOf, walked. Own work; no condition.
-/
import Derived.Test.YtikghanejpigjaaDPairI
namespace Go.Proofs.Ytikghanejpigjaa
open Go
set_option linter.unusedSimpArgs false
set_option linter.unusedVariables false
def ips (st:List Nat):List V:=st.map fun p:Nat=>V.int .i64 (p:Int)
def stV (st:List Nat):Option (Nat × Nat × List V)→V
 | none => .slm (.is 0) 0 0 0
 | some (c,l,_) => .slm (.is c) l 0 st.length
def stH (st:List Nat):Option (Nat × Nat × List V)→List BE
 | none=>[]
 | some (_,l,rest)=>[.cell l (ips st++rest)]
def stOk (st:List Nat):Option (Nat × Nat × List V)→Prop
 | none=>st=[]
 | some (c,_,rest)=>rest.length=c - st.length∧st.length≤c
theorem ips_len (st:List Nat):(ips st).length=st.length:=by simp [ips]
theorem flat_ips (st:List Nat):V.flat (ips st)=ips st:=by
 induction st with
 | nil=>rfl
 | cons a st ih=>show V.flat (_::ips st)=_;rw [flat_cons,ih];rfl
theorem ips_app (a b:List Nat):ips (a++b)=ips a++ips b:=by simp [ips]
structure PSt where
 i:Nat
 st:List Nat
 ov:Option (Nat × Nat × List V)
 outs:List (Int × Int)
 oc:Nat
 ol:Nat
set_option maxHeartbeats 4000000 in
theorem implPairsOf_o (l:List Token) (hl:l.length≤1048576) (s:S):VCalls Try.prog 7 [.sl 0 (l.map Token.toV)] s (fun v t=>Own2 (.sl 0 ((pairs l).map pairV)) v t):=by
 refine VCalls.trimP ?_
 have hh:Hold s s.next [] := .start _ _
 refine LCalls.body Try.func7 rfl (by kernel_rfl) ?_
 repeat' first |(refine kBsl ?_ ;first |(refine LOps.ans (AnsL.bslN tT_ok rfl rfl rfl rfl rfl) ?_)) |(refine kOps ?_;first |(refine LOps.nil ?_) |(refine LOps.ev tT_ok rfl ?_) |(refine kLen ?_;first |(refine LOps.ans (AnsL.lenM tT_ok rfl rfl rfl) ?_))) |(refine kWL ?_;first |(refine WL.seq ?_) |(refine WL.region (by kernel_rfl) ?_) |(refine WL.block ?_)) |(refine lthen_n ?_)
 replace hh:=hh.nil0
 refine WL.loopH (fun x:PSt=>l.length - x.i) (fun x=>[(0,.sl 0 (l.map Token.toV)),(3,.slm (.is x.oc) x.ol 0 x.outs.length),(4,stV x.st x.ov),(10,.sl 0 (l.map Token.toV)),(11,.int .i64 (l.length:Int)),(12,.int .i64 (x.i:Int))])
   (fun x => .own (.slm (.is x.oc) x.ol 0 x.outs.length) (.sl 0 (x.outs.map pairV))::stH x.st x.ov)
   (fun x=>x.i≤l.length∧InvP l x.i x.st x.outs∧stOk x.st x.ov∧x.st.length≤x.i∧x.outs.length≤x.i) ⟨0,[],none,[],0,0⟩ ⟨Nat.zero_le _,InvP.start l,rfl,Nat.le_refl _,Nat.le_refl _⟩ ⟨rfl,rfl,rfl,rfl,rfl,rfl,trivial⟩ hh (Sel.refl _) (fun x s hI hh=>?_)
 obtain ⟨i,st,ov,outs,oc,ol⟩:=x
 obtain ⟨hi,hinv,hok,hsl,hol⟩:=hI
 dsimp only at hi hinv hok hsl hol hh ⊢
 rcases Nat.lt_or_ge i l.length with hlt | hge
 · have hg : (l.map Token.toV)[i]? = some l[i].toV := by simp [hlt]
   have hpush:=hinv.push hlt
   have hskip:=hinv.skip hlt
   have hpop0:=fun (e:st=[])=>InvP.pop0 (e ▸ hinv) hlt
   have hpop:=fun (st':List Nat) (a:Nat) (e:st=st'++[a])=>InvP.pop (st:=st') (a:=a) (e ▸ hinv) hlt
   have hop:=fun (st':List Nat) (a:Nat) (e:st=st'++[a])=>(hinv.op a (by rw [e];simp)).2
   clear hinv
   unfold isSign at hpush hskip hpop0 hpop
   generalize l[i]=t at hg hpush hskip hpop0 hpop
   by_cases hk:t.kind=5
   · by_cases h40 : t.text = [40]
     · have hinv' := hpush (by simp [hk, h40])
       clear hpush hskip hpop0 hpop hop
       cases ov with
       | none =>
         have hok':st=[]:=hok
         subst hok'
         repeat' first |(refine kAlloc ?_ ;refine LOps.allocH tT_ok hh rfl rfl ?_ ;intro s n hh) |(refine kStore ?_ ;first |(refine LOps.storeH tT_ok 0 hh rfl rfl rfl rfl rfl rfl rfl rfl rfl ?_ ;intro s hh)) |(refine kBsl ?_ ;first |(refine LOps.ans (AnsL.bslE tT_ok rfl rfl rfl rfl rfl rfl rfl rfl ?_) ?_ ;(focus ((repeat' first |(exact ElsH.of rfl));done)))) |(refine kApp ?_ ;first |(refine' LOps.appS tT_ok rfl rfl rfl rfl rfl rfl rfl rfl hh ?_ ?_ (AppB.of ?_ rfl) ?_ ;rotate_left 2 ;(focus ((repeat' first |(exact ConsOL.nil) |(exact ConsO.scal rfl) |(refine' ConsOL.cons ?_ ?_));done)) ;(focus ((repeat' first |(exact Elems.of rfl));done)) ;(focus (first | omega |(simp <;> fail))) ;intro s c n hh)) |(refine kOps ?_;first |(refine LOps.nil ?_) |(refine LOps.ev tT_ok rfl ?_) |(refine kLoad ?_;first |(refine LOps.ans (AnsL.loadH tT_ok 0 hh rfl rfl rfl rfl) ?_)) |(refine kBin ?_;first |(refine LOps.ans (AnsL.add rfl rfl ?_) ?_;(focus (constructor <;> omega)))) |(refine kIdx ?_;first |(refine LOps.ans (AnsL.idx tT_ok rfl rfl rfl rfl rfl hg rfl rfl) ?_))) |(refine kWL ?_;first |(refine WL.seq ?_) |(refine WL.region (by kernel_rfl) ?_) |(refine WL.block ?_) |(refine WL.skip ?_) |(refine kCond ?_;first |(refine WL.condT' rfl ?_ ?_;(focus (first |(exact decide_eq_true (by assumption)) |(simp <;> omega)))) |(refine WL.condF' rfl ?_ ?_;(focus (first |(simp <;> omega)))))) |(refine lthen_n ?_) |(refine lblock_n ?_)
         obtain ⟨rest,r1,r2,r3,hh⟩:=hh.uncell rfl (by simp)
         exact lbackH.of ⟨i+1,[i],some (c,n,rest),outs,oc,ol⟩ ⟨rfl,rfl,rfl,rfl,rfl,rfl,trivial⟩ hh (.cons 2 rfl rfl (.cons 0 rfl rfl (.drop (.nil)))) ⟨hlt,hinv',⟨r1,r2⟩,by dsimp only [List.length_singleton];omega,by dsimp only;omega⟩ (by dsimp only;omega)
       | some o =>
         obtain ⟨c,lv,rest⟩:=o
         obtain ⟨ho1,ho2⟩:=hok
         have hce:ips st++rest=V.flat (ips st)++rest:=by rw [flat_ips]
         have hbb:st.length+1≤1099511627776:=by omega
         have hus:∀ u∈ips st,u.cells.length=1:=fun u hu=>by obtain ⟨p,_,rfl⟩:=List.mem_map.1 hu;rfl
         dsimp only [stH] at hh
         repeat' first |(refine kAlloc ?_ ;refine LOps.allocH tT_ok hh rfl rfl ?_ ;intro s n hh) |(refine kStore ?_ ;first |(refine LOps.storeH tT_ok 0 hh rfl rfl rfl rfl rfl rfl rfl rfl rfl ?_ ;intro s hh)) |(refine kBsl ?_ ;first |(refine LOps.ans (AnsL.bslE tT_ok rfl rfl rfl rfl rfl rfl rfl rfl ?_) ?_ ;(focus ((repeat' first |(exact ElsH.of rfl));done)))) |(refine kApp ?_ ;refine LOps.appE (us:=ips st) tT_ok 2 rfl ?_ rfl rfl rfl rfl rfl rfl rfl rfl hh (ips_len st) hus (by rw [ho1] ;exact (Nat.mul_one _).symm) ho2 (Elems.of rfl) (AppB.of hbb rfl) ?_ ;(focus (exact congrArg (fun c=>some (BE.cell lv c)) hce)) ;intro s c2 l2 rest2 hc2 hr2 hh) |(refine kOps ?_;first |(refine LOps.nil ?_) |(refine LOps.ev tT_ok rfl ?_) |(refine kLoad ?_;first |(refine LOps.ans (AnsL.loadH tT_ok 0 hh rfl rfl rfl rfl) ?_)) |(refine kBin ?_;first |(refine LOps.ans (AnsL.add rfl rfl ?_) ?_;(focus (constructor <;> omega)))) |(refine kIdx ?_;first |(refine LOps.ans (AnsL.idx tT_ok rfl rfl rfl rfl rfl hg rfl rfl) ?_))) |(refine kWL ?_;first |(refine WL.seq ?_) |(refine WL.region (by kernel_rfl) ?_) |(refine WL.block ?_) |(refine WL.skip ?_) |(refine kCond ?_;first |(refine WL.condT' rfl ?_ ?_;(focus (first |(exact decide_eq_true (by assumption)) |(simp <;> omega)))) |(refine WL.condF' rfl ?_ ?_;(focus (first |(simp <;> omega)))))) |(refine lthen_n ?_) |(refine lblock_n ?_)
         have he2:V.flat (ips st++[V.int .i64 (i:Int)])++rest2=ips (st++[i])++rest2:=by rw [ips_app,flat_app,flat_ips];rfl
         rw [he2] at hh
         refine lbackH.of ⟨i+1,st++[i],some (c2,l2,rest2),outs,oc,ol⟩ ⟨rfl,rfl,?_,rfl,rfl,rfl,trivial⟩ hh (.cons 2 rfl rfl (.cons 0 rfl rfl (.drop (.nil)))) ⟨hlt,hinv',⟨?_,?_⟩,by dsimp only;rw [List.length_append,List.length_singleton];omega,by dsimp only;omega⟩ (by dsimp only;omega)
         · dsimp only [stV];rw [List.length_append];rfl
         · dsimp only;rw [List.length_append,hr2];exact Nat.mul_one _
         · dsimp only;rw [List.length_append];exact hc2
     · by_cases h41 : t.text = [41]
       · have hp41 : (decide (t.kind = 5) && decide (t.text = [41])) = true := by simp [hk, h41]
         rcases List.eq_nil_or_concat st with hst | ⟨st',a,hst⟩
         · subst hst
           have hinv':=hpop0 rfl hp41
           clear hpush hskip hpop0 hpop hop
           cases ov with
           | none =>
             repeat' first |(refine kAlloc ?_ ;refine LOps.allocH tT_ok hh rfl rfl ?_ ;intro s n hh) |(refine kStore ?_ ;first |(refine LOps.storeH tT_ok 0 hh rfl rfl rfl rfl rfl rfl rfl rfl rfl ?_ ;intro s hh)) |(refine kOps ?_;first |(refine LOps.nil ?_) |(refine LOps.ev tT_ok rfl ?_) |(refine kLoad ?_;first |(refine LOps.ans (AnsL.loadH tT_ok 0 hh rfl rfl rfl rfl) ?_)) |(refine kBin ?_;first |(refine LOps.ans (AnsL.add rfl rfl ?_) ?_;(focus (constructor <;> omega)))) |(refine kIdx ?_;first |(refine LOps.ans (AnsL.idx tT_ok rfl rfl rfl rfl rfl hg rfl rfl) ?_))) |(refine kWL ?_;first |(refine WL.seq ?_) |(refine WL.region (by kernel_rfl) ?_) |(refine WL.block ?_) |(refine WL.exit ?_) |(refine WL.skip ?_) |(refine kCond ?_;first |(refine WL.condT rfl ?_) |(refine WL.condT' rfl ?_ ?_;(focus (first |(exact decide_eq_true (by assumption)) |(simp <;> omega)))) |(refine WL.condF' rfl ?_ ?_;(focus (first |(exact decide_eq_false (by assumption)) |(simp <;> omega)))))) |(refine lthen_n ?_) |(refine lthen_e ?_) |(refine lblock_e ?_) |(refine lblock_o rfl ?_)
             exact lbackH.of ⟨i+1,[],none,outs,oc,ol⟩ ⟨rfl,rfl,rfl,rfl,rfl,rfl,trivial⟩ hh (Sel.drop (Sel.refl _)) ⟨hlt,hinv',hok,by dsimp only [List.length_nil];omega,by dsimp only;omega⟩ (by dsimp only;omega)
           | some o =>
             obtain ⟨c,lv,rest⟩:=o
             repeat' first |(refine kAlloc ?_ ;refine LOps.allocH tT_ok hh rfl rfl ?_ ;intro s n hh) |(refine kStore ?_ ;first |(refine LOps.storeH tT_ok 0 hh rfl rfl rfl rfl rfl rfl rfl rfl rfl ?_ ;intro s hh)) |(refine kOps ?_;first |(refine LOps.nil ?_) |(refine LOps.ev tT_ok rfl ?_) |(refine kLoad ?_;first |(refine LOps.ans (AnsL.loadH tT_ok 0 hh rfl rfl rfl rfl) ?_)) |(refine kBin ?_;first |(refine LOps.ans (AnsL.add rfl rfl ?_) ?_;(focus (constructor <;> omega)))) |(refine kIdx ?_;first |(refine LOps.ans (AnsL.idx tT_ok rfl rfl rfl rfl rfl hg rfl rfl) ?_))) |(refine kWL ?_;first |(refine WL.seq ?_) |(refine WL.region (by kernel_rfl) ?_) |(refine WL.block ?_) |(refine WL.exit ?_) |(refine WL.skip ?_) |(refine kCond ?_;first |(refine WL.condT rfl ?_) |(refine WL.condT' rfl ?_ ?_;(focus (first |(exact decide_eq_true (by assumption)) |(simp <;> omega)))) |(refine WL.condF' rfl ?_ ?_;(focus (first |(exact decide_eq_false (by assumption)) |(simp <;> omega)))))) |(refine lthen_n ?_) |(refine lthen_e ?_) |(refine lblock_e ?_) |(refine lblock_o rfl ?_)
             exact lbackH.of ⟨i+1,[],some (c,lv,rest),outs,oc,ol⟩ ⟨rfl,rfl,rfl,rfl,rfl,rfl,trivial⟩ hh (Sel.drop (Sel.refl _)) ⟨hlt,hinv',hok,by dsimp only [List.length_nil];omega,by dsimp only;omega⟩ (by dsimp only;omega)
         · rw [List.concat_eq_append] at hst
           have hinv':=hpop st' a hst hp41
           have hai:=hop st' a hst
           clear hpush hskip hpop0 hpop hop
           subst hst
           cases ov with
           | none=>exact absurd (show st'++[a]=[] from hok) (by simp)
           | some o =>
             obtain ⟨c0,lv,rest⟩:=o
             obtain ⟨ho1,ho2⟩:=hok
             have hsl1:(st'++[a]).length=st'.length+1:=by simp
             rw [hsl1] at ho1 ho2 hsl
             have hce:ips (st'++[a])++rest=ips st'++(V.int .i64 (a:Int)::rest):=by rw [ips_app];simp [ips]
             have hj1:(((st'++[a]).length:Nat):Int) - 1=(st'.length:Int):=by rw [hsl1];omega
             have hj2:st'.length<(st'++[a]).length:=by omega
             have hj3:st'.length≤(st'++[a]).length:=by omega
             have hj4:0<(st'++[a]).length:=by omega
             have hnz:¬ (((st'++[a]).length:Nat):Int)=0:=by omega
             have hq:(ips st').length=st'.length*1:=by rw [ips_len,Nat.mul_one]
             have hoo:c0 - st'.length=c0 - (st'.length+1)+1:=by omega
             dsimp only [stH,stV] at hh ⊢
             rw [hce] at hh
             cases a with
             | zero =>
               have hky:keyAt l 0=false:=rfl
               rw [hky] at hinv'
               simp only [Bool.false_eq_true,if_false] at hinv'
               repeat' first |(refine kAlloc ?_ ;refine LOps.allocH tT_ok hh rfl rfl ?_ ;intro s n hh) |(refine kStore ?_ ;first |(refine LOps.storeH tT_ok 0 hh rfl rfl rfl rfl rfl rfl rfl rfl rfl ?_ ;intro s hh)) |(refine kBsl ?_ ;first |(refine' LOps.bslO (d:=76) tT_ok rfl rfl rfl rfl rfl rfl rfl rfl hh ?_ ?_ ?_ ;rotate_left 2 ;(focus ((repeat' first |(exact ConsOL.nil) |(exact ConsO.scal rfl) |(refine' ConsOL.cons ?_ ?_));done)) ;(focus ((repeat' first |(exact ElsH.of rfl));done)) ;intro s n hh) |(refine LOps.ans (AnsL.bslE tT_ok rfl rfl rfl rfl rfl rfl rfl rfl ?_) ?_ ;(focus ((repeat' first |(exact ElsH.of rfl));done)))) |(refine kApp ?_ ;first |(refine' LOps.appW tT_ok 2 rfl rfl rfl rfl rfl rfl rfl rfl rfl rfl hh ?_ ?_ ?_ (AppB.of ?_ rfl) ?_ ;rotate_left 2 ;(focus (first |(intro x hx;obtain ⟨y,_,rfl⟩:=List.mem_map.1 hx;first | rfl | exact PE.cells_len _ | exact PE.planV_len _ | exact EE.cells_len _ | exact EE.queryV_len _))) ;(focus ((repeat' first |(exact ConsOL.nil) |(refine' ConsO.op ?_;((repeat' first |(exact Pick.here));done)) |(refine' ConsOL.cons ?_ ?_));done)) ;(focus ((repeat' first |(exact Elems.of rfl));done)) ;(focus (first | omega |(simp ;omega))) ;intro s c n hh)) |(refine kOps ?_;first |(refine LOps.nil ?_) |(refine kG ?_;first |(refine LOps.gF rfl rfl rfl ?_) |(refine LOps.gU rfl rfl ?_)) |(refine LOps.ev tT_ok rfl ?_) |(refine kLoad ?_;first |(refine LOps.ans (AnsL.loadH tT_ok 0 hh rfl rfl rfl rfl) ?_) |(refine LOps.ans (AnsL.loadHE (CA:=ips st') (ce:=[V.int .i64 ((0:Nat):Int)]) (CZ:=rest) (q:=st'.length*1) tT_ok 2 0 hh rfl rfl hq rfl rfl rfl rfl) ?_)) |(refine kBin ?_;first |(refine LOps.ans (AnsL.add rfl rfl ?_) ?_;(focus (constructor <;> omega))) |(refine LOps.ans (AnsL.sub rfl rfl ?_) ?_;(focus (constructor <;> omega)))) |(refine kIdx ?_;first |(refine LOps.ans (AnsL.idx tT_ok rfl rfl rfl rfl rfl hg rfl rfl) ?_) |(refine LOps.ans (AnsL.idxK (j:=st'.length) tT_ok rfl rfl hj1 rfl rfl rfl hj2) ?_)) |(refine kSlc ?_;first |(refine LOps.ans (AnsL.slcK (k:=st'.length) tT_ok rfl rfl rfl rfl rfl hj1 hj3 hj4) ?_))) |(refine kWL ?_;first |(refine WL.seq ?_) |(refine WL.region (by kernel_rfl) ?_) |(refine WL.block ?_) |(refine WL.skip ?_) |(refine kCond ?_;first |(refine WL.condT rfl ?_) |(refine WL.condT' rfl ?_ ?_;(focus (first |(exact decide_eq_true (by assumption)) |(simp <;> omega)))) |(refine WL.condF' rfl ?_ ?_;(focus (first |(exact decide_eq_false (by assumption)) |(simp <;> omega)))))) |(refine lthen_n ?_) |(refine lblock_n ?_)
               have hY:outs.map pairV++[V.sl 0 [.int .i64 ((0:Nat):Int),.int .i64 (i:Int)]]=(outs++[(((0:Nat):Int),(i:Int))]).map pairV:=by rw [List.map_append];rfl
               have hL:∀ v:V,(outs.map pairV).length+[v].length=(outs++[(((0:Nat):Int),(i:Int))]).length:=fun v=>by simp
               rw [hY,hL] at hh
               refine lbackH.of ⟨i+1,st',some (c0,lv,V.int .i64 ((0:Nat):Int)::rest),outs++[(((0:Nat):Int),(i:Int))],c,n⟩ ⟨rfl,?_,rfl,rfl,rfl,rfl,trivial⟩ hh (.cons 0 rfl rfl (.cons 1 rfl rfl (.drop .nil))) ⟨hlt,hinv',⟨by dsimp only [List.length_cons];omega,by dsimp only;omega⟩,by dsimp only;omega,by dsimp only;rw [List.length_append,List.length_singleton];omega⟩ (by dsimp only;omega)
               exact congrArg (fun k=>some (V.slm (.is c) n 0 k)) (hL _)
             | succ q =>
               have hql:q<l.length:=by omega
               have hkq:keyAt l (q+1)=keyTok l[q]:=by simp [keyAt,hql]
               have hgq:(l.map Token.toV)[(((q+1:Nat):Int) - 1).toNat]?=some l[q].toV:=by
                 rw [show (((q+1:Nat):Int) - 1).toNat=q by omega];simp [hql]
               have hq0:¬ ((q+1:Nat):Int)=0:=by omega
               unfold keyTok at hkq
               generalize l[q]=u at hgq hkq
               by_cases k1:u.kind=1
               · by_cases k2 : u.text = [73, 78]
                 · have hky : keyAt l (q + 1) = true := by rw [hkq]; simp [k1, k2]
                   rw [hky] at hinv'
                   simp only [if_true] at hinv'
                   repeat' first |(refine kAlloc ?_ ;refine LOps.allocH tT_ok hh rfl rfl ?_ ;intro s n hh) |(refine kStore ?_ ;first |(refine LOps.storeH tT_ok 0 hh rfl rfl rfl rfl rfl rfl rfl rfl rfl ?_ ;intro s hh)) |(refine kOps ?_;first |(refine LOps.nil ?_) |(refine kG ?_;first |(refine LOps.gT rfl rfl rfl ?_) |(refine LOps.gF rfl rfl rfl ?_) |(refine LOps.gD false rfl rfl rfl ?_ ?_;(focus (first |(simp <;> omega))))) |(refine LOps.ev tT_ok rfl ?_) |(refine kLoad ?_;first |(refine LOps.ans (AnsL.loadH tT_ok 0 hh rfl rfl rfl rfl) ?_) |(refine LOps.ans (AnsL.loadHE (CA:=ips st') (ce:=[V.int .i64 ((q+1:Nat):Int)]) (CZ:=rest) (q:=st'.length*1) tT_ok 2 0 hh rfl rfl hq rfl rfl rfl rfl) ?_)) |(refine kBin ?_;first |(refine LOps.ans (AnsL.add rfl rfl ?_) ?_;(focus (constructor <;> omega))) |(refine LOps.ans (AnsL.sub rfl rfl ?_) ?_;(focus (constructor <;> omega)))) |(refine kIdx ?_;first |(refine LOps.ans (AnsL.idx tT_ok rfl rfl rfl rfl rfl hg rfl rfl) ?_) |(refine LOps.ans (AnsL.idxK (j:=st'.length) tT_ok rfl rfl hj1 rfl rfl rfl hj2) ?_) |(refine LOps.ans (AnsL.idxZ tT_ok rfl rfl rfl rfl rfl ?_ hgq rfl rfl) ?_;(focus (omega)))) |(refine kSlc ?_;first |(refine LOps.ans (AnsL.slcK (k:=st'.length) tT_ok rfl rfl rfl rfl rfl hj1 hj3 hj4) ?_))) |(refine kWL ?_;first |(refine WL.seq ?_) |(refine WL.region (by kernel_rfl) ?_) |(refine WL.block ?_) |(refine WL.skip ?_) |(refine kCond ?_;first |(refine WL.condF rfl ?_) |(refine WL.condT' rfl ?_ ?_;(focus (first |(exact decide_eq_true (by assumption)) |(simp <;> omega)))) |(refine WL.condF' rfl ?_ ?_;(focus (first |(exact decide_eq_false (by assumption)) |(simp <;> omega)))))) |(refine lthen_n ?_) |(refine lblock_n ?_)
                   exact lbackH.of ⟨i+1,st',some (c0,lv,V.int .i64 ((q+1:Nat):Int)::rest),outs,oc,ol⟩ ⟨rfl,rfl,rfl,rfl,rfl,rfl,trivial⟩ hh (Sel.drop (Sel.refl _)) ⟨hlt,hinv',⟨by dsimp only [List.length_cons];omega,by dsimp only;omega⟩,by dsimp only;omega,by dsimp only;omega⟩ (by dsimp only;omega)
                 · by_cases k3 : u.text = [69, 88, 73, 83, 84, 83]
                   · have hky : keyAt l (q + 1) = true := by rw [hkq]; simp [k1, k3]
                     rw [hky] at hinv'
                     simp only [if_true] at hinv'
                     repeat' first |(refine kAlloc ?_ ;refine LOps.allocH tT_ok hh rfl rfl ?_ ;intro s n hh) |(refine kStore ?_ ;first |(refine LOps.storeH tT_ok 0 hh rfl rfl rfl rfl rfl rfl rfl rfl rfl ?_ ;intro s hh)) |(refine kOps ?_;first |(refine LOps.nil ?_) |(refine kG ?_;first |(refine LOps.gT rfl rfl rfl ?_) |(refine LOps.gD true rfl rfl rfl ?_ ?_;(focus (first |(simp <;> omega)))) |(refine LOps.gD false rfl rfl rfl ?_ ?_;(focus (first |(simp <;> omega))))) |(refine LOps.ev tT_ok rfl ?_) |(refine kLoad ?_;first |(refine LOps.ans (AnsL.loadH tT_ok 0 hh rfl rfl rfl rfl) ?_) |(refine LOps.ans (AnsL.loadHE (CA:=ips st') (ce:=[V.int .i64 ((q+1:Nat):Int)]) (CZ:=rest) (q:=st'.length*1) tT_ok 2 0 hh rfl rfl hq rfl rfl rfl rfl) ?_)) |(refine kBin ?_;first |(refine LOps.ans (AnsL.add rfl rfl ?_) ?_;(focus (constructor <;> omega))) |(refine LOps.ans (AnsL.sub rfl rfl ?_) ?_;(focus (constructor <;> omega)))) |(refine kIdx ?_;first |(refine LOps.ans (AnsL.idx tT_ok rfl rfl rfl rfl rfl hg rfl rfl) ?_) |(refine LOps.ans (AnsL.idxK (j:=st'.length) tT_ok rfl rfl hj1 rfl rfl rfl hj2) ?_) |(refine LOps.ans (AnsL.idxZ tT_ok rfl rfl rfl rfl rfl ?_ hgq rfl rfl) ?_;(focus (omega)))) |(refine kSlc ?_;first |(refine LOps.ans (AnsL.slcK (k:=st'.length) tT_ok rfl rfl rfl rfl rfl hj1 hj3 hj4) ?_))) |(refine kWL ?_;first |(refine WL.seq ?_) |(refine WL.region (by kernel_rfl) ?_) |(refine WL.block ?_) |(refine WL.skip ?_) |(refine kCond ?_;first |(refine WL.condT' rfl ?_ ?_;(focus (first |(exact decide_eq_true (by assumption)) |(simp <;> omega)))) |(refine WL.condF' rfl ?_ ?_;(focus (first |(exact decide_eq_false (by assumption)) |(simp <;> omega)))))) |(refine lthen_n ?_) |(refine lblock_n ?_)
                     exact lbackH.of ⟨i+1,st',some (c0,lv,V.int .i64 ((q+1:Nat):Int)::rest),outs,oc,ol⟩ ⟨rfl,rfl,rfl,rfl,rfl,rfl,trivial⟩ hh (Sel.drop (Sel.refl _)) ⟨hlt,hinv',⟨by dsimp only [List.length_cons];omega,by dsimp only;omega⟩,by dsimp only;omega,by dsimp only;omega⟩ (by dsimp only;omega)
                   · have hky : keyAt l (q + 1) = false := by rw [hkq]; simp [k2, k3]
                     rw [hky] at hinv'
                     simp only [Bool.false_eq_true,if_false] at hinv'
                     repeat' first |(refine kAlloc ?_ ;refine LOps.allocH tT_ok hh rfl rfl ?_ ;intro s n hh) |(refine kStore ?_ ;first |(refine LOps.storeH tT_ok 0 hh rfl rfl rfl rfl rfl rfl rfl rfl rfl ?_ ;intro s hh)) |(refine kBsl ?_ ;first |(refine' LOps.bslO (d:=76) tT_ok rfl rfl rfl rfl rfl rfl rfl rfl hh ?_ ?_ ?_ ;rotate_left 2 ;(focus ((repeat' first |(exact ConsOL.nil) |(exact ConsO.scal rfl) |(refine' ConsOL.cons ?_ ?_));done)) ;(focus ((repeat' first |(exact ElsH.of rfl));done)) ;intro s n hh) |(refine LOps.ans (AnsL.bslE tT_ok rfl rfl rfl rfl rfl rfl rfl rfl ?_) ?_ ;(focus ((repeat' first |(exact ElsH.of rfl));done)))) |(refine kApp ?_ ;first |(refine' LOps.appW tT_ok 2 rfl rfl rfl rfl rfl rfl rfl rfl rfl rfl hh ?_ ?_ ?_ (AppB.of ?_ rfl) ?_ ;rotate_left 2 ;(focus (first |(intro x hx;obtain ⟨y,_,rfl⟩:=List.mem_map.1 hx;first | rfl | exact PE.cells_len _ | exact PE.planV_len _ | exact EE.cells_len _ | exact EE.queryV_len _))) ;(focus ((repeat' first |(exact ConsOL.nil) |(refine' ConsO.op ?_;((repeat' first |(exact Pick.here));done)) |(refine' ConsOL.cons ?_ ?_));done)) ;(focus ((repeat' first |(exact Elems.of rfl));done)) ;(focus (first | omega |(simp ;omega))) ;intro s c n hh)) |(refine kOps ?_;first |(refine LOps.nil ?_) |(refine kG ?_;first |(refine LOps.gT rfl rfl rfl ?_) |(refine LOps.gD true rfl rfl rfl ?_ ?_;(focus (first |(simp <;> omega)))) |(refine LOps.gD false rfl rfl rfl ?_ ?_;(focus (first |(simp <;> omega))))) |(refine LOps.ev tT_ok rfl ?_) |(refine kLoad ?_;first |(refine LOps.ans (AnsL.loadH tT_ok 0 hh rfl rfl rfl rfl) ?_) |(refine LOps.ans (AnsL.loadHE (CA:=ips st') (ce:=[V.int .i64 ((q+1:Nat):Int)]) (CZ:=rest) (q:=st'.length*1) tT_ok 2 0 hh rfl rfl hq rfl rfl rfl rfl) ?_)) |(refine kBin ?_;first |(refine LOps.ans (AnsL.add rfl rfl ?_) ?_;(focus (constructor <;> omega))) |(refine LOps.ans (AnsL.sub rfl rfl ?_) ?_;(focus (constructor <;> omega)))) |(refine kIdx ?_;first |(refine LOps.ans (AnsL.idx tT_ok rfl rfl rfl rfl rfl hg rfl rfl) ?_) |(refine LOps.ans (AnsL.idxK (j:=st'.length) tT_ok rfl rfl hj1 rfl rfl rfl hj2) ?_) |(refine LOps.ans (AnsL.idxZ tT_ok rfl rfl rfl rfl rfl ?_ hgq rfl rfl) ?_;(focus (omega)))) |(refine kSlc ?_;first |(refine LOps.ans (AnsL.slcK (k:=st'.length) tT_ok rfl rfl rfl rfl rfl hj1 hj3 hj4) ?_))) |(refine kWL ?_;first |(refine WL.seq ?_) |(refine WL.region (by kernel_rfl) ?_) |(refine WL.block ?_) |(refine WL.skip ?_) |(refine kCond ?_;first |(refine WL.condT' rfl ?_ ?_;(focus (first |(exact decide_eq_true (by assumption)) |(simp <;> omega)))) |(refine WL.condF' rfl ?_ ?_;(focus (first |(exact decide_eq_false (by assumption)) |(simp <;> omega)))))) |(refine lthen_n ?_) |(refine lblock_n ?_)
                     have hY:outs.map pairV++[V.sl 0 [.int .i64 ((q+1:Nat):Int),.int .i64 (i:Int)]]=(outs++[(((q+1:Nat):Int),(i:Int))]).map pairV:=by rw [List.map_append];rfl
                     have hL:∀ v:V,(outs.map pairV).length+[v].length=(outs++[(((q+1:Nat):Int),(i:Int))]).length:=fun v=>by simp
                     rw [hY,hL] at hh
                     refine lbackH.of ⟨i+1,st',some (c0,lv,V.int .i64 ((q+1:Nat):Int)::rest),outs++[(((q+1:Nat):Int),(i:Int))],c,n⟩ ⟨rfl,?_,rfl,rfl,rfl,rfl,trivial⟩ hh (.cons 0 rfl rfl (.cons 1 rfl rfl (.drop .nil))) ⟨hlt,hinv',⟨by dsimp only [List.length_cons];omega,by dsimp only;omega⟩,by dsimp only;omega,by dsimp only;rw [List.length_append,List.length_singleton];omega⟩ (by dsimp only;omega)
                     exact congrArg (fun k=>some (V.slm (.is c) n 0 k)) (hL _)
               · have hky : keyAt l (q + 1) = false := by rw [hkq]; simp [k1]
                 rw [hky] at hinv'
                 simp only [Bool.false_eq_true,if_false] at hinv'
                 repeat' first |(refine kAlloc ?_ ;refine LOps.allocH tT_ok hh rfl rfl ?_ ;intro s n hh) |(refine kStore ?_ ;first |(refine LOps.storeH tT_ok 0 hh rfl rfl rfl rfl rfl rfl rfl rfl rfl ?_ ;intro s hh)) |(refine kBsl ?_ ;first |(refine' LOps.bslO (d:=76) tT_ok rfl rfl rfl rfl rfl rfl rfl rfl hh ?_ ?_ ?_ ;rotate_left 2 ;(focus ((repeat' first |(exact ConsOL.nil) |(exact ConsO.scal rfl) |(refine' ConsOL.cons ?_ ?_));done)) ;(focus ((repeat' first |(exact ElsH.of rfl));done)) ;intro s n hh) |(refine LOps.ans (AnsL.bslE tT_ok rfl rfl rfl rfl rfl rfl rfl rfl ?_) ?_ ;(focus ((repeat' first |(exact ElsH.of rfl));done)))) |(refine kApp ?_ ;first |(refine' LOps.appW tT_ok 2 rfl rfl rfl rfl rfl rfl rfl rfl rfl rfl hh ?_ ?_ ?_ (AppB.of ?_ rfl) ?_ ;rotate_left 2 ;(focus (first |(intro x hx;obtain ⟨y,_,rfl⟩:=List.mem_map.1 hx;first | rfl | exact PE.cells_len _ | exact PE.planV_len _ | exact EE.cells_len _ | exact EE.queryV_len _))) ;(focus ((repeat' first |(exact ConsOL.nil) |(refine' ConsO.op ?_;((repeat' first |(exact Pick.here));done)) |(refine' ConsOL.cons ?_ ?_));done)) ;(focus ((repeat' first |(exact Elems.of rfl));done)) ;(focus (first | omega |(simp ;omega))) ;intro s c n hh)) |(refine kOps ?_;first |(refine LOps.nil ?_) |(refine kG ?_;first |(refine LOps.gT rfl rfl rfl ?_) |(refine LOps.gF rfl rfl rfl ?_) |(refine LOps.gU rfl rfl ?_) |(refine LOps.gD true rfl rfl rfl ?_ ?_;(focus (first |(simp <;> omega))))) |(refine LOps.ev tT_ok rfl ?_) |(refine kLoad ?_;first |(refine LOps.ans (AnsL.loadH tT_ok 0 hh rfl rfl rfl rfl) ?_) |(refine LOps.ans (AnsL.loadHE (CA:=ips st') (ce:=[V.int .i64 ((q+1:Nat):Int)]) (CZ:=rest) (q:=st'.length*1) tT_ok 2 0 hh rfl rfl hq rfl rfl rfl rfl) ?_)) |(refine kBin ?_;first |(refine LOps.ans (AnsL.add rfl rfl ?_) ?_;(focus (constructor <;> omega))) |(refine LOps.ans (AnsL.sub rfl rfl ?_) ?_;(focus (constructor <;> omega)))) |(refine kIdx ?_;first |(refine LOps.ans (AnsL.idx tT_ok rfl rfl rfl rfl rfl hg rfl rfl) ?_) |(refine LOps.ans (AnsL.idxK (j:=st'.length) tT_ok rfl rfl hj1 rfl rfl rfl hj2) ?_) |(refine LOps.ans (AnsL.idxZ tT_ok rfl rfl rfl rfl rfl ?_ hgq rfl rfl) ?_;(focus (omega)))) |(refine kSlc ?_;first |(refine LOps.ans (AnsL.slcK (k:=st'.length) tT_ok rfl rfl rfl rfl rfl hj1 hj3 hj4) ?_))) |(refine kWL ?_;first |(refine WL.seq ?_) |(refine WL.region (by kernel_rfl) ?_) |(refine WL.block ?_) |(refine WL.skip ?_) |(refine kCond ?_;first |(refine WL.condT rfl ?_) |(refine WL.condT' rfl ?_ ?_;(focus (first |(exact decide_eq_true (by assumption)) |(simp <;> omega)))) |(refine WL.condF' rfl ?_ ?_;(focus (first |(exact decide_eq_false (by assumption)) |(simp <;> omega)))))) |(refine lthen_n ?_) |(refine lblock_n ?_)
                 have hY:outs.map pairV++[V.sl 0 [.int .i64 ((q+1:Nat):Int),.int .i64 (i:Int)]]=(outs++[(((q+1:Nat):Int),(i:Int))]).map pairV:=by rw [List.map_append];rfl
                 have hL:∀ v:V,(outs.map pairV).length+[v].length=(outs++[(((q+1:Nat):Int),(i:Int))]).length:=fun v=>by simp
                 rw [hY,hL] at hh
                 refine lbackH.of ⟨i+1,st',some (c0,lv,V.int .i64 ((q+1:Nat):Int)::rest),outs++[(((q+1:Nat):Int),(i:Int))],c,n⟩ ⟨rfl,?_,rfl,rfl,rfl,rfl,trivial⟩ hh (.cons 0 rfl rfl (.cons 1 rfl rfl (.drop .nil))) ⟨hlt,hinv',⟨by dsimp only [List.length_cons];omega,by dsimp only;omega⟩,by dsimp only;omega,by dsimp only;rw [List.length_append,List.length_singleton];omega⟩ (by dsimp only;omega)
                 exact congrArg (fun k=>some (V.slm (.is c) n 0 k)) (hL _)
       · have hinv' := hskip (by simp [h40]) (by simp [h41])
         clear hpush hskip hpop0 hpop hop
         repeat' first |(refine kAlloc ?_ ;refine LOps.allocH tT_ok hh rfl rfl ?_ ;intro s n hh) |(refine kStore ?_ ;first |(refine LOps.storeH tT_ok 0 hh rfl rfl rfl rfl rfl rfl rfl rfl rfl ?_ ;intro s hh)) |(refine kOps ?_;first |(refine LOps.nil ?_) |(refine LOps.ev tT_ok rfl ?_) |(refine kLoad ?_;first |(refine LOps.ans (AnsL.loadH tT_ok 0 hh rfl rfl rfl rfl) ?_)) |(refine kBin ?_;first |(refine LOps.ans (AnsL.add rfl rfl ?_) ?_;(focus (constructor <;> omega)))) |(refine kIdx ?_;first |(refine LOps.ans (AnsL.idx tT_ok rfl rfl rfl rfl rfl hg rfl rfl) ?_))) |(refine kWL ?_;first |(refine WL.seq ?_) |(refine WL.region (by kernel_rfl) ?_) |(refine WL.block ?_) |(refine WL.skip ?_) |(refine kCond ?_;first |(refine WL.condT' rfl ?_ ?_;(focus (first |(simp <;> omega)))) |(refine WL.condF' rfl ?_ ?_;(focus (first |(exact decide_eq_false (by assumption)) |(simp <;> omega)))))) |(refine lthen_n ?_) |(refine lblock_n ?_)
         exact lbackH.of ⟨i+1,st,ov,outs,oc,ol⟩ ⟨rfl,rfl,rfl,rfl,rfl,rfl,trivial⟩ hh (Sel.drop (Sel.refl _)) ⟨hlt,hinv',hok,by dsimp only;omega,by dsimp only;omega⟩ (by dsimp only;omega)
   · have hinv' := hskip (by simp [hk]) (by simp [hk])
     clear hpush hskip hpop0 hpop hop
     repeat' first |(refine kAlloc ?_ ;refine LOps.allocH tT_ok hh rfl rfl ?_ ;intro s n hh) |(refine kStore ?_ ;first |(refine LOps.storeH tT_ok 0 hh rfl rfl rfl rfl rfl rfl rfl rfl rfl ?_ ;intro s hh)) |(refine kOps ?_;first |(refine LOps.nil ?_) |(refine LOps.ev tT_ok rfl ?_) |(refine kLoad ?_;first |(refine LOps.ans (AnsL.loadH tT_ok 0 hh rfl rfl rfl rfl) ?_)) |(refine kBin ?_;first |(refine LOps.ans (AnsL.add rfl rfl ?_) ?_;(focus (constructor <;> omega)))) |(refine kIdx ?_;first |(refine LOps.ans (AnsL.idx tT_ok rfl rfl rfl rfl rfl hg rfl rfl) ?_))) |(refine kWL ?_;first |(refine WL.seq ?_) |(refine WL.region (by kernel_rfl) ?_) |(refine WL.block ?_) |(refine WL.exit ?_) |(refine WL.skip ?_) |(refine kCond ?_;first |(refine WL.condT' rfl ?_ ?_;(focus (first |(simp <;> omega)))))) |(refine lthen_n ?_) |(refine lthen_e ?_) |(refine lblock_e ?_)
     exact lbackH.of ⟨i+1,st,ov,outs,oc,ol⟩ ⟨rfl,rfl,rfl,rfl,rfl,rfl,trivial⟩ hh (Sel.drop (Sel.refl _)) ⟨hlt,hinv',hok,by dsimp only;omega,by dsimp only;omega⟩ (by dsimp only;omega)
 · have e : i = l.length := by omega
   subst e
   have hlim:outs.length<4611686018427387904:=by omega
   have hfin:=hinv.fin
   repeat' first |(refine kCallN 17 ?_ ;refine LOps.call rfl rfl (appO_nil _) ok17 (sortPairs_c sortsPairs hlim hh) (fun v t hv=>?_) ;obtain ⟨rfl,ys,s,hperm,hsort,rfl,hh⟩:=hv) |(refine kOps ?_;first |(refine LOps.nil ?_) |(refine LOps.ev tT_ok rfl ?_)) |(refine kWL ?_;first |(refine WL.seq ?_) |(refine WL.region (by kernel_rfl) ?_) |(refine WL.exit ?_) |(refine WL.ret ?_) |(refine kCond ?_;first |(refine WL.condF' rfl ?_ ?_;(focus (first |(simp <;> omega)))))) |(refine lthen_n ?_) |(refine lthen_e ?_) |(refine lblock_e ?_) |(refine lbackH_e ?_) |(refine LPost.r1 (r := .tmp 2) (.inl rfl) (Res1.tmp rfl) ?_)
   rw [← pairs_unique hfin hperm hsort]
   exact ⟨_,_,rfl,hh⟩
end Go.Proofs.Ytikghanejpigjaa
