/-
 When a tree is right, of the reference. Own work; no condition.
-/
import Derived.Test.YtikghanejpigjaaDEOk4
import Derived.Test.YtikghanejpigjaaDEd2
namespace Go.Proofs.Ytikghanejpigjaa
open Go
set_option linter.unusedSimpArgs false
set_option linter.unusedVariables false
def itOk (x:EItem):Bool:=if x.star then (mbOk x.qual&&decide (x.als=[]))&&x.e.eqB EE.zero else decide (x.qual=[])&&mbOk x.als
def srOk (i:Nat) (x:ESrc):Bool:=((nmOk x.table&&mbOk x.als)&&decide ((x.on.length:Int)≤1)) && !(decide (i=0)&&decide (0<(x.on.length:Int)))
def srA:Nat→List ESrc→Bool
 | _,[]=>true
 | i,x::l=>srOk i x&&srA (i+1) l
def hdOk (q:EQ):Bool :=
 (((decide (1≤(q.items.length:Int))&&decide ((q.items.length:Int)≤12))&&(decide (1≤(q.src.length:Int))&&decide ((q.src.length:Int)≤3)))&&(decide ((q.wher.length:Int)≤1)&&decide ((q.order.length:Int)≤12)))&&decide (-1≤q.limit)
theorem all_drop {α : Type} {f : α → Bool} {l:List α} {i:Nat} (h:i<l.length):(l.drop i).all f=(f l[i]&&(l.drop (i+1)).all f):=by
 rw [List.drop_eq_getElem_cons h,List.all_cons]
theorem srA_drop {l:List ESrc} {i:Nat} (h:i<l.length):srA i (l.drop i)=(srOk i l[i]&&srA (i+1) (l.drop (i+1))):=by
 rw [List.drop_eq_getElem_cons h,srA]
inductive Rg:EE→Prop where
 | mk (e:EE):shpB e=true→(∀ k∈e.kids,Rg k)→(∀ q∈e.sub,hdOk q=true∧q.items.all itOk=true∧srA 0 q.src=true)→(∀ q∈e.sub,∀ k∈q.exprs,Rg k)→Rg e
def RgC (e:EE):Prop:=∃ c:Bool,(c=true→Rg e)∧∀ s,VCalls Try.prog 35 [e.v] s (fun v s'=>v = .bool c∧s'=s)
open Classical in
noncomputable def rgc (e:EE):Bool:=if h:RgC e then h.choose else false
theorem rgc_spec {e:EE} (h:RgC e):(rgc e=true→Rg e)∧∀ s,VCalls Try.prog 35 [e.v] s (fun v s'=>v = .bool (rgc e)∧s'=s):=by
 unfold rgc
 rw [dif_pos h]
 exact h.choose_spec
theorem specSameExpr_z (x:EE) (s:S):VCalls Try.prog 12 [x.v,.agg [.int .i64 0,.int .i64 0,.bool false,.int .i64 0,.int .i64 0,.str [],.str [],.str [],.nilsl,.nilsl]] s (fun v s'=>v = .bool (x.eqB EE.zero)∧s'=s):=by
 refine VCalls.forget ?_
 have h:=specSameExpr_c x EE.zero s
 simp only [List.map_cons,List.map_nil,plain_forget _ (EE.plainv x)]
 exact h
noncomputable def rgq (q:EQ):Bool:=hdOk q&&(q.items.all itOk&&(srA 0 q.src&&q.exprs.all rgc))
set_option maxHeartbeats 1000000 in
theorem specl7RightQuery_b (q:EQ) (hw:wgt q.v≤1048576) (ih:∀ k∈q.parts,RgC k) (s:S):VCalls Try.prog 64 [q.v] s (fun v s'=>v = .bool (rgq q)∧s'=s):=by
 refine VCalls.wf fun hwf=>?_
 simp only [EQ.v,List.all_cons,List.all_nil,V.wf,V.wfL,Bool.and_true,Bool.and_eq_true,decide_eq_true_eq,List.length_map,maxLen] at hwf
 have hX:=fun t=>specl7Exprs_v q hw t
 have hL:=exprs_len q
 have hK:=fun k (hk:k∈q.exprs)=>(rgc_spec (ih k (exprs_parts hk))).2
 have hrq:rgq q=(hdOk q&&(q.items.all itOk&&(srA 0 q.src&&q.exprs.all rgc))):=rfl
 generalize q.exprs=L at hX hL hK hrq
 generalize rgq q=R at hrq ⊢
 have hml:(L.map EE.toV).length=L.length:=List.length_map ..
 have hm1:(q.items.map EItem.v).length=q.items.length:=List.length_map ..
 have hm2:(q.src.map ESrc.v).length=q.src.length:=List.length_map ..
 have hm3:(q.wher.map EE.toV).length=q.wher.length:=List.length_map ..
 have hm4:(q.order.map EE.sv).length=q.order.length:=List.length_map ..
 cases hh:hdOk q
 · rw [hh, Bool.false_and] at hrq
   subst hrq
   refine LCalls.pure Try.func64 rfl (by kernel_rfl) (by simp) ?_
   repeat' first |(refine kOps ?_;first |(refine LOps.nil ?_) |(refine kG ?_;first |(refine LOps.gT rfl rfl rfl ?_) |(refine LOps.gF rfl rfl rfl ?_) |(refine LOps.gC rfl rfl rfl (fun h=>?_) (fun h=>?_))) |(refine LOps.ev tT_ok rfl ?_) |(refine kBox ?_;refine LOps.box rfl rfl rfl rfl ?_) |(refine kLoad ?_;first |(refine LOps.ans (AnsL.loadP tT_ok rfl rfl rfl rfl) ?_)) |(refine kLen ?_;first |(refine LOps.ans (AnsL.lenM tT_ok rfl rfl rfl) ?_)) |(refine kCallN 92 ?_;first |(refine LOps.ans (AnsL.callP rfl rfl rfl (ok92) (specl1In_b _ _ _ _)) ?_))) |(refine kWL ?_;first |(refine WL.seq ?_) |(refine WL.region (by kernel_rfl) ?_) |(refine WL.block ?_) |(refine WL.skip ?_) |(refine WL.ret ?_) |(refine kCond ?_;first |(refine WL.condT rfl ?_) |(refine WL.cond rfl (fun h=>?_) (fun h=>?_)))) |(refine lthen_n ?_) |(refine lthen_r ?_) |(refine LPost.r1 (r := .tmp 2) (.inl rfl) (Res1.tmp rfl) ?_) |(refine PureR.mk ?_)
   all_goals first
     | rfl
     |(exfalso;clear hK hX ih hwf;simp_all [hdOk] <;> omega)
 rw [hh,Bool.true_and] at hrq
 refine LCalls.pure Try.func64 rfl (by kernel_rfl) (by simp) ?_
 repeat' first |(refine kOps ?_;first |(refine LOps.nil ?_) |(refine kG ?_;first |(refine LOps.gT rfl rfl rfl ?_) |(refine LOps.gF rfl rfl rfl ?_) |(refine LOps.gC rfl rfl rfl (fun h=>?_) (fun h=>?_))) |(refine LOps.ev tT_ok rfl ?_) |(refine kBox ?_;refine LOps.box rfl rfl rfl rfl ?_) |(refine kLoad ?_;first |(refine LOps.ans (AnsL.loadP tT_ok rfl rfl rfl rfl) ?_)) |(refine kLen ?_;first |(refine LOps.ans (AnsL.lenM tT_ok rfl rfl rfl) ?_)) |(refine kCallN 92 ?_;first |(refine LOps.ans (AnsL.callP rfl rfl rfl (ok92) (specl1In_b _ _ _ _)) ?_))) |(refine kWL ?_;first |(refine WL.seq ?_) |(refine WL.region (by kernel_rfl) ?_) |(refine WL.block ?_) |(refine WL.skip ?_) |(refine WL.ret ?_) |(refine kCond ?_;first |(refine WL.condT rfl ?_) |(refine WL.cond rfl (fun h=>?_) (fun h=>?_)))) |(refine lthen_n ?_) |(refine lthen_r ?_) |(refine LPost.r1 (r := .tmp 2) (.inl rfl) (Res1.tmp rfl) ?_) |(refine PureR.mk ?_)
 any_goals (exfalso;clear hK hX ih hwf;(simp_all [hdOk] <;> omega);done)
 refine WL.loopD (fun i:Nat=>q.items.length - i) (fun i=>[(1,.ptr (s.next+0) 0),(3,.int .i64 (i:Int))]) (fun i=>[.var q.v.cells])
   (fun i=>i≤q.items.length∧q.items.all itOk=(q.items.drop i).all itOk) 1 0 ⟨Nat.zero_le _,rfl⟩ (fun _=>rfl) ⟨rfl,rfl,trivial⟩ rfl (fun i hi=>?_) (fun i hi=>?_)
 · simp [UnderK,UnderX,Own.under,V.under,V.underL,EQ.v,V.cells]
 obtain ⟨hi,hc⟩:=hi
 rcases Nat.lt_or_ge i q.items.length with hlt | hge
 · have hga : (q.items.map EItem.v)[i]? = some (EItem.v q.items[i]) := by rw [List.getElem?_map, List.getElem?_eq_getElem hlt]; rfl
   rw [all_drop hlt] at hc
   have hE:=fun t=>specSameExpr_z q.items[i].e t
   generalize q.items[i]=a at hga hE hc
   obtain ⟨a0,aq,ae,aa⟩:=a
   simp only at hE hc
   cases hb:itOk ⟨a0,aq,ae,aa⟩
   all_goals rw [hb] at hc
   · rw [Bool.false_and] at hc
     rw [hc,Bool.false_and] at hrq
     subst hrq
     repeat' first |(refine kOps ?_;first |(refine LOps.nil ?_) |(refine kG ?_;first |(refine LOps.gT rfl rfl rfl ?_) |(refine LOps.gF rfl rfl rfl ?_) |(refine LOps.gU rfl rfl ?_) |(refine LOps.gD true rfl rfl rfl ?_ ?_;(focus (first |(simp only [decide_eq_true_eq, decide_eq_false_iff_not, Bool.not_eq_true', Bool.not_eq_false', Int.ofNat_lt, Int.ofNat_le, Int.ofNat_inj, not_true_eq_false, not_false_eq_true]; omega)))) |(refine LOps.gD false rfl rfl rfl ?_ ?_;(focus (first |(simp only [decide_eq_true_eq, decide_eq_false_iff_not, Bool.not_eq_true', Bool.not_eq_false', Int.ofNat_lt, Int.ofNat_le, Int.ofNat_inj, not_true_eq_false, not_false_eq_true]; omega)))) |(refine LOps.gC rfl rfl rfl (fun h=>?_) (fun h=>?_))) |(refine kStore ?_;refine LOps.storeP tT_ok rfl rfl rfl rfl rfl rfl rfl rfl rfl ?_) |(refine LOps.ev tT_ok rfl ?_) |(refine kAlloc ?_;refine LOps.alloc tT_ok rfl rfl rfl rfl ?_) |(refine kLoad ?_;first |(refine LOps.ans (AnsL.loadP tT_ok rfl rfl rfl rfl) ?_)) |(refine kLen ?_;first |(refine LOps.ans (AnsL.lenM tT_ok rfl rfl rfl) ?_)) |(refine kBin ?_;first |(refine LOps.ans (AnsL.add rfl rfl ?_) ?_;(focus (constructor <;> omega)))) |(refine kIdx ?_;first |(refine LOps.ans (AnsL.idx tT_ok rfl rfl rfl rfl rfl hga rfl rfl) ?_)) |(refine kCallN 12 ?_;first |(refine LOps.ans (AnsL.callP rfl rfl rfl (ok12) (hE _)) ?_)) |(refine kCallN 95 ?_;first |(refine LOps.ans (AnsL.callP rfl rfl rfl (ok95) (specl7Maybe_b _ _)) ?_))) |(refine kWL ?_;first |(refine WL.seq ?_) |(refine WL.region (by kernel_rfl) ?_) |(refine WL.block ?_) |(refine WL.skip ?_) |(refine WL.ret ?_) |(refine kCond ?_;first |(refine WL.condT rfl ?_) |(refine WL.condF rfl ?_) |(refine WL.condT' rfl ?_ ?_;(focus (first |(simp only [decide_eq_true_eq, decide_eq_false_iff_not, Bool.not_eq_true', Bool.not_eq_false', Int.ofNat_lt, Int.ofNat_le, Int.ofNat_inj, not_true_eq_false, not_false_eq_true]; omega)))) |(refine WL.cond rfl (fun h=>?_) (fun h=>?_)))) |(refine lthen_n ?_) |(refine lthen_r ?_) |(refine lblock_n ?_) |(refine lblock_r ?_) |(refine lbackD_r ?_) |(refine LPost.r1 (r := .tmp 2) (.inl rfl) (Res1.tmp rfl) ?_) |(refine PureR.mk ?_)
     all_goals first
       | rfl
       |(exfalso;clear hK hX ih hwf hE;(simp_all [itOk]);done)
   · rw [Bool.true_and] at hc
     cases a0
     all_goals
       repeat' first |(refine kOps ?_;first |(refine LOps.nil ?_) |(refine kG ?_;first |(refine LOps.gT rfl rfl rfl ?_) |(refine LOps.gF rfl rfl rfl ?_) |(refine LOps.gU rfl rfl ?_) |(refine LOps.gC rfl rfl rfl (fun h=>?_) (fun h=>?_))) |(refine kStore ?_;refine LOps.storeP tT_ok rfl rfl rfl rfl rfl rfl rfl rfl rfl ?_) |(refine LOps.ev tT_ok rfl ?_) |(refine kAlloc ?_;refine LOps.alloc tT_ok rfl rfl rfl rfl ?_) |(refine kLoad ?_;first |(refine LOps.ans (AnsL.loadP tT_ok rfl rfl rfl rfl) ?_)) |(refine kLen ?_;first |(refine LOps.ans (AnsL.lenM tT_ok rfl rfl rfl) ?_)) |(refine kBin ?_;first |(refine LOps.ans (AnsL.add rfl rfl ?_) ?_;(focus (constructor <;> omega)))) |(refine kIdx ?_;first |(refine LOps.ans (AnsL.idx tT_ok rfl rfl rfl rfl rfl hga rfl rfl) ?_)) |(refine kCallN 12 ?_;first |(refine LOps.ans (AnsL.callP rfl rfl rfl (ok12) (hE _)) ?_)) |(refine kCallN 95 ?_;first |(refine LOps.ans (AnsL.callP rfl rfl rfl (ok95) (specl7Maybe_b _ _)) ?_))) |(refine kWL ?_;first |(refine WL.seq ?_) |(refine WL.region (by kernel_rfl) ?_) |(refine WL.block ?_) |(refine WL.skip ?_) |(refine WL.ret ?_) |(refine kCond ?_;first |(refine WL.condT rfl ?_) |(refine WL.condF rfl ?_) |(refine WL.condT' rfl ?_ ?_;(focus (first |(simp only [decide_eq_true_eq, decide_eq_false_iff_not, Bool.not_eq_true', Bool.not_eq_false', Int.ofNat_lt, Int.ofNat_le, Int.ofNat_inj, not_true_eq_false, not_false_eq_true]; omega)))) |(refine WL.cond rfl (fun h=>?_) (fun h=>?_)))) |(refine lthen_n ?_) |(refine lthen_r ?_) |(refine lblock_n ?_) |(refine lblock_r ?_) |(refine lbackD_r ?_) |(refine LPost.r1 (r := .tmp 2) (.inl rfl) (Res1.tmp rfl) ?_) |(refine PureR.mk ?_)
       any_goals (exfalso;clear hK hX ih hwf hE;(simp_all [itOk]);done)
       all_goals
         refine lbackD.of (i+1) ?_ ?_ ?_ ?_
         · first | omega |(refine ⟨?_,?_⟩;(focus (first | omega |(simp;omega)));(first | omega |(simp_all [hc] <;> fail) |(simp_all [hc];omega))) |(simp_all [hc] <;> fail) |(simp_all [hc];omega)
         · first | omega |(simp;omega) | simp_all
         · repeat' first
             | exact SubL.nil
             |(refine SubL.mk rfl ?_ ?_)
             | rfl
             |(simp [hc] <;> fail)
             |(simp [hc];omega)
         · first | rfl |(simp [hc] <;> fail) |(simp [hc];omega)
 rw [show (q.items.drop i).all itOk=true by rw [List.drop_of_length_le hge];rfl] at hc
 rw [hc,Bool.true_and] at hrq
 repeat' first |(refine kOps ?_;first |(refine LOps.nil ?_) |(refine LOps.ev tT_ok rfl ?_) |(refine kLoad ?_;first |(refine LOps.ans (AnsL.loadP tT_ok rfl rfl rfl rfl) ?_)) |(refine kLen ?_;first |(refine LOps.ans (AnsL.lenM tT_ok rfl rfl rfl) ?_))) |(refine kWL ?_;first |(refine WL.seq ?_) |(refine WL.region (by kernel_rfl) ?_) |(refine WL.block ?_) |(refine WL.exit ?_) |(refine kCond ?_;first |(refine WL.condF' rfl ?_ ?_;(focus (first |(simp only [decide_eq_true_eq, decide_eq_false_iff_not, Bool.not_eq_true', Bool.not_eq_false', Int.ofNat_lt, Int.ofNat_le, Int.ofNat_inj, not_true_eq_false, not_false_eq_true]; omega)))))) |(refine lthen_n ?_) |(refine lthen_e ?_) |(refine lblock_e ?_) |(refine lbackD_e ?_)
 refine WL.loopD (fun i:Nat=>q.src.length - i) (fun i=>[(1,.ptr (s.next+0) 0),(5,.int .i64 (i:Int))]) (fun i=>[.var q.v.cells])
   (fun i=>i≤q.src.length∧srA 0 q.src=srA i (q.src.drop i)) 1 0 ⟨Nat.zero_le _,rfl⟩ (fun _=>rfl) ⟨rfl,rfl,trivial⟩ rfl (fun i hi=>?_) (fun i hi=>?_)
 · simp [UnderK,UnderX,Own.under,V.under,V.underL,EQ.v,V.cells]
 obtain ⟨hi,hc2⟩:=hi
 rcases Nat.lt_or_ge i q.src.length with hlt | hge2
 · have hga : (q.src.map ESrc.v)[i]? = some (ESrc.v q.src[i]) := by rw [List.getElem?_map, List.getElem?_eq_getElem hlt]; rfl
   rw [srA_drop hlt] at hc2
   have hwo:q.src[i].on.length≤wgt q.v:=by
     have h1:=wgt_mem (f:=ESrc.v) (List.getElem_mem hlt)
     have h2:=ESrc.wgt_eq q.src[i]
     have h3:=wgt_len EE.toV q.src[i].on
     have h4:=EQ.wgt_eq q
     omega
   generalize q.src[i]=a at hga hc2 hwo
   obtain ⟨at',aa,ao⟩:=a
   simp only at hc2 hwo
   have hmo:(ao.map EE.toV).length=ao.length:=List.length_map ..
   cases hb:srOk i ⟨at',aa,ao⟩
   all_goals rw [hb] at hc2
   · rw [Bool.false_and] at hc2
     rw [hc2,Bool.false_and] at hrq
     subst hrq
     repeat' first |(refine kOps ?_;first |(refine LOps.nil ?_) |(refine kG ?_;first |(refine LOps.gT rfl rfl rfl ?_) |(refine LOps.gF rfl rfl rfl ?_) |(refine LOps.gU rfl rfl ?_) |(refine LOps.gC rfl rfl rfl (fun h=>?_) (fun h=>?_))) |(refine kStore ?_;refine LOps.storeP tT_ok rfl rfl rfl rfl rfl rfl rfl rfl rfl ?_) |(refine LOps.ev tT_ok rfl ?_) |(refine kAlloc ?_;refine LOps.alloc tT_ok rfl rfl rfl rfl ?_) |(refine kLoad ?_;first |(refine LOps.ans (AnsL.loadP tT_ok rfl rfl rfl rfl) ?_)) |(refine kLen ?_;first |(refine LOps.ans (AnsL.lenM tT_ok rfl rfl rfl) ?_)) |(refine kBin ?_;first |(refine LOps.ans (AnsL.add rfl rfl ?_) ?_;(focus (constructor <;> omega)))) |(refine kIdx ?_;first |(refine LOps.ans (AnsL.idx tT_ok rfl rfl rfl rfl rfl hga rfl rfl) ?_)) |(refine kCallN 94 ?_;first |(refine LOps.ans (AnsL.callP rfl rfl rfl (ok94) (specNameOk_b _ _)) ?_)) |(refine kCallN 95 ?_;first |(refine LOps.ans (AnsL.callP rfl rfl rfl (ok95) (specl7Maybe_b _ _)) ?_))) |(refine kWL ?_;first |(refine WL.seq ?_) |(refine WL.region (by kernel_rfl) ?_) |(refine WL.block ?_) |(refine WL.skip ?_) |(refine WL.ret ?_) |(refine kCond ?_;first |(refine WL.condT rfl ?_) |(refine WL.condF rfl ?_) |(refine WL.condT' rfl ?_ ?_;(focus (first |(simp only [decide_eq_true_eq, decide_eq_false_iff_not, Bool.not_eq_true', Bool.not_eq_false', Int.ofNat_lt, Int.ofNat_le, Int.ofNat_inj, not_true_eq_false, not_false_eq_true]; omega)))) |(refine WL.cond rfl (fun h=>?_) (fun h=>?_)))) |(refine lthen_n ?_) |(refine lthen_r ?_) |(refine lblock_n ?_) |(refine lblock_r ?_) |(refine lbackD_r ?_) |(refine LPost.r1 (r := .tmp 2) (.inl rfl) (Res1.tmp rfl) ?_) |(refine PureR.mk ?_)
     all_goals first
       | rfl
       |(exfalso;clear hK hX ih hwf;(simp_all [srOk] <;> omega);done)
   · rw [Bool.true_and] at hc2
     repeat' first |(refine kOps ?_;first |(refine LOps.nil ?_) |(refine kG ?_;first |(refine LOps.gT rfl rfl rfl ?_) |(refine LOps.gF rfl rfl rfl ?_) |(refine LOps.gU rfl rfl ?_) |(refine LOps.gC rfl rfl rfl (fun h=>?_) (fun h=>?_))) |(refine kStore ?_;refine LOps.storeP tT_ok rfl rfl rfl rfl rfl rfl rfl rfl rfl ?_) |(refine LOps.ev tT_ok rfl ?_) |(refine kAlloc ?_;refine LOps.alloc tT_ok rfl rfl rfl rfl ?_) |(refine kLoad ?_;first |(refine LOps.ans (AnsL.loadP tT_ok rfl rfl rfl rfl) ?_)) |(refine kLen ?_;first |(refine LOps.ans (AnsL.lenM tT_ok rfl rfl rfl) ?_)) |(refine kBin ?_;first |(refine LOps.ans (AnsL.add rfl rfl ?_) ?_;(focus (constructor <;> omega)))) |(refine kIdx ?_;first |(refine LOps.ans (AnsL.idx tT_ok rfl rfl rfl rfl rfl hga rfl rfl) ?_)) |(refine kCallN 94 ?_;first |(refine LOps.ans (AnsL.callP rfl rfl rfl (ok94) (specNameOk_b _ _)) ?_)) |(refine kCallN 95 ?_;first |(refine LOps.ans (AnsL.callP rfl rfl rfl (ok95) (specl7Maybe_b _ _)) ?_))) |(refine kWL ?_;first |(refine WL.seq ?_) |(refine WL.region (by kernel_rfl) ?_) |(refine WL.block ?_) |(refine WL.skip ?_) |(refine WL.ret ?_) |(refine kCond ?_;first |(refine WL.condT rfl ?_) |(refine WL.condF rfl ?_) |(refine WL.condT' rfl ?_ ?_;(focus (first |(simp only [decide_eq_true_eq, decide_eq_false_iff_not, Bool.not_eq_true', Bool.not_eq_false', Int.ofNat_lt, Int.ofNat_le, Int.ofNat_inj, not_true_eq_false, not_false_eq_true]; omega)))) |(refine WL.cond rfl (fun h=>?_) (fun h=>?_)))) |(refine lthen_n ?_) |(refine lthen_r ?_) |(refine lblock_n ?_) |(refine lblock_r ?_) |(refine lbackD_r ?_) |(refine LPost.r1 (r := .tmp 2) (.inl rfl) (Res1.tmp rfl) ?_) |(refine PureR.mk ?_)
     any_goals (exfalso;clear hK hX ih hwf;(simp_all [srOk] <;> omega);done)
     all_goals
       all_goals
         refine lbackD.of (i+1) ?_ ?_ ?_ ?_
         · first | omega |(refine ⟨?_,?_⟩;(focus (first | omega |(simp;omega)));(first | omega |(simp_all [hc2] <;> fail) |(simp_all [hc2];omega))) |(simp_all [hc2] <;> fail) |(simp_all [hc2];omega)
         · first | omega |(simp;omega) | simp_all
         · repeat' first
             | exact SubL.nil
             |(refine SubL.mk rfl ?_ ?_)
             | rfl
             |(simp [hc2] <;> fail)
             |(simp [hc2];omega)
         · first | rfl |(simp [hc2] <;> fail) |(simp [hc2];omega)
 rw [show srA i (q.src.drop i)=true by rw [List.drop_of_length_le hge2];rfl] at hc2
 rw [hc2,Bool.true_and] at hrq
 repeat' first |(refine kOps ?_;first |(refine LOps.nil ?_) |(refine LOps.ev tT_ok rfl ?_) |(refine kLoad ?_;first |(refine LOps.ans (AnsL.loadP tT_ok rfl rfl rfl rfl) ?_)) |(refine kLen ?_;first |(refine LOps.ans (AnsL.lenM tT_ok rfl rfl rfl) ?_)) |(refine kCallN 62 ?_;first |(refine LOps.ans (AnsL.callP rfl rfl rfl (ok62) (hX _)) ?_))) |(refine kWL ?_;first |(refine WL.seq ?_) |(refine WL.region (by kernel_rfl) ?_) |(refine WL.block ?_) |(refine WL.exit ?_) |(refine kCond ?_;first |(refine WL.condF' rfl ?_ ?_;(focus (first |(simp only [decide_eq_true_eq, decide_eq_false_iff_not, Bool.not_eq_true', Bool.not_eq_false', Int.ofNat_lt, Int.ofNat_le, Int.ofNat_inj, not_true_eq_false, not_false_eq_true]; omega)))))) |(refine lthen_n ?_) |(refine lthen_e ?_) |(refine lblock_e ?_) |(refine lbackD_e ?_)
 refine WL.loopD (fun i:Nat=>L.length - i) (fun i=>[(1,.ptr (s.next+0) 0),(7,.sl 0 (L.map EE.toV)),(8,.int .i64 (i:Int))]) (fun i=>[.var q.v.cells])
   (fun i=>i≤L.length∧L.all rgc=(L.drop i).all rgc) 1 0 ⟨Nat.zero_le _,rfl⟩ (fun _=>rfl) ⟨rfl,rfl,rfl,trivial⟩ rfl (fun i hi=>?_) (fun i hi=>?_)
 · simp [UnderK,UnderX,Own.under,V.under,V.underL,EQ.v,V.cells]
 obtain ⟨hi,hc3⟩:=hi
 rcases Nat.lt_or_ge i L.length with hlt | hge3
 · have hga : (L.map EE.toV)[i]? = some (EE.v L[i]) := by rw [List.getElem?_map, List.getElem?_eq_getElem hlt]; simp only [Option.map_some, EE.toV_eq]
   rw [all_drop hlt] at hc3
   have hD:=fun t=>hK L[i] (List.getElem_mem hlt) t
   generalize L[i]=x at hga hc3 hD
   cases hb:rgc x
   all_goals rw [hb] at hc3 hD
   · rw [Bool.false_and] at hc3
     rw [hc3] at hrq
     subst hrq
     repeat' first |(refine kOps ?_;first |(refine LOps.nil ?_) |(refine LOps.ev tT_ok rfl ?_) |(refine kLen ?_;first |(refine LOps.ans (AnsL.lenM tT_ok rfl rfl rfl) ?_)) |(refine kIdx ?_;first |(refine LOps.ans (AnsL.idx tT_ok rfl rfl rfl rfl rfl hga rfl rfl) ?_)) |(refine kCallN 35 ?_;first |(refine LOps.ans (AnsL.callP rfl rfl rfl (ok35) (hD _)) ?_))) |(refine kWL ?_;first |(refine WL.seq ?_) |(refine WL.region (by kernel_rfl) ?_) |(refine WL.block ?_) |(refine WL.skip ?_) |(refine WL.ret ?_) |(refine kCond ?_;first |(refine WL.condT rfl ?_) |(refine WL.condT' rfl ?_ ?_;(focus (first |(simp only [decide_eq_true_eq, decide_eq_false_iff_not, Bool.not_eq_true', Bool.not_eq_false', Int.ofNat_lt, Int.ofNat_le, Int.ofNat_inj, not_true_eq_false, not_false_eq_true]; omega)))))) |(refine lthen_n ?_) |(refine lthen_r ?_) |(refine lblock_r ?_) |(refine lbackD_r ?_) |(refine LPost.r1 (r := .tmp 2) (.inl rfl) (Res1.tmp rfl) ?_) |(refine PureR.mk ?_)
     rfl
   · rw [Bool.true_and] at hc3
     repeat' first |(refine kOps ?_;first |(refine LOps.nil ?_) |(refine LOps.ev tT_ok rfl ?_) |(refine kLen ?_;first |(refine LOps.ans (AnsL.lenM tT_ok rfl rfl rfl) ?_)) |(refine kBin ?_;first |(refine LOps.ans (AnsL.add rfl rfl ?_) ?_;(focus (constructor <;> omega)))) |(refine kIdx ?_;first |(refine LOps.ans (AnsL.idx tT_ok rfl rfl rfl rfl rfl hga rfl rfl) ?_)) |(refine kCallN 35 ?_;first |(refine LOps.ans (AnsL.callP rfl rfl rfl (ok35) (hD _)) ?_))) |(refine kWL ?_;first |(refine WL.seq ?_) |(refine WL.region (by kernel_rfl) ?_) |(refine WL.block ?_) |(refine WL.skip ?_) |(refine kCond ?_;first |(refine WL.condF rfl ?_) |(refine WL.condT' rfl ?_ ?_;(focus (first |(simp only [decide_eq_true_eq, decide_eq_false_iff_not, Bool.not_eq_true', Bool.not_eq_false', Int.ofNat_lt, Int.ofNat_le, Int.ofNat_inj, not_true_eq_false, not_false_eq_true]; omega)))))) |(refine lthen_n ?_) |(refine lblock_n ?_)
     all_goals
       refine lbackD.of (i+1) ?_ ?_ ?_ ?_
       · first | omega |(refine ⟨?_,?_⟩;(focus (first | omega |(simp;omega)));(first | omega |(simp_all [hc3] <;> fail) |(simp_all [hc3];omega))) |(simp_all [hc3] <;> fail) |(simp_all [hc3];omega)
       · first | omega |(simp;omega) | simp_all
       · repeat' first
           | exact SubL.nil
           |(refine SubL.mk rfl ?_ ?_)
           | rfl
           |(simp [hc3] <;> fail)
           |(simp [hc3];omega)
       · first | rfl |(simp [hc3] <;> fail) |(simp [hc3];omega)
 rw [show (L.drop i).all rgc=true by rw [List.drop_of_length_le hge3];rfl] at hc3
 rw [hc3] at hrq
 subst hrq
 repeat' first |(refine kOps ?_;first |(refine LOps.nil ?_) |(refine LOps.ev tT_ok rfl ?_) |(refine kLen ?_;first |(refine LOps.ans (AnsL.lenM tT_ok rfl rfl rfl) ?_))) |(refine kWL ?_;first |(refine WL.seq ?_) |(refine WL.region (by kernel_rfl) ?_) |(refine WL.exit ?_) |(refine WL.ret ?_) |(refine kCond ?_;first |(refine WL.condF' rfl ?_ ?_;(focus (first |(simp only [decide_eq_true_eq, decide_eq_false_iff_not, Bool.not_eq_true', Bool.not_eq_false', Int.ofNat_lt, Int.ofNat_le, Int.ofNat_inj, not_true_eq_false, not_false_eq_true]; omega)))))) |(refine lthen_n ?_) |(refine lthen_e ?_) |(refine lblock_e ?_) |(refine lbackD_e ?_) |(refine LPost.r1 (r := .tmp 2) (.inl rfl) (Res1.tmp rfl) ?_) |(refine PureR.mk ?_)
 rfl
theorem shpB_sub {e:EE} (h:shpB e=true):e.sub.length≤1:=by
 simp only [shpB,shpK,Bool.and_eq_true] at h
 have:=h.2.2
 (repeat' split at this) <;> first |(cases this;done) |(simp only [Bool.and_eq_true,decide_eq_true_eq] at this;omega)
noncomputable def rgs:List EQ→Bool
 | []=>true
 | q::_=>rgq q
set_option maxHeartbeats 1000000 in
theorem specl7Right_c (e:EE):wgt e.v≤1048576→RgC e:=by
 induction e using EE.ind with
 | h e ih1 ih2 =>
 intro hw
 have iK:=fun k (hk:k∈e.kids)=>ih1 k hk (Nat.le_trans (EE.wgt_kid hk) hw)
 have iQ:=fun q (hq:q∈e.sub) k (hk:k∈q.parts)=>ih2 q hq k hk (Nat.le_trans (Nat.le_trans (EQ.wgt_part hk) (EE.wgt_sub hq)) hw)
 have hm1:(e.kids.map EE.toV).length=e.kids.length:=List.length_map ..
 have hm2:(e.sub.map EE.queryV).length=e.sub.length:=List.length_map ..
 have hkl:e.kids.length≤1048576∧e.sub.length≤1048576:=by
   have h1:=EE.wgt_eq e
   have h2:=wgt_len EE.toV e.kids
   have h3:=wgt_len EE.queryV e.sub
   omega
 refine ⟨shpB e&&(e.kids.all rgc&&rgs e.sub),fun h=>?_,fun s=>?_⟩
 · rw [Bool.and_eq_true, Bool.and_eq_true] at h
   obtain ⟨h1,h2,h3⟩:=h
   have h4:∀ q∈e.sub,rgq q=true:=by
     have:=shpB_sub h1
     intro q hq
     generalize e.sub=l at this hq h3
     match l,this,hq,h3 with
     | [q'],_,hq,h3 =>
       rw [List.mem_singleton] at hq
       subst hq
       exact h3
   have h5:=fun q (hq:q∈e.sub)=>h4 q hq
   simp only [rgq,Bool.and_eq_true] at h5
   exact .mk e h1 (fun k hk=>(rgc_spec (iK k hk)).1 (List.all_eq_true.1 h2 k hk)) (fun q hq=>⟨(h5 q hq).1,(h5 q hq).2.1,(h5 q hq).2.2.1⟩)
     fun q hq k hk=>(rgc_spec (iQ q hq k (exprs_parts hk))).1 (List.all_eq_true.1 (h5 q hq).2.2.2 k hk)
 have hS:=fun t=>specl7Shape_b e hkl t
 have hsub := @shpB_sub e
 cases hs:shpB e
 · rw [hs] at hS
   refine LCalls.pure Try.func35 rfl (by kernel_rfl) (by simp) ?_
   repeat' first |(refine kOps ?_;first |(refine LOps.nil ?_) |(refine LOps.ev tT_ok rfl ?_) |(refine kBox ?_;refine LOps.box rfl rfl rfl rfl ?_) |(refine kLoad ?_;first |(refine LOps.ans (AnsL.loadP tT_ok rfl rfl rfl rfl) ?_)) |(refine kCallN 63 ?_;first |(refine LOps.ans (AnsL.callP rfl rfl rfl (ok63) (hS _)) ?_))) |(refine kWL ?_;first |(refine WL.seq ?_) |(refine WL.region (by kernel_rfl) ?_) |(refine WL.ret ?_) |(refine kCond ?_;first |(refine WL.condT rfl ?_))) |(refine lthen_n ?_) |(refine lthen_r ?_) |(refine LPost.r1 (r := .tmp 2) (.inl rfl) (Res1.tmp rfl) ?_) |(refine PureR.mk ?_)
   rfl
 rw [hs] at hS
 have hsub:=hsub hs
 rw [Bool.true_and]
 obtain ⟨R,hR⟩:∃ R,R=(e.kids.all rgc&&rgs e.sub):=⟨_,rfl⟩
 rw [← hR]
 refine LCalls.pure Try.func35 rfl (by kernel_rfl) (by simp) ?_
 repeat' first |(refine kOps ?_;first |(refine LOps.nil ?_) |(refine LOps.ev tT_ok rfl ?_) |(refine kBox ?_;refine LOps.box rfl rfl rfl rfl ?_) |(refine kLoad ?_;first |(refine LOps.ans (AnsL.loadP tT_ok rfl rfl rfl rfl) ?_)) |(refine kCallN 63 ?_;first |(refine LOps.ans (AnsL.callP rfl rfl rfl (ok63) (hS _)) ?_))) |(refine kWL ?_;first |(refine WL.seq ?_) |(refine WL.region (by kernel_rfl) ?_) |(refine WL.block ?_) |(refine WL.skip ?_) |(refine kCond ?_;first |(refine WL.condF rfl ?_))) |(refine lthen_n ?_)
 refine WL.loopD (fun i:Nat=>e.kids.length - i) (fun i=>[(1,.ptr (s.next+0) 0),(3,.int .i64 (i:Int))]) (fun i=>[.var e.v.cells])
   (fun i=>i≤e.kids.length∧e.kids.all rgc=(e.kids.drop i).all rgc) 1 0 ⟨Nat.zero_le _,rfl⟩ (fun _=>rfl) ⟨rfl,rfl,trivial⟩ rfl (fun i hi=>?_) (fun i hi=>?_)
 · simp [UnderK,UnderX,Own.under,V.under,V.underL,EE.v,V.cells]
 obtain ⟨hi,hc⟩:=hi
 rcases Nat.lt_or_ge i e.kids.length with hlt | hge
 · have hga : (e.kids.map EE.toV)[i]? = some (EE.v e.kids[i]) := by rw [List.getElem?_map, List.getElem?_eq_getElem hlt]; simp only [Option.map_some, EE.toV_eq]
   rw [all_drop hlt] at hc
   have hD:=(rgc_spec (iK e.kids[i] (List.getElem_mem hlt))).2
   generalize e.kids[i]=x at hga hc hD
   cases hb:rgc x
   all_goals rw [hb] at hc hD
   · rw [Bool.false_and] at hc
     rw [hc,Bool.false_and] at hR
     subst hR
     repeat' first |(refine kOps ?_;first |(refine LOps.nil ?_) |(refine LOps.ev tT_ok rfl ?_) |(refine kLoad ?_;first |(refine LOps.ans (AnsL.loadP tT_ok rfl rfl rfl rfl) ?_)) |(refine kLen ?_;first |(refine LOps.ans (AnsL.lenM tT_ok rfl rfl rfl) ?_)) |(refine kIdx ?_;first |(refine LOps.ans (AnsL.idx tT_ok rfl rfl rfl rfl rfl hga rfl rfl) ?_)) |(refine kCallN 35 ?_;first |(refine LOps.ans (AnsL.callP rfl rfl rfl (ok35) (hD _)) ?_))) |(refine kWL ?_;first |(refine WL.seq ?_) |(refine WL.region (by kernel_rfl) ?_) |(refine WL.block ?_) |(refine WL.skip ?_) |(refine WL.ret ?_) |(refine kCond ?_;first |(refine WL.condT rfl ?_) |(refine WL.condT' rfl ?_ ?_;(focus (first |(simp only [decide_eq_true_eq, decide_eq_false_iff_not, Bool.not_eq_true', Bool.not_eq_false', Int.ofNat_lt, Int.ofNat_le, Int.ofNat_inj, not_true_eq_false, not_false_eq_true]; omega)))))) |(refine lthen_n ?_) |(refine lthen_r ?_) |(refine lblock_r ?_) |(refine lbackD_r ?_) |(refine LPost.r1 (r := .tmp 2) (.inl rfl) (Res1.tmp rfl) ?_) |(refine PureR.mk ?_)
     rfl
   · rw [Bool.true_and] at hc
     repeat' first |(refine kOps ?_;first |(refine LOps.nil ?_) |(refine LOps.ev tT_ok rfl ?_) |(refine kLoad ?_;first |(refine LOps.ans (AnsL.loadP tT_ok rfl rfl rfl rfl) ?_)) |(refine kLen ?_;first |(refine LOps.ans (AnsL.lenM tT_ok rfl rfl rfl) ?_)) |(refine kBin ?_;first |(refine LOps.ans (AnsL.add rfl rfl ?_) ?_;(focus (constructor <;> omega)))) |(refine kIdx ?_;first |(refine LOps.ans (AnsL.idx tT_ok rfl rfl rfl rfl rfl hga rfl rfl) ?_)) |(refine kCallN 35 ?_;first |(refine LOps.ans (AnsL.callP rfl rfl rfl (ok35) (hD _)) ?_))) |(refine kWL ?_;first |(refine WL.seq ?_) |(refine WL.region (by kernel_rfl) ?_) |(refine WL.block ?_) |(refine WL.skip ?_) |(refine kCond ?_;first |(refine WL.condF rfl ?_) |(refine WL.condT' rfl ?_ ?_;(focus (first |(simp only [decide_eq_true_eq, decide_eq_false_iff_not, Bool.not_eq_true', Bool.not_eq_false', Int.ofNat_lt, Int.ofNat_le, Int.ofNat_inj, not_true_eq_false, not_false_eq_true]; omega)))))) |(refine lthen_n ?_) |(refine lblock_n ?_)
     all_goals
       refine lbackD.of (i+1) ?_ ?_ ?_ ?_
       · first | omega |(refine ⟨?_,?_⟩;(focus (first | omega |(simp;omega)));(first | omega |(simp_all [hc] <;> fail) |(simp_all [hc];omega))) |(simp_all [hc] <;> fail) |(simp_all [hc];omega)
       · first | omega |(simp;omega) | simp_all
       · repeat' first
           | exact SubL.nil
           |(refine SubL.mk rfl ?_ ?_)
           | rfl
           |(simp [hc] <;> fail)
           |(simp [hc];omega)
       · first | rfl |(simp [hc] <;> fail) |(simp [hc];omega)
 rw [show (e.kids.drop i).all rgc=true by rw [List.drop_of_length_le hge];rfl] at hc
 rw [hc,Bool.true_and] at hR
 by_cases h0:e.sub.length=0
 · have h0' : (e.sub.length : Int) = 0 := by omega
   rw [List.length_eq_zero_iff.1 h0] at hR
   repeat' first |(refine kOps ?_;first |(refine LOps.nil ?_) |(refine kG ?_;first |(refine LOps.gF rfl rfl rfl ?_) |(refine LOps.gD true rfl rfl rfl ?_ ?_;(focus (first |(exact decide_eq_true (by assumption)))))) |(refine LOps.ev tT_ok rfl ?_) |(refine kLoad ?_;first |(refine LOps.ans (AnsL.loadP tT_ok rfl rfl rfl rfl) ?_)) |(refine kLen ?_;first |(refine LOps.ans (AnsL.lenM tT_ok rfl rfl rfl) ?_))) |(refine kWL ?_;first |(refine WL.seq ?_) |(refine WL.region (by kernel_rfl) ?_) |(refine WL.exit ?_) |(refine WL.ret ?_) |(refine kCond ?_;first |(refine WL.condF' rfl ?_ ?_;(focus (first |(simp only [decide_eq_true_eq, decide_eq_false_iff_not, Bool.not_eq_true', Bool.not_eq_false', Int.ofNat_lt, Int.ofNat_le, Int.ofNat_inj, not_true_eq_false, not_false_eq_true]; omega)))))) |(refine lthen_n ?_) |(refine lthen_e ?_) |(refine lblock_e ?_) |(refine lbackD_e ?_) |(refine LPost.r1 (r := .tmp 2) (.inl rfl) (Res1.tmp rfl) ?_) |(refine PureR.mk ?_)
   rw [hR]
   rfl
 · have h1 : e.sub.length = 1 := by omega
   obtain ⟨q,hq⟩:=List.length_eq_one_iff.1 h1
   have h1':(e.sub.length:Int)=1:=by omega
   have hga:(e.sub.map EE.queryV)[0]?=some (EQ.v q):=by rw [hq,List.map_cons,EE.queryV_eq];rfl
   have hqm:q∈e.sub:=by rw [hq];exact List.mem_singleton.2 rfl
   have hQ:=fun t=>specl7RightQuery_b q (Nat.le_trans (EE.wgt_sub hqm) hw) (iQ q hqm) t
   rw [hq] at hR
   have hR':rgq q=R:=hR.symm
   rw [hR'] at hQ
   repeat' first |(refine kOps ?_;first |(refine LOps.nil ?_) |(refine kG ?_;first |(refine LOps.gT rfl rfl rfl ?_) |(refine LOps.gD false rfl rfl rfl ?_ ?_;(focus (first |(simp only [decide_eq_true_eq, decide_eq_false_iff_not, Bool.not_eq_true', Bool.not_eq_false', Int.ofNat_lt, Int.ofNat_le, Int.ofNat_inj, not_true_eq_false, not_false_eq_true]; omega))))) |(refine LOps.ev tT_ok rfl ?_) |(refine kLoad ?_;first |(refine LOps.ans (AnsL.loadP tT_ok rfl rfl rfl rfl) ?_)) |(refine kLen ?_;first |(refine LOps.ans (AnsL.lenM tT_ok rfl rfl rfl) ?_)) |(refine kIdx ?_;first |(refine LOps.ans (AnsL.idx tT_ok rfl rfl rfl rfl rfl hga rfl rfl) ?_)) |(refine kCallN 64 ?_;first |(refine LOps.ans (AnsL.callP rfl rfl rfl (ok64) (hQ _)) ?_))) |(refine kWL ?_;first |(refine WL.seq ?_) |(refine WL.region (by kernel_rfl) ?_) |(refine WL.exit ?_) |(refine WL.ret ?_) |(refine kCond ?_;first |(refine WL.condF' rfl ?_ ?_;(focus (first |(simp only [decide_eq_true_eq, decide_eq_false_iff_not, Bool.not_eq_true', Bool.not_eq_false', Int.ofNat_lt, Int.ofNat_le, Int.ofNat_inj, not_true_eq_false, not_false_eq_true]; omega)))))) |(refine lthen_n ?_) |(refine lthen_e ?_) |(refine lblock_e ?_) |(refine lbackD_e ?_) |(refine LPost.r1 (r := .tmp 2) (.inl rfl) (Res1.tmp rfl) ?_) |(refine PureR.mk ?_)
   all_goals first
     | rfl
     | simp_all
theorem specExprOk_c (e:EE) (hw:wgt e.v≤1048576):∃ c:Bool,(c=true→Rg e)∧∀ s,VCalls Try.prog 13 [e.v] s (fun v s'=>v = .bool c∧s'=s):=by
 obtain ⟨n,hn,hL⟩:=specl7Left_c e hw 200 (by omega) (by omega)
 obtain ⟨b,hb,hG⟩:=specl7Right_c e hw
 obtain ⟨d,hd,hD⟩:=specDepthOf_c e hw
 refine ⟨(decide (n≥0)&&b)&&decide ((d:Int)≤24),fun h=>?_,fun s=>?_⟩
 · simp only [Bool.and_eq_true] at h
   exact hb h.1.2
 cases b
 all_goals
   refine LCalls.pure Try.func13 rfl (by kernel_rfl) (by simp) ?_
   repeat' first |(refine kOps ?_;first |(refine LOps.nil ?_) |(refine kG ?_;first |(refine LOps.gT rfl rfl rfl ?_) |(refine LOps.gF rfl rfl rfl ?_) |(refine LOps.gC rfl rfl rfl (fun h=>?_) (fun h=>?_))) |(refine LOps.ev tT_ok rfl ?_) |(refine kBox ?_;refine LOps.box rfl rfl rfl rfl ?_) |(refine kLoad ?_;first |(refine LOps.ans (AnsL.loadP tT_ok rfl rfl rfl rfl) ?_)) |(refine kCallN 34 ?_;first |(refine LOps.ans (AnsL.callP rfl rfl rfl (ok34) (hL _)) ?_)) |(refine kCallN 35 ?_;first |(refine LOps.ans (AnsL.callP rfl rfl rfl (ok35) (hG _)) ?_)) |(refine kCallN 36 ?_;first |(refine LOps.ans (AnsL.callP rfl rfl rfl (ok36) (hD _)) ?_))) |(refine kWL ?_;first |(refine WL.seq ?_) |(refine WL.region (by kernel_rfl) ?_) |(refine WL.ret ?_)) |(refine lthen_n ?_) |(refine LPost.r1 (r := .tmp 2) (.inl rfl) (Res1.tmp rfl) ?_) |(refine PureR.mk ?_)
   all_goals (show V.bool _=_;simp_all <;> omega)
end Go.Proofs.Ytikghanejpigjaa
