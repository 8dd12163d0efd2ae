/-
 How many nodes are left behind a query's tree, of the reference: some number, the same at every call. Own work; no condition.
-/
import Derived.Test.YtikghanejpigjaaDEOk2
namespace Go.Proofs.Ytikghanejpigjaa
open Go
set_option linter.unusedSimpArgs false
set_option linter.unusedVariables false
def Lf1 (e:EE) (a:Int):Prop:=∃ n:Int,(-1≤n∧n≤a)∧∀ s,VCalls Try.prog 34 [e.v,.int .i64 a] s (fun v s'=>v = .int .i64 n∧s'=s)
def LfC (e:EE):Prop:=∀ a:Int,0≤a→a≤1000→Lf1 e a
open Classical in
noncomputable def lfc (e:EE) (a:Int):Int:=if h:Lf1 e a then h.choose else 0
theorem lfc_spec {e:EE} {a:Int} (h:Lf1 e a):(-1≤lfc e a∧lfc e a≤a)∧∀ s,VCalls Try.prog 34 [e.v,.int .i64 a] s (fun v s'=>v = .int .i64 (lfc e a)∧s'=s):=by
 unfold lfc
 rw [dif_pos h]
 exact h.choose_spec
noncomputable def lfs:List EE→Int→Int
 | [],a=>a
 | k::ks,a=>if 0≤a then lfs ks (lfc k a) else a
noncomputable def lfq:List EQ→Int→Int
 | [],a=>a
 | q::qs,a=>if 0≤a then lfq qs (lfs q.exprs a) else a
theorem lfs_neg (l:List EE) {a:Int} (h:¬ 0≤a):lfs l a=a:=by
 cases l with
 | nil=>rfl
 | cons k l=>rw [lfs,if_neg h]
theorem lfq_neg (l:List EQ) {a:Int} (h:¬ 0≤a):lfq l a=a:=by
 cases l with
 | nil=>rfl
 | cons k l=>rw [lfq,if_neg h]
theorem lfs_drop {l:List EE} {i:Nat} (h:i<l.length) {a:Int} (ha:0≤a):lfs (l.drop i) a=lfs (l.drop (i+1)) (lfc l[i] a):=by
 rw [List.drop_eq_getElem_cons h,lfs,if_pos ha]
theorem lfq_drop {l:List EQ} {i:Nat} (h:i<l.length) {a:Int} (ha:0≤a):lfq (l.drop i) a=lfq (l.drop (i+1)) (lfs l[i].exprs a):=by
 rw [List.drop_eq_getElem_cons h,lfq,if_pos ha]
theorem lfs_bnd:∀ (l:List EE) (a:Int), -1≤a→a≤1000→(∀ k∈l,LfC k) → -1≤lfs l a∧lfs l a≤a
 | [],a,h1,h2,_=>⟨h1,Int.le_refl _⟩
 | k::l,a,h1,h2,h=>by
   rw [lfs]
   split
   · rename_i h0
     have hk:=(lfc_spec (h k (by simp) a h0 h2)).1
     have:=lfs_bnd l (lfc k a) hk.1 (by omega) fun y hy=>h y (by simp [hy])
     omega
   · omega
theorem lfq_bnd:∀ (l:List EQ) (a:Int), -1≤a→a≤1000→(∀ q∈l,∀ k∈q.exprs,LfC k) → -1≤lfq l a∧lfq l a≤a
 | [],a,h1,h2,_=>⟨h1,Int.le_refl _⟩
 | q::l,a,h1,h2,h=>by
   rw [lfq]
   split
   · have hk := lfs_bnd q.exprs a h1 h2 (h q (by simp))
     have:=lfq_bnd l (lfs q.exprs a) hk.1 (by omega) fun y hy=>h y (by simp [hy])
     omega
   · omega
set_option maxHeartbeats 1000000 in
theorem specl7Left_c (e:EE):wgt e.v≤1048576→LfC e:=by
 induction e using EE.ind with
 | h e ih1 ih2 =>
 intro hw a ha0 ha1
 have iK:=fun k (hk:k∈e.kids)=>ih1 k hk (Nat.le_trans (EE.wgt_kid hk) hw)
 have iQ:=fun q (hq:q∈e.sub) k (hk:k∈q.exprs)=>ih2 q hq k (exprs_parts hk) (Nat.le_trans (Nat.le_trans (EQ.wgt_part (exprs_parts hk)) (EE.wgt_sub hq)) hw)
 have b1:=lfs_bnd e.kids (a - 1) (by omega) (by omega) iK
 have b2:=lfq_bnd e.sub (lfs e.kids (a - 1)) b1.1 (by omega) iQ
 refine ⟨lfq e.sub (lfs e.kids (a - 1)),⟨b2.1,by omega⟩,fun s=>?_⟩
 have hm1:(e.kids.map EE.toV).length=e.kids.length:=List.length_map ..
 have hm2:(e.sub.map EE.queryV).length=e.sub.length:=List.length_map ..
 have hkl:e.kids.length≤1048576∧e.sub.length≤1048576:=by
   have h1:=EE.wgt_eq e
   have h2:=wgt_len EE.toV e.kids
   have h3:=wgt_len EE.queryV e.sub
   omega
 obtain ⟨R,hR⟩:∃ R,R=lfq e.sub (lfs e.kids (a - 1)):=⟨_,rfl⟩
 rw [← hR]
 refine LCalls.pure Try.func34 rfl (by kernel_rfl) (by simp) ?_
 repeat' first |(refine kOps ?_;first |(refine LOps.nil ?_) |(refine LOps.ev tT_ok rfl ?_) |(refine kBox ?_;refine LOps.box rfl rfl rfl rfl ?_) |(refine kBin ?_;first |(refine LOps.ans (AnsL.sub rfl rfl ?_) ?_;(focus (constructor <;> omega))))) |(refine kWL ?_;first |(refine WL.seq ?_) |(refine WL.region (by kernel_rfl) ?_) |(refine WL.block ?_)) |(refine lthen_n ?_)
 refine WL.loopD (fun x:Nat × Int=>e.kids.length - x.1) (fun x=>[(1,.int .i64 x.2),(2,.ptr (s.next+0) 0),(5,.int .i64 (x.1:Int))]) (fun x=>[.var e.v.cells]) (fun x=>x.1≤e.kids.length∧lfs e.kids (a - 1)=lfs (e.kids.drop x.1) x.2 ∧ -1≤x.2∧x.2≤1000) 1 (0,a - 1) ⟨Nat.zero_le _,rfl,by dsimp only;omega,by dsimp only;omega⟩ (fun _=>rfl) ⟨rfl,rfl,rfl,trivial⟩ rfl (fun x hx=>?_) (fun x hx=>?_)
 · simp [UnderK,UnderX,Own.under,V.under,V.underL,EE.v,V.cells]
 obtain ⟨i,c⟩:=x
 obtain ⟨hi,hc,hc0,hc1⟩:=hx
 dsimp only at hi hc hc0 hc1 ⊢
 by_cases hgo:i<e.kids.length∧0≤c
 · obtain ⟨hlt, h0⟩ := hgo
   have hga:(e.kids.map EE.toV)[i]?=some (EE.v e.kids[i]):=by rw [List.getElem?_map,List.getElem?_eq_getElem hlt];simp only [Option.map_some,EE.toV_eq]
   rw [lfs_drop hlt h0] at hc
   have hD:=lfc_spec (iK e.kids[i] (List.getElem_mem hlt) c h0 hc1)
   generalize e.kids[i]=x at hga hc hD
   obtain ⟨hD1,hD2⟩:=hD
   generalize lfc x c=d at hc hD1 hD2
   have h0':c≥0:=h0
   repeat' first |(refine kOps ?_;first |(refine LOps.nil ?_) |(refine kG ?_;first |(refine LOps.gT rfl rfl rfl ?_) |(refine LOps.gD true rfl rfl rfl ?_ ?_;(focus (first |(simp <;> omega))))) |(refine LOps.ev tT_ok rfl ?_) |(refine kLoad ?_;first |(refine LOps.ans (AnsL.loadP tT_ok rfl rfl rfl rfl) ?_)) |(refine kLen ?_;first |(refine LOps.ans (AnsL.lenM tT_ok rfl rfl rfl) ?_)) |(refine kBin ?_;first |(refine LOps.ans (AnsL.add rfl rfl ?_) ?_;(focus (constructor <;> omega)))) |(refine kIdx ?_;first |(refine LOps.ans (AnsL.idx tT_ok rfl rfl rfl rfl rfl hga rfl rfl) ?_)) |(refine kCallN 34 ?_;first |(refine LOps.ans (AnsL.callP rfl rfl rfl (ok34) (hD2 _)) ?_))) |(refine kWL ?_;first |(refine WL.seq ?_) |(refine WL.region (by kernel_rfl) ?_) |(refine WL.block ?_) |(refine WL.skip ?_) |(refine kCond ?_;first |(refine WL.condT' rfl ?_ ?_;(focus (first |(exact decide_eq_true (by assumption))))))) |(refine lthen_n ?_) |(refine lblock_n ?_)
   refine lbackD.of (i+1,d) ⟨hlt,hc,hD1.1,by dsimp only;omega⟩ (by dsimp only;omega) ?_ ?_
   · repeat' first | exact SubL.nil |(refine SubL.mk rfl ?_ ?_) | rfl |(simp <;> fail) |(simp;omega)
   · simp [EE.v,V.cells]
 have hc2:lfs (e.kids.drop i) c=c:=by
   by_cases h0:0≤c
   · rw [List.drop_of_length_le (by omega)];rfl
   · exact lfs_neg _ h0
 rw [hc2] at hc
 rw [hc] at hR
 have hc3:¬ (i<e.kids.length)∨(i<e.kids.length∧¬ c≥0):=by
   by_cases h:i<e.kids.length
   · exact .inr ⟨h,fun h0=>hgo ⟨h,h0⟩⟩
   · exact .inl h
 rcases hc3 with hlt | ⟨hlt,h0'⟩
 · skip
   repeat' first |(refine kOps ?_;first |(refine LOps.nil ?_) |(refine kG ?_;first |(refine LOps.gF rfl rfl rfl ?_) |(refine LOps.gD false rfl rfl rfl ?_ ?_;(focus (first |(simp <;> omega))))) |(refine LOps.ev tT_ok rfl ?_) |(refine kLoad ?_;first |(refine LOps.ans (AnsL.loadP tT_ok rfl rfl rfl rfl) ?_)) |(refine kLen ?_;first |(refine LOps.ans (AnsL.lenM tT_ok rfl rfl rfl) ?_))) |(refine kWL ?_;first |(refine WL.seq ?_) |(refine WL.region (by kernel_rfl) ?_) |(refine WL.block ?_) |(refine WL.exit ?_) |(refine kCond ?_;first |(refine WL.condF rfl ?_))) |(refine lthen_n ?_) |(refine lthen_e ?_) |(refine lblock_e ?_) |(refine lbackD_e ?_)
   refine WL.loopD (fun x:Nat × Int=>e.sub.length - x.1) (fun x=>[(1,.int .i64 x.2),(2,.ptr (s.next+0) 0),(6,.int .i64 (x.1:Int))]) (fun x=>[.var e.v.cells]) (fun x=>x.1≤e.sub.length∧lfq e.sub c=lfq (e.sub.drop x.1) x.2 ∧ -1≤x.2∧x.2≤1000) 1 (0,c) ⟨Nat.zero_le _,rfl,hc0,hc1⟩ (fun _=>rfl) ⟨rfl,rfl,rfl,trivial⟩ rfl (fun x hx=>?_) (fun x hx=>?_)
   · simp [UnderK,UnderX,Own.under,V.under,V.underL,EE.v,V.cells]
   obtain ⟨j,d⟩:=x
   obtain ⟨hj,hd,hd0,hd1⟩:=hx
   dsimp only at hj hd hd0 hd1 ⊢
   by_cases hgo2:j<e.sub.length∧0≤d
   · obtain ⟨hltj, hz⟩ := hgo2
     have hga:(e.sub.map EE.queryV)[j]?=some (EQ.v e.sub[j]):=by rw [List.getElem?_map,List.getElem?_eq_getElem hltj];simp only [Option.map_some,EE.queryV_eq]
     rw [lfq_drop hltj hz] at hd
     have hL:=exprs_len e.sub[j]
     have hX:=fun t=>specl7Exprs_v e.sub[j] (Nat.le_trans (EE.wgt_sub (List.getElem_mem hltj)) hw) t
     have hK:=iQ e.sub[j] (List.getElem_mem hltj)
     have hwq:=Nat.le_trans (EE.wgt_sub (List.getElem_mem hltj)) hw
     generalize e.sub[j]=q at hga hd hX hK hwq hL
     generalize q.exprs=L at hd hX hK hL
     have hz':d≥0:=hz
     have hml:(L.map EE.toV).length=L.length:=List.length_map ..
     repeat' first |(refine kOps ?_;first |(refine LOps.nil ?_) |(refine kG ?_;first |(refine LOps.gT rfl rfl rfl ?_) |(refine LOps.gD true rfl rfl rfl ?_ ?_;(focus (first |(simp <;> omega))))) |(refine LOps.ev tT_ok rfl ?_) |(refine kLoad ?_;first |(refine LOps.ans (AnsL.loadP tT_ok rfl rfl rfl rfl) ?_)) |(refine kLen ?_;first |(refine LOps.ans (AnsL.lenM tT_ok rfl rfl rfl) ?_)) |(refine kIdx ?_;first |(refine LOps.ans (AnsL.idx tT_ok rfl rfl rfl rfl rfl hga rfl rfl) ?_)) |(refine kCallN 62 ?_;first |(refine LOps.ans (AnsL.callP rfl rfl rfl (ok62) (hX _)) ?_))) |(refine kWL ?_;first |(refine WL.seq ?_) |(refine WL.region (by kernel_rfl) ?_) |(refine WL.block ?_) |(refine WL.skip ?_) |(refine kCond ?_;first |(refine WL.condT' rfl ?_ ?_;(focus (first |(exact decide_eq_true (by assumption))))))) |(refine lthen_n ?_)
     refine WL.loopD (fun x:Nat × Int=>L.length - x.1) (fun x=>[(1,.int .i64 x.2),(2,.ptr (s.next+0) 0),(6,.int .i64 (j:Int)),(7,.sl 0 (L.map EE.toV)),(8,.int .i64 (x.1:Int))]) (fun x=>[.var e.v.cells]) (fun x=>x.1≤L.length∧lfs L d=lfs (L.drop x.1) x.2 ∧ -1≤x.2∧x.2≤1000) 1 (0,d) ⟨Nat.zero_le _,rfl,hd0,hd1⟩ (fun _=>rfl) ⟨rfl,rfl,rfl,rfl,rfl,trivial⟩ rfl (fun x hx=>?_) (fun x hx=>?_)
     · simp [UnderK,UnderX,Own.under,V.under,V.underL,EE.v,V.cells]
     obtain ⟨k,b⟩:=x
     obtain ⟨hk,hb,hb0,hb1⟩:=hx
     dsimp only at hk hb hb0 hb1 ⊢
     by_cases hgo3:k<L.length∧0≤b
     · obtain ⟨hltk, hy⟩ := hgo3
       have hgb:(L.map EE.toV)[k]?=some (EE.v L[k]):=by rw [List.getElem?_map,List.getElem?_eq_getElem hltk];simp only [Option.map_some,EE.toV_eq]
       rw [lfs_drop hltk hy] at hb
       have hD:=lfc_spec (hK L[k] (List.getElem_mem hltk) b hy hb1)
       generalize L[k]=x at hgb hb hD
       obtain ⟨hD1,hD2⟩:=hD
       generalize lfc x b=r at hb hD1 hD2
       have hy':b≥0:=hy
       repeat' first |(refine kOps ?_;first |(refine LOps.nil ?_) |(refine kG ?_;first |(refine LOps.gT rfl rfl rfl ?_) |(refine LOps.gD true rfl rfl rfl ?_ ?_;(focus (first |(simp <;> omega))))) |(refine LOps.ev tT_ok rfl ?_) |(refine kLen ?_;first |(refine LOps.ans (AnsL.lenM tT_ok rfl rfl rfl) ?_)) |(refine kBin ?_;first |(refine LOps.ans (AnsL.add rfl rfl ?_) ?_;(focus (constructor <;> omega)))) |(refine kIdx ?_;first |(refine LOps.ans (AnsL.idx tT_ok rfl rfl rfl rfl rfl hgb rfl rfl) ?_)) |(refine kCallN 34 ?_;first |(refine LOps.ans (AnsL.callP rfl rfl rfl (ok34) (hD2 _)) ?_))) |(refine kWL ?_;first |(refine WL.seq ?_) |(refine WL.region (by kernel_rfl) ?_) |(refine WL.block ?_) |(refine WL.skip ?_) |(refine kCond ?_;first |(refine WL.condT' rfl ?_ ?_;(focus (first |(exact decide_eq_true (by assumption))))))) |(refine lthen_n ?_) |(refine lblock_n ?_)
       refine lbackD.of (k+1,r) ⟨hltk,hb,hD1.1,by dsimp only;omega⟩ (by dsimp only;omega) ?_ ?_
       · repeat' first | exact SubL.nil |(refine SubL.mk rfl ?_ ?_) | rfl |(simp <;> fail) |(simp;omega)
       · simp [EE.v,V.cells]
     have hb2:lfs (L.drop k) b=b:=by
       by_cases hy:0≤b
       · rw [List.drop_of_length_le (by omega)];rfl
       · exact lfs_neg _ hy
     rw [hb2] at hb
     rw [hb] at hd
     have hb3:¬ (k<L.length)∨(k<L.length∧¬ b≥0):=by
       by_cases h:k<L.length
       · exact .inr ⟨h,fun h0=>hgo3 ⟨h,h0⟩⟩
       · exact .inl h
     rcases hb3 with hltk | ⟨hltk,hy'⟩
     · skip
       repeat' first |(refine kOps ?_;first |(refine LOps.nil ?_) |(refine kG ?_;first |(refine LOps.gF rfl rfl rfl ?_) |(refine LOps.gD false rfl rfl rfl ?_ ?_;(focus (first |(simp <;> omega))))) |(refine LOps.ev tT_ok rfl ?_) |(refine kLen ?_;first |(refine LOps.ans (AnsL.lenM tT_ok rfl rfl rfl) ?_)) |(refine kBin ?_;first |(refine LOps.ans (AnsL.add rfl rfl ?_) ?_;(focus (constructor <;> omega))))) |(refine kWL ?_;first |(refine WL.seq ?_) |(refine WL.region (by kernel_rfl) ?_) |(refine WL.exit ?_) |(refine kCond ?_;first |(refine WL.condF rfl ?_))) |(refine lthen_n ?_) |(refine lthen_e ?_) |(refine lblock_n ?_) |(refine lblock_e ?_) |(refine lbackD_e ?_)
       refine lbackD.of (j+1,b) ⟨hltj,hd,hb0,hb1⟩ (by dsimp only;omega) ?_ ?_
       · repeat' first | exact SubL.nil |(refine SubL.mk rfl ?_ ?_) | rfl |(simp <;> fail) |(simp;omega)
       · simp [EE.v,V.cells]
     · skip
       repeat' first |(refine kOps ?_;first |(refine LOps.nil ?_) |(refine kG ?_;first |(refine LOps.gT rfl rfl rfl ?_) |(refine LOps.gD true rfl rfl rfl ?_ ?_;(focus (first |(simp <;> omega))))) |(refine LOps.ev tT_ok rfl ?_) |(refine kLen ?_;first |(refine LOps.ans (AnsL.lenM tT_ok rfl rfl rfl) ?_)) |(refine kBin ?_;first |(refine LOps.ans (AnsL.add rfl rfl ?_) ?_;(focus (constructor <;> omega))))) |(refine kWL ?_;first |(refine WL.seq ?_) |(refine WL.region (by kernel_rfl) ?_) |(refine WL.exit ?_) |(refine kCond ?_;first |(refine WL.condF' rfl ?_ ?_;(focus (first |(exact decide_eq_false (by assumption))))))) |(refine lthen_n ?_) |(refine lthen_e ?_) |(refine lblock_n ?_) |(refine lblock_e ?_) |(refine lbackD_e ?_)
       refine lbackD.of (j+1,b) ⟨hltj,hd,hb0,hb1⟩ (by dsimp only;omega) ?_ ?_
       · repeat' first | exact SubL.nil |(refine SubL.mk rfl ?_ ?_) | rfl |(simp <;> fail) |(simp;omega)
       · simp [EE.v,V.cells]
   have hd2:lfq (e.sub.drop j) d=d:=by
     by_cases hz:0≤d
     · rw [List.drop_of_length_le (by omega)];rfl
     · exact lfq_neg _ hz
   rw [hd2] at hd
   rw [hd] at hR
   subst R
   have hd3:¬ (j<e.sub.length)∨(j<e.sub.length∧¬ d≥0):=by
     by_cases h:j<e.sub.length
     · exact .inr ⟨h,fun h0=>hgo2 ⟨h,h0⟩⟩
     · exact .inl h
   rcases hd3 with hltj | ⟨hltj,hz'⟩
   · skip
     repeat' first |(refine kOps ?_;first |(refine LOps.nil ?_) |(refine kG ?_;first |(refine LOps.gF rfl rfl rfl ?_) |(refine LOps.gD false rfl rfl rfl ?_ ?_;(focus (first |(simp <;> omega))))) |(refine LOps.ev tT_ok rfl ?_) |(refine kLoad ?_;first |(refine LOps.ans (AnsL.loadP tT_ok rfl rfl rfl rfl) ?_)) |(refine kLen ?_;first |(refine LOps.ans (AnsL.lenM tT_ok rfl rfl rfl) ?_))) |(refine kWL ?_;first |(refine WL.seq ?_) |(refine WL.region (by kernel_rfl) ?_) |(refine WL.exit ?_) |(refine WL.ret ?_) |(refine kCond ?_;first |(refine WL.condF rfl ?_))) |(refine lthen_n ?_) |(refine lthen_e ?_) |(refine lblock_e ?_) |(refine lbackD_e ?_) |(refine LPost.r1 (r := .tmp 4) (.inl rfl) (Res1.tmp rfl) ?_) |(refine PureR.mk ?_)
     rfl
   · skip
     repeat' first |(refine kOps ?_;first |(refine LOps.nil ?_) |(refine kG ?_;first |(refine LOps.gT rfl rfl rfl ?_) |(refine LOps.gD true rfl rfl rfl ?_ ?_;(focus (first |(simp <;> omega))))) |(refine LOps.ev tT_ok rfl ?_) |(refine kLoad ?_;first |(refine LOps.ans (AnsL.loadP tT_ok rfl rfl rfl rfl) ?_)) |(refine kLen ?_;first |(refine LOps.ans (AnsL.lenM tT_ok rfl rfl rfl) ?_))) |(refine kWL ?_;first |(refine WL.seq ?_) |(refine WL.region (by kernel_rfl) ?_) |(refine WL.exit ?_) |(refine WL.ret ?_) |(refine kCond ?_;first |(refine WL.condF' rfl ?_ ?_;(focus (first |(exact decide_eq_false (by assumption))))))) |(refine lthen_n ?_) |(refine lthen_e ?_) |(refine lblock_e ?_) |(refine lbackD_e ?_) |(refine LPost.r1 (r := .tmp 4) (.inl rfl) (Res1.tmp rfl) ?_) |(refine PureR.mk ?_)
     rfl
 · skip
   repeat' first |(refine kOps ?_;first |(refine LOps.nil ?_) |(refine kG ?_;first |(refine LOps.gT rfl rfl rfl ?_) |(refine LOps.gD true rfl rfl rfl ?_ ?_;(focus (first |(simp <;> omega))))) |(refine LOps.ev tT_ok rfl ?_) |(refine kLoad ?_;first |(refine LOps.ans (AnsL.loadP tT_ok rfl rfl rfl rfl) ?_)) |(refine kLen ?_;first |(refine LOps.ans (AnsL.lenM tT_ok rfl rfl rfl) ?_))) |(refine kWL ?_;first |(refine WL.seq ?_) |(refine WL.region (by kernel_rfl) ?_) |(refine WL.block ?_) |(refine WL.exit ?_) |(refine kCond ?_;first |(refine WL.condF' rfl ?_ ?_;(focus (first |(exact decide_eq_false (by assumption))))))) |(refine lthen_n ?_) |(refine lthen_e ?_) |(refine lblock_e ?_) |(refine lbackD_e ?_)
   refine WL.loopD (fun x:Nat × Int=>e.sub.length - x.1) (fun x=>[(1,.int .i64 x.2),(2,.ptr (s.next+0) 0),(6,.int .i64 (x.1:Int))]) (fun x=>[.var e.v.cells]) (fun x=>x.1≤e.sub.length∧lfq e.sub c=lfq (e.sub.drop x.1) x.2 ∧ -1≤x.2∧x.2≤1000) 1 (0,c) ⟨Nat.zero_le _,rfl,hc0,hc1⟩ (fun _=>rfl) ⟨rfl,rfl,rfl,trivial⟩ rfl (fun x hx=>?_) (fun x hx=>?_)
   · simp [UnderK,UnderX,Own.under,V.under,V.underL,EE.v,V.cells]
   obtain ⟨j,d⟩:=x
   obtain ⟨hj,hd,hd0,hd1⟩:=hx
   dsimp only at hj hd hd0 hd1 ⊢
   by_cases hgo2:j<e.sub.length∧0≤d
   · obtain ⟨hltj, hz⟩ := hgo2
     have hga:(e.sub.map EE.queryV)[j]?=some (EQ.v e.sub[j]):=by rw [List.getElem?_map,List.getElem?_eq_getElem hltj];simp only [Option.map_some,EE.queryV_eq]
     rw [lfq_drop hltj hz] at hd
     have hL:=exprs_len e.sub[j]
     have hX:=fun t=>specl7Exprs_v e.sub[j] (Nat.le_trans (EE.wgt_sub (List.getElem_mem hltj)) hw) t
     have hK:=iQ e.sub[j] (List.getElem_mem hltj)
     have hwq:=Nat.le_trans (EE.wgt_sub (List.getElem_mem hltj)) hw
     generalize e.sub[j]=q at hga hd hX hK hwq hL
     generalize q.exprs=L at hd hX hK hL
     have hz':d≥0:=hz
     have hml:(L.map EE.toV).length=L.length:=List.length_map ..
     repeat' first |(refine kOps ?_;first |(refine LOps.nil ?_) |(refine kG ?_;first |(refine LOps.gT rfl rfl rfl ?_) |(refine LOps.gD true rfl rfl rfl ?_ ?_;(focus (first |(simp <;> omega))))) |(refine LOps.ev tT_ok rfl ?_) |(refine kLoad ?_;first |(refine LOps.ans (AnsL.loadP tT_ok rfl rfl rfl rfl) ?_)) |(refine kLen ?_;first |(refine LOps.ans (AnsL.lenM tT_ok rfl rfl rfl) ?_)) |(refine kIdx ?_;first |(refine LOps.ans (AnsL.idx tT_ok rfl rfl rfl rfl rfl hga rfl rfl) ?_)) |(refine kCallN 62 ?_;first |(refine LOps.ans (AnsL.callP rfl rfl rfl (ok62) (hX _)) ?_))) |(refine kWL ?_;first |(refine WL.seq ?_) |(refine WL.region (by kernel_rfl) ?_) |(refine WL.block ?_) |(refine WL.skip ?_) |(refine kCond ?_;first |(refine WL.condT' rfl ?_ ?_;(focus (first |(exact decide_eq_true (by assumption))))))) |(refine lthen_n ?_)
     refine WL.loopD (fun x:Nat × Int=>L.length - x.1) (fun x=>[(1,.int .i64 x.2),(2,.ptr (s.next+0) 0),(6,.int .i64 (j:Int)),(7,.sl 0 (L.map EE.toV)),(8,.int .i64 (x.1:Int))]) (fun x=>[.var e.v.cells]) (fun x=>x.1≤L.length∧lfs L d=lfs (L.drop x.1) x.2 ∧ -1≤x.2∧x.2≤1000) 1 (0,d) ⟨Nat.zero_le _,rfl,hd0,hd1⟩ (fun _=>rfl) ⟨rfl,rfl,rfl,rfl,rfl,trivial⟩ rfl (fun x hx=>?_) (fun x hx=>?_)
     · simp [UnderK,UnderX,Own.under,V.under,V.underL,EE.v,V.cells]
     obtain ⟨k,b⟩:=x
     obtain ⟨hk,hb,hb0,hb1⟩:=hx
     dsimp only at hk hb hb0 hb1 ⊢
     by_cases hgo3:k<L.length∧0≤b
     · obtain ⟨hltk, hy⟩ := hgo3
       have hgb:(L.map EE.toV)[k]?=some (EE.v L[k]):=by rw [List.getElem?_map,List.getElem?_eq_getElem hltk];simp only [Option.map_some,EE.toV_eq]
       rw [lfs_drop hltk hy] at hb
       have hD:=lfc_spec (hK L[k] (List.getElem_mem hltk) b hy hb1)
       generalize L[k]=x at hgb hb hD
       obtain ⟨hD1,hD2⟩:=hD
       generalize lfc x b=r at hb hD1 hD2
       have hy':b≥0:=hy
       repeat' first |(refine kOps ?_;first |(refine LOps.nil ?_) |(refine kG ?_;first |(refine LOps.gT rfl rfl rfl ?_) |(refine LOps.gD true rfl rfl rfl ?_ ?_;(focus (first |(simp <;> omega))))) |(refine LOps.ev tT_ok rfl ?_) |(refine kLen ?_;first |(refine LOps.ans (AnsL.lenM tT_ok rfl rfl rfl) ?_)) |(refine kBin ?_;first |(refine LOps.ans (AnsL.add rfl rfl ?_) ?_;(focus (constructor <;> omega)))) |(refine kIdx ?_;first |(refine LOps.ans (AnsL.idx tT_ok rfl rfl rfl rfl rfl hgb rfl rfl) ?_)) |(refine kCallN 34 ?_;first |(refine LOps.ans (AnsL.callP rfl rfl rfl (ok34) (hD2 _)) ?_))) |(refine kWL ?_;first |(refine WL.seq ?_) |(refine WL.region (by kernel_rfl) ?_) |(refine WL.block ?_) |(refine WL.skip ?_) |(refine kCond ?_;first |(refine WL.condT' rfl ?_ ?_;(focus (first |(exact decide_eq_true (by assumption))))))) |(refine lthen_n ?_) |(refine lblock_n ?_)
       refine lbackD.of (k+1,r) ⟨hltk,hb,hD1.1,by dsimp only;omega⟩ (by dsimp only;omega) ?_ ?_
       · repeat' first | exact SubL.nil |(refine SubL.mk rfl ?_ ?_) | rfl |(simp <;> fail) |(simp;omega)
       · simp [EE.v,V.cells]
     have hb2:lfs (L.drop k) b=b:=by
       by_cases hy:0≤b
       · rw [List.drop_of_length_le (by omega)];rfl
       · exact lfs_neg _ hy
     rw [hb2] at hb
     rw [hb] at hd
     have hb3:¬ (k<L.length)∨(k<L.length∧¬ b≥0):=by
       by_cases h:k<L.length
       · exact .inr ⟨h,fun h0=>hgo3 ⟨h,h0⟩⟩
       · exact .inl h
     rcases hb3 with hltk | ⟨hltk,hy'⟩
     · skip
       repeat' first |(refine kOps ?_;first |(refine LOps.nil ?_) |(refine kG ?_;first |(refine LOps.gF rfl rfl rfl ?_) |(refine LOps.gD false rfl rfl rfl ?_ ?_;(focus (first |(simp <;> omega))))) |(refine LOps.ev tT_ok rfl ?_) |(refine kLen ?_;first |(refine LOps.ans (AnsL.lenM tT_ok rfl rfl rfl) ?_)) |(refine kBin ?_;first |(refine LOps.ans (AnsL.add rfl rfl ?_) ?_;(focus (constructor <;> omega))))) |(refine kWL ?_;first |(refine WL.seq ?_) |(refine WL.region (by kernel_rfl) ?_) |(refine WL.exit ?_) |(refine kCond ?_;first |(refine WL.condF rfl ?_))) |(refine lthen_n ?_) |(refine lthen_e ?_) |(refine lblock_n ?_) |(refine lblock_e ?_) |(refine lbackD_e ?_)
       refine lbackD.of (j+1,b) ⟨hltj,hd,hb0,hb1⟩ (by dsimp only;omega) ?_ ?_
       · repeat' first | exact SubL.nil |(refine SubL.mk rfl ?_ ?_) | rfl |(simp <;> fail) |(simp;omega)
       · simp [EE.v,V.cells]
     · skip
       repeat' first |(refine kOps ?_;first |(refine LOps.nil ?_) |(refine kG ?_;first |(refine LOps.gT rfl rfl rfl ?_) |(refine LOps.gD true rfl rfl rfl ?_ ?_;(focus (first |(simp <;> omega))))) |(refine LOps.ev tT_ok rfl ?_) |(refine kLen ?_;first |(refine LOps.ans (AnsL.lenM tT_ok rfl rfl rfl) ?_)) |(refine kBin ?_;first |(refine LOps.ans (AnsL.add rfl rfl ?_) ?_;(focus (constructor <;> omega))))) |(refine kWL ?_;first |(refine WL.seq ?_) |(refine WL.region (by kernel_rfl) ?_) |(refine WL.exit ?_) |(refine kCond ?_;first |(refine WL.condF' rfl ?_ ?_;(focus (first |(exact decide_eq_false (by assumption))))))) |(refine lthen_n ?_) |(refine lthen_e ?_) |(refine lblock_n ?_) |(refine lblock_e ?_) |(refine lbackD_e ?_)
       refine lbackD.of (j+1,b) ⟨hltj,hd,hb0,hb1⟩ (by dsimp only;omega) ?_ ?_
       · repeat' first | exact SubL.nil |(refine SubL.mk rfl ?_ ?_) | rfl |(simp <;> fail) |(simp;omega)
       · simp [EE.v,V.cells]
   have hd2:lfq (e.sub.drop j) d=d:=by
     by_cases hz:0≤d
     · rw [List.drop_of_length_le (by omega)];rfl
     · exact lfq_neg _ hz
   rw [hd2] at hd
   rw [hd] at hR
   subst R
   have hd3:¬ (j<e.sub.length)∨(j<e.sub.length∧¬ d≥0):=by
     by_cases h:j<e.sub.length
     · exact .inr ⟨h,fun h0=>hgo2 ⟨h,h0⟩⟩
     · exact .inl h
   rcases hd3 with hltj | ⟨hltj,hz'⟩
   · skip
     repeat' first |(refine kOps ?_;first |(refine LOps.nil ?_) |(refine kG ?_;first |(refine LOps.gF rfl rfl rfl ?_) |(refine LOps.gD false rfl rfl rfl ?_ ?_;(focus (first |(simp <;> omega))))) |(refine LOps.ev tT_ok rfl ?_) |(refine kLoad ?_;first |(refine LOps.ans (AnsL.loadP tT_ok rfl rfl rfl rfl) ?_)) |(refine kLen ?_;first |(refine LOps.ans (AnsL.lenM tT_ok rfl rfl rfl) ?_))) |(refine kWL ?_;first |(refine WL.seq ?_) |(refine WL.region (by kernel_rfl) ?_) |(refine WL.exit ?_) |(refine WL.ret ?_) |(refine kCond ?_;first |(refine WL.condF rfl ?_))) |(refine lthen_n ?_) |(refine lthen_e ?_) |(refine lblock_e ?_) |(refine lbackD_e ?_) |(refine LPost.r1 (r := .tmp 4) (.inl rfl) (Res1.tmp rfl) ?_) |(refine PureR.mk ?_)
     rfl
   · skip
     repeat' first |(refine kOps ?_;first |(refine LOps.nil ?_) |(refine kG ?_;first |(refine LOps.gT rfl rfl rfl ?_) |(refine LOps.gD true rfl rfl rfl ?_ ?_;(focus (first |(simp <;> omega))))) |(refine LOps.ev tT_ok rfl ?_) |(refine kLoad ?_;first |(refine LOps.ans (AnsL.loadP tT_ok rfl rfl rfl rfl) ?_)) |(refine kLen ?_;first |(refine LOps.ans (AnsL.lenM tT_ok rfl rfl rfl) ?_))) |(refine kWL ?_;first |(refine WL.seq ?_) |(refine WL.region (by kernel_rfl) ?_) |(refine WL.exit ?_) |(refine WL.ret ?_) |(refine kCond ?_;first |(refine WL.condF' rfl ?_ ?_;(focus (first |(exact decide_eq_false (by assumption))))))) |(refine lthen_n ?_) |(refine lthen_e ?_) |(refine lblock_e ?_) |(refine lbackD_e ?_) |(refine LPost.r1 (r := .tmp 4) (.inl rfl) (Res1.tmp rfl) ?_) |(refine PureR.mk ?_)
     rfl
end Go.Proofs.Ytikghanejpigjaa
