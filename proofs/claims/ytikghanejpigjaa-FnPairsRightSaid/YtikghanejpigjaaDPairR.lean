/-
 Pairs of parentheses: the law of their order, walked. Own work; no condition.
-/
import Derived.Test.YtikghanejpigjaaDPairL
import Derived.Test.YtikghanejpigjaaMg29
import Derived.Test.YtikghanejpigjaaMg30
import Derived.Test.YtikghanejpigjaaDTok3
namespace Go.Proofs.Ytikghanejpigjaa
open Go
set_option linter.unusedSimpArgs false
set_option linter.unusedVariables false
theorem tok_open {l:List Token} {p:Nat} (h:openP l p=true):∃ k a,(l.map Token.toV)[((p:Int)).toNat]?=some (.agg [.int .i64 k,.str [40],.int .i64 a]):=by
 unfold openP at h
 cases e:l[p]? with
 | none=>rw [e] at h;simp at h
 | some t =>
   rw [e] at h
   simp only [Option.map_some,Option.getD_some,isSign,Bool.and_eq_true,decide_eq_true_eq] at h
   refine ⟨t.kind,t.pos,?_⟩
   rw [Int.toNat_natCast,List.getElem?_map,e,Option.map_some,Token.toV,h.2]
theorem tok_shut {l:List Token} {j:Nat} (h:∃ t,l[j]?=some t∧isSign t 41=true):∃ k a,(l.map Token.toV)[((j:Int)).toNat]?=some (.agg [.int .i64 k,.str [41],.int .i64 a]):=by
 obtain ⟨t,e,h⟩:=h
 simp only [isSign,Bool.and_eq_true,decide_eq_true_eq] at h
 refine ⟨t.kind,t.pos,?_⟩
 rw [Int.toNat_natCast,List.getElem?_map,e,Option.map_some,Token.toV,h.2]
theorem pair_at {l:List (Int × Int)} {i:Nat} (h:i<l.length):(l.map pairV)[i]?=some (.sl 0 [.int .i64 l[i].1,.int .i64 l[i].2]):=by simp [h,pairV]
set_option maxHeartbeats 4000000 in
theorem lawPairsRightL_v {b:V} (hb:Bytes b) (s:S):VCalls Try.prog 3 [b] s (fun v _=>v = .bool true):=by
 obtain ⟨c,hbig⟩:=big_v hb
 have hh:Hold s s.next [] := .start _ _
 refine LCalls.body Try.func3 rfl (by kernel_rfl) ?_
 cases c
 · skip
   repeat' first |(refine kCallN 6 ?_ ;refine LOps.drawAll rfl rfl ok6 hh (specDrawPairsOf_d hb) ?_ ;intro s x hq hh) |(refine kOps ?_;first |(refine LOps.nil ?_) |(refine LOps.ev tT_ok rfl ?_) |(refine kCallN 5 ?_;first |(refine LOps.ans (AnsL.callP rfl rfl rfl (ok5) (hbig _)) ?_))) |(refine kWL ?_;first |(refine WL.seq ?_) |(refine WL.region (by kernel_rfl) ?_) |(refine WL.skip ?_) |(refine kCond ?_;first |(refine WL.condF rfl ?_))) |(refine lthen_n ?_)
   rename List Token=>l
   have hl:l.length≤1048576:=by omega
   have hpT:V.plainL [.sl 0 (l.map Token.toV)]=true:=by simpa [V.plainL] using plain_TokenS l
   have hI:=fun t=>VCalls.pureOf (ds:=[.sl 0 (l.map Token.toV)]) hpT (plain_pairs (pairs l)) (fun t=>implPairsOf_o l hl t) t
   have hS:=fun t=>VCalls.pureOf (ds:=[.sl 0 (l.map Token.toV)]) hpT (plain_pairs (pairs l)) (fun t=>specPairsOf_o l hl t) t
   have hW:=fun (k:Int) t=>VCalls.pureOf (ds:=[.sl 0 (l.map Token.toV),.int .i64 k]) (by simpa [V.plainL,V.plain] using plain_TokenS l) (plain_TokenS (wP l k)) (fun t=>implWithoutPair_o l hl k t) t
   have hpl:=pairs_len l
   have hml:((pairs l).map pairV).length=(pairs l).length:=List.length_map ..
   have htl:(l.map Token.toV).length=l.length:=List.length_map ..
   repeat' first |(refine kOps ?_;first |(refine LOps.nil ?_) |(refine LOps.ev tT_ok rfl ?_) |(refine kLen ?_;first |(refine LOps.ans (AnsL.lenM tT_ok rfl rfl rfl) ?_)) |(refine kCallN 7 ?_;first |(refine LOps.ans (AnsL.callP rfl rfl rfl (ok7) (hI _)) ?_)) |(refine kCallN 8 ?_;first |(refine LOps.ans (AnsL.callP rfl rfl rfl (ok8) (hS _)) ?_))) |(refine kWL ?_;first |(refine WL.seq ?_) |(refine WL.region (by kernel_rfl) ?_) |(refine WL.block ?_) |(refine WL.skip ?_) |(refine kCond ?_;first |(refine WL.condF' rfl ?_ ?_;(focus (first |(simp <;> fail)))))) |(refine lthen_n ?_)
   refine WL.loopH (fun i:Nat=>(pairs l).length - i) (fun i=>[(3,.sl 0 (l.map Token.toV)),(4,.sl 0 ((pairs l).map pairV)),(5,.int .i64 (i:Int))]) (fun _=>[]) (fun i=>i≤(pairs l).length) 0 (Nat.zero_le _) ⟨rfl,rfl,rfl,trivial⟩ hh (Sel.refl _) (fun i s hi hh=>?_)
   try dsimp only at hi hh ⊢
   rcases Nat.lt_or_ge i (pairs l).length with hlt | hge
   · obtain ⟨p, j, e1, hpj, h3, h4, h5⟩ := pairs_at hlt
     have hga:=pair_at hlt
     rw [e1] at hga
     dsimp only at hga
     obtain ⟨k1,a1,hg1⟩:=tok_open h3
     obtain ⟨k2,a2,hg2⟩:=tok_shut h5
     have hpl1:p<l.length:=by
       rcases Nat.lt_or_ge p l.length with h | h
       · exact h
       · rw [Int.toNat_natCast,List.getElem?_eq_none (by omega)] at hg1;cases hg1
     have hjl:j<l.length:=by
       rcases Nat.lt_or_ge j l.length with h | h
       · exact h
       · rw [Int.toNat_natCast,List.getElem?_eq_none (by omega)] at hg2;cases hg2
     have hnest:=fun k (hk:k<i)=>pairs_nest hk hlt
     rw [e1] at hnest
     dsimp only at hnest
     have hWi:=fun t=>hW (i:Int) t
     have hwl:=wP_len hlt
     have hwm:((wP l (i:Int)).map Token.toV).length=(wP l (i:Int)).length:=List.length_map ..
     generalize wP l (i:Int)=R at hWi hwl hwm
     repeat' first |(refine kOps ?_;first |(refine LOps.nil ?_) |(refine LOps.ev tT_ok rfl ?_) |(refine kLen ?_;first |(refine LOps.ans (AnsL.lenM tT_ok rfl rfl rfl) ?_)) |(refine kIdx ?_;first |(refine LOps.ans (AnsL.idx tT_ok rfl rfl rfl rfl rfl hga rfl rfl) ?_))) |(refine kWL ?_;first |(refine WL.seq ?_) |(refine WL.region (by kernel_rfl) ?_) |(refine WL.drawn (id:=11) [0,1,2,3,4,5,6,7,8,9,10,11,12,13,14,15,16,17,18,19,20,21,22,23,24,25,26,27,28,29,30,31] [] [[],[0],[0,1],[0,1,2],[0,1,2,3],[0,1,2,3,4],[0,1,2,3,4,5],[0,1,2,3],[0,1,2,3,7],[0,1,2,3,7,8],[0,1,2,3,4,5,6,7,8,9],[0,1,2,3,4,5,6,7,8,9,10],[0,1,2,3,4,5,6,7,8,9,10,11],[0,1,2,3,4,5,6,7,8,9,10,11,12],[0,1,2,3,4,5,6,7,8,9,10,11,12],[0,1,2,3,4,5,6,7,8,9,10,11,12,14],[0,1,2,3,4,5,6,7,8,9,10,11,12,14,15],[0,1,2,3,4,5,6,7,8,9,10,11,12,13,14,15,16],[0,1,2,3,4,5,6,7,8,9,10,11,12,13,14,15,16,17],[0,1,2,3,4,5,6,7,8,9,10,11,12,13,14,15,16,17,18],[0,1,2,3,4,5,6,7,8,9,10,11,12,13,14,15,16,17,18,19],[0,1,2,3,4,5,6,7,8,9,10,11,12,13,14,15,16,17,18,19,20],[0,1,2,3,4,5,6,7,8,9,10,11,12,13,14,15,16,17,18,19,20,21],[0,1,2,3,4,5,6,7,8,9,10,11,12,13,14,15,16,17,18,19,20,21,22],[0,1,2,3,4,5,6,7,8,9,10,11,12,13,14,15,16,17,18,19,20,21,22],[0,1,2,3,4,5,6,7,8,9,10,11,12,13,14,15,16,17,18,19,20,21,22,24],[0,1,2,3,4,5,6,7,8,9,10,11,12,13,14,15,16,17,18,19,20,21,22,24,25],[0,1,2,3,4,5,6,7,8,9,10,11,12,13,14,15,16,17,18,19,20,21,22,23,24,25,26],[0,1,2,3,4,5,6,7,8,9,10,11,12,13,14,15,16,17,18,19,20,21,22,23,24,25,26,27],[0,1,2,3,4,5,6,7,8,9,10,11,12,13,14,15,16,17,18,19,20,21,22,23,24,25,26,27,28],[0,1,2,3,4,5,6,7,8,9,10,11,12,13,14,15,16,17,18,19,20,21,22,23,24,25,26,27,28,29],[0,1,2,3,4,5,6,7,8,9,10,11,12,13,14,15,16,17,18,19,20,21,22,23,24,25,26,27,28,29,30]] (by kernel_rfl) (by kernel_rfl) ?_) |(refine WL.block ?_) |(refine WL.skip ?_) |(refine kCond ?_;first |(refine WL.condF rfl ?_) |(refine WL.condT' rfl ?_ ?_;(focus (first |(simp <;> omega)))))) |(refine kDr ?_;first |(refine LDr.nil ?_) |(refine LDr.fl rfl rfl (.ev tT_ok rfl) ?_) |(refine LDr.gT rfl rfl rfl rfl rfl (.ev tT_ok rfl) ?_) |(refine kDLen rfl ?_;first |(refine LDr.fl rfl rfl (AnsL.lenS tT_ok rfl rfl rfl rfl) ?_)) |(refine kDIdx rfl ?_;first |(refine LDr.gT rfl rfl rfl rfl rfl (AnsL.idxZ tT_ok rfl rfl rfl rfl rfl ?_ hg1 rfl rfl) ?_;(focus (omega))) |(refine LDr.gT rfl rfl rfl rfl rfl (AnsL.idxZ tT_ok rfl rfl rfl rfl rfl ?_ hg2 rfl rfl) ?_;(focus (omega))) |(refine LDr.gT rfl rfl rfl rfl rfl (AnsL.idxZ tT_ok rfl rfl rfl rfl rfl ?_ rfl rfl rfl) ?_;(focus (decide)))) |(refine LDr.gD false rfl rfl rfl rfl ?_ ?_;(focus (first |(simp <;> omega))))) |(refine lthen_n ?_)
     refine WL.loopH (fun k:Nat=>i - k) (fun k=>[(3,.sl 0 (l.map Token.toV)),(4,.sl 0 ((pairs l).map pairV)),(5,.int .i64 (i:Int)),(6,.sl 0 [.int .i64 (p:Int),.int .i64 (j:Int)]),(7,.int .i64 (k:Int))]) (fun _=>[]) (fun k=>k≤i) 0 (Nat.zero_le _) ⟨rfl,rfl,rfl,rfl,rfl,trivial⟩ hh (Sel.refl _) (fun k s hk hh=>?_)
     try dsimp only at hk hh ⊢
     rcases Nat.lt_or_ge k i with hki | hki
     · have hgb := pair_at (l := pairs l) (i := k) (by omega)
       have hn:=hnest k hki
       generalize (pairs l)[k]=y at hgb hn
       obtain ⟨c,d⟩:=y
       dsimp only at hgb hn
       obtain ⟨n1,n2⟩:=hn
       by_cases hd:d>(p:Int)
       · have hd2 : ¬ d < (j : Int) := fun h => n2 ⟨hd, h⟩
         repeat' first |(refine kOps ?_;first |(refine LOps.nil ?_) |(refine LOps.ev tT_ok rfl ?_) |(refine kBin ?_;first |(refine LOps.ans (AnsL.add rfl rfl ?_) ?_;(focus (constructor <;> omega)))) |(refine kIdx ?_;first |(refine LOps.ans (AnsL.idx tT_ok rfl rfl rfl rfl rfl hgb rfl rfl) ?_))) |(refine kWL ?_;first |(refine WL.seq ?_) |(refine WL.region (by kernel_rfl) ?_) |(refine WL.drawn (id:=17) [0,1,2,3,4,5,6,7,8,9,10,11,12,13,14,15,16,17,18,19,20,21,22,23,24] [] [[],[0],[0,1],[],[3],[3,4],[0,1,2,3,4,5],[0,1,2,3,4,5,6],[0,1,2,3,4,5,6,7],[0,1,2,3,4,5,6,7,8],[0,1,2,3,4,5,6,7,8,9],[0,1,2,3,4,5,6,7],[0,1,2,3,4,5,6,7,11],[0,1,2,3,4,5,6,7,11,12],[0,1,2,3,4,5,6,7,8,9,10,11,12,13],[0,1,2,3,4,5,6,7,8,9,10,11,12,13,14],[0,1,2,3,4,5,6,7,8,9,10,11,12,13,14,15],[0,1,2,3,4,5,6,7,8,9,10,11,12,13,14,15,16],[0,1,2,3,4,5,6,7,8,9,10,11,12,13,14,15,16,17],[0,1,2,3,4,5,6,7,8,9,10,11,12,13,14,15],[0,1,2,3,4,5,6,7,8,9,10,11,12,13,14,15,19],[0,1,2,3,4,5,6,7,8,9,10,11,12,13,14,15,19,20],[0,1,2,3,4,5,6,7,8,9,10,11,12,13,14,15,16,17,18,19,20,21],[0,1,2,3,4,5,6,7,8,9,10,11,12,13,14,15,16,17,18,19,20,21,22],[0,1,2,3,4,5,6,7,8,9,10,11,12,13,14,15,16,17,18,19,20,21,22,23]] (by kernel_rfl) (by kernel_rfl) ?_) |(refine WL.block ?_) |(refine WL.skip ?_) |(refine kCond ?_;first |(refine WL.condT' rfl ?_ ?_;(focus (first |(simp <;> omega)))) |(refine WL.condF' rfl ?_ ?_;(focus (first |(exact decide_eq_false (by assumption))))))) |(refine kDr ?_;first |(refine LDr.nil ?_) |(refine LDr.fl rfl rfl (.ev tT_ok rfl) ?_) |(refine LDr.gT rfl rfl rfl rfl rfl (.ev tT_ok rfl) ?_) |(refine kDIdx rfl ?_;first |(refine LDr.fl rfl rfl (AnsL.idxZ tT_ok rfl rfl rfl rfl rfl ?_ rfl rfl rfl) ?_;(focus (decide))) |(refine LDr.gT rfl rfl rfl rfl rfl (AnsL.idxZ tT_ok rfl rfl rfl rfl rfl ?_ rfl rfl rfl) ?_;(focus (decide)))) |(refine LDr.gD true rfl rfl rfl rfl ?_ ?_;(focus (first |(exact decide_eq_true (by assumption))))) |(refine LDr.gD false rfl rfl rfl rfl ?_ ?_;(focus (first |(simp <;> omega))))) |(refine lthen_n ?_) |(refine lblock_n ?_)
         exact lbackH.of (k+1) ⟨rfl,rfl,rfl,rfl,rfl,trivial⟩ hh (Sel.refl _) hki (by omega)
       · skip
         repeat' first |(refine kOps ?_;first |(refine LOps.nil ?_) |(refine LOps.ev tT_ok rfl ?_) |(refine kBin ?_;first |(refine LOps.ans (AnsL.add rfl rfl ?_) ?_;(focus (constructor <;> omega)))) |(refine kIdx ?_;first |(refine LOps.ans (AnsL.idx tT_ok rfl rfl rfl rfl rfl hgb rfl rfl) ?_))) |(refine kWL ?_;first |(refine WL.seq ?_) |(refine WL.region (by kernel_rfl) ?_) |(refine WL.drawn (id:=17) [0,1,2,3,4,5,6,7,8,9,10,11,12,13,14,15,16,17,18,19,20,21,22,23,24] [] [[],[0],[0,1],[],[3],[3,4],[0,1,2,3,4,5],[0,1,2,3,4,5,6],[0,1,2,3,4,5,6,7],[0,1,2,3,4,5,6,7,8],[0,1,2,3,4,5,6,7,8,9],[0,1,2,3,4,5,6,7],[0,1,2,3,4,5,6,7,11],[0,1,2,3,4,5,6,7,11,12],[0,1,2,3,4,5,6,7,8,9,10,11,12,13],[0,1,2,3,4,5,6,7,8,9,10,11,12,13,14],[0,1,2,3,4,5,6,7,8,9,10,11,12,13,14,15],[0,1,2,3,4,5,6,7,8,9,10,11,12,13,14,15,16],[0,1,2,3,4,5,6,7,8,9,10,11,12,13,14,15,16,17],[0,1,2,3,4,5,6,7,8,9,10,11,12,13,14,15],[0,1,2,3,4,5,6,7,8,9,10,11,12,13,14,15,19],[0,1,2,3,4,5,6,7,8,9,10,11,12,13,14,15,19,20],[0,1,2,3,4,5,6,7,8,9,10,11,12,13,14,15,16,17,18,19,20,21],[0,1,2,3,4,5,6,7,8,9,10,11,12,13,14,15,16,17,18,19,20,21,22],[0,1,2,3,4,5,6,7,8,9,10,11,12,13,14,15,16,17,18,19,20,21,22,23]] (by kernel_rfl) (by kernel_rfl) ?_) |(refine WL.block ?_) |(refine WL.skip ?_) |(refine kCond ?_;first |(refine WL.condF rfl ?_) |(refine WL.condT' rfl ?_ ?_;(focus (first |(simp <;> omega)))))) |(refine kDr ?_;first |(refine LDr.nil ?_) |(refine LDr.fl rfl rfl (.ev tT_ok rfl) ?_) |(refine LDr.gF rfl rfl rfl rfl rfl ?_) |(refine LDr.gT rfl rfl rfl rfl rfl (.ev tT_ok rfl) ?_) |(refine kDIdx rfl ?_;first |(refine LDr.fl rfl rfl (AnsL.idxZ tT_ok rfl rfl rfl rfl rfl ?_ rfl rfl rfl) ?_;(focus (decide))) |(refine LDr.gT rfl rfl rfl rfl rfl (AnsL.idxZ tT_ok rfl rfl rfl rfl rfl ?_ rfl rfl rfl) ?_;(focus (decide)))) |(refine LDr.gD false rfl rfl rfl rfl ?_ ?_;(focus (first |(exact decide_eq_false (by assumption)) |(simp <;> omega))))) |(refine lthen_n ?_) |(refine lblock_n ?_)
         exact lbackH.of (k+1) ⟨rfl,rfl,rfl,rfl,rfl,trivial⟩ hh (Sel.refl _) hki (by omega)
     · skip
       repeat' first |(refine kOps ?_;first |(refine LOps.nil ?_) |(refine LOps.ev tT_ok rfl ?_) |(refine kLen ?_;first |(refine LOps.ans (AnsL.lenM tT_ok rfl rfl rfl) ?_)) |(refine kBin ?_;first |(refine LOps.ans (AnsL.add rfl rfl ?_) ?_;(focus (constructor <;> omega))) |(refine LOps.ans (AnsL.sub rfl rfl ?_) ?_;(focus (constructor <;> omega)))) |(refine kCallN 9 ?_;first |(refine LOps.ans (AnsL.callP rfl rfl rfl (ok9) (hWi _)) ?_))) |(refine kWL ?_;first |(refine WL.seq ?_) |(refine WL.region (by kernel_rfl) ?_) |(refine WL.exit ?_) |(refine WL.skip ?_) |(refine kCond ?_;first |(refine WL.condF' rfl ?_ ?_;(focus (first |(simp <;> omega)))))) |(refine lthen_n ?_) |(refine lthen_e ?_) |(refine lblock_n ?_) |(refine lblock_e ?_) |(refine lbackH_e ?_)
       exact lbackH.of (i+1) ⟨rfl,rfl,rfl,trivial⟩ hh (Sel.refl _) hlt (by omega)
   · have hWe := fun t => hW ((pairs l).length : Int) t
     rw [wP_end] at hWe
     have hie:i=(pairs l).length:=by omega
     subst hie
     repeat' first |(refine kOps ?_;first |(refine LOps.nil ?_) |(refine LOps.ev tT_ok rfl ?_) |(refine kLen ?_;first |(refine LOps.ans (AnsL.lenM tT_ok rfl rfl rfl) ?_)) |(refine kCallN 9 ?_;first |(refine LOps.ans (AnsL.callP rfl rfl rfl (ok9) (hWe _)) ?_))) |(refine kWL ?_;first |(refine WL.seq ?_) |(refine WL.region (by kernel_rfl) ?_) |(refine WL.exit ?_) |(refine WL.ret ?_) |(refine kCond ?_;first |(refine WL.condF' rfl ?_ ?_;(focus (first |(simp <;> omega)))))) |(refine lthen_n ?_) |(refine lthen_e ?_) |(refine lblock_e ?_) |(refine lbackH_e ?_) |(refine LPost.r1 (r := .tmp 2) (.inl rfl) (Res1.tmp rfl) ?_)
     simp
 · skip
   repeat' first |(refine kOps ?_;first |(refine LOps.nil ?_) |(refine LOps.ev tT_ok rfl ?_) |(refine kCallN 5 ?_;first |(refine LOps.ans (AnsL.callP rfl rfl rfl (ok5) (hbig _)) ?_))) |(refine kWL ?_;first |(refine WL.seq ?_) |(refine WL.region (by kernel_rfl) ?_) |(refine WL.ret ?_) |(refine kCond ?_;first |(refine WL.condT rfl ?_))) |(refine lthen_n ?_) |(refine lthen_r ?_) |(refine LPost.r1 (r := .tmp 2) (.inl rfl) (Res1.tmp rfl) ?_)
   rfl
end Go.Proofs.Ytikghanejpigjaa
