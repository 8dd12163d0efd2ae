/-
  The rows of tokens that the laws of parentheses draw.
  A right tree's tokens, and whether two runs of tokens are the same, of the reference.
  Right trees with the same tokens are the same.
  Own work; no condition.
-/
import Derived.Test.YtikghanejpigjaaMg45
import Derived.Test.YtikghanejpigjaaDTk7
import Derived.Test.YtikghanejpigjaaDTkL
import Derived.Test.YtikghanejpigjaaDEd3
import Derived.Test.YtikghanejpigjaaDEOk5
import Derived.Test.YtikghanejpigjaaDAlkX
namespace Go.Proofs.Ytikghanejpigjaa
open Go
set_option linter.unusedSimpArgs false
set_option linter.unusedVariables false
theorem fgtTk:∀ l:List Token,(l.map Token.toV).map V.forget=l.map Token.toV
 | []=>rfl
 | t::l=>by rw [List.map_cons,List.map_cons,fgtTk l,Token.forget]
theorem tk_pos (all:Bool) (e:EE):0<(e.tk all).length:=by
 rw [EE.tk_eq,asm]
 repeat' split
 all_goals simp only [List.length_append,List.length_cons,List.length_nil];omega
theorem cons_of {α : Type} {l:List α} (h:0<l.length):∃ a r,l=a::r:=by
 cases l with
 | nil=>simp at h
 | cons a r=>exact ⟨a,r,rfl⟩
end Go.Proofs.Ytikghanejpigjaa

namespace Go.Proofs.Ytikghanejpigjaa
open Go
set_option linter.unusedSimpArgs false
set_option linter.unusedVariables false
theorem shpB_shp {e:EE} (h:shpB e=true):shp e.kind e.kids.length e.sub.length:=by
 simp only [shpB,shpK,Bool.and_eq_true] at h
 have:=h.2.2
 unfold shp
 (repeat' split at this) <;> first |(cases this;done) |(simp only [Bool.and_eq_true,decide_eq_true_eq] at this;omega)
theorem Rg.sh {e:EE} (h:Rg e):Sh e:=by
 induction h with
 | mk e h1 h2 h3 h4 ih1 ih2=>exact .mk (shpB_shp h1) ih1 ih2
theorem specExprTokens_o (e:EE) (hw:wgt e.v≤1000000) (hr:Rg e) (hO:∀ s,VCalls Try.prog 13 [e.v] s (fun v s'=>v = .bool true∧s'=s)) :
   OutB Try.prog 15 [e.v] (fun _:Unit => .sl 0 (tkV (e.tk false))) (fun _=>[]) (fun _=>True):=by
 intro s H hh
 have hl:=tk_len false e
 have hE:AppC Try.prog 37 (fun o=>[o,e.v,.bool false]) 3 [] (tkV (e.tk false)):=by
   have:=specl10Expr_c false e hr.sh (by omega) [] (by simp only [List.length_nil];omega)
   rwa [List.nil_append] at this
 refine VCalls.mono (VCalls.frzS (α := Unit) (f:=fun _ => .sl 0 (tkV (e.tk false))) (p:=fun _=>True) (H:=fun _=>H) ?_) fun v s' ⟨_,t,_,h1,h2,h3⟩=>⟨(),t,trivial,h1,h2,h3⟩
 refine LCalls.body0 Try.func15 rfl (by kernel_rfl) ?_
 repeat' first |(refine kBox ?_ ;first |(refine LOps.boxH hh rfl rfl ?_ ;intro s n hh)) |(refine kCallN 37 ?_ ;refine LOps.accF rfl hE rfl ok37 hh ?_ ;intro s id hh) |(refine kOps ?_;first |(refine LOps.nil ?_) |(refine LOps.ev tT_ok rfl ?_) |(refine kBsl ?_;first |(refine LOps.bsl0 tT_ok rfl rfl rfl rfl rfl ?_)) |(refine kLoad ?_;first |(refine LOps.ans (AnsL.loadH tT_ok 0 hh rfl rfl rfl rfl) ?_)) |(refine kCallN 13 ?_;first |(refine LOps.ans (AnsL.callP rfl rfl rfl (ok13) (hO _)) ?_))) |(refine kWL ?_;first |(refine WL.seq ?_) |(refine WL.region (by kernel_rfl) ?_) |(refine WL.skip ?_) |(refine WL.ret ?_) |(refine kCond ?_;first |(refine WL.condF rfl ?_))) |(refine lthen_n ?_) |(refine LPost.r1 (r := .tmp 2) (.inl rfl) (Res1.tmp rfl) ?_)
 exact ⟨(),_,trivial,rfl,FinS.sl (plainTk _) hh (.drop (.drop (.refl _)))⟩
def tokEq (x y:Token):Bool:=decide (x.kind=y.kind)&&decide (x.text=y.text)
theorem specSameTokens_v (a b:List Token) (ha:a.length≤4000000000) (s:S):VCalls Try.prog 14 [.sl 0 (tkV a),.sl 0 (tkV b)] s (fun v s'=>v = .bool (same tokEq a b)∧s'=s):=by
 have hm1:(tkV a).length=a.length:=List.length_map ..
 have hm2:(tkV b).length=b.length:=List.length_map ..
 by_cases hne:(a.length:Int)=b.length
 · have hl : a.length = b.length := by omega
   refine LCalls.pure Try.func14 rfl (by kernel_rfl) (by simp) ?_
   repeat' first |(refine kOps ?_;first |(refine LOps.nil ?_) |(refine LOps.ev tT_ok rfl ?_) |(refine kLen ?_;first |(refine LOps.ans (AnsL.lenM tT_ok rfl rfl rfl) ?_))) |(refine kWL ?_;first |(refine WL.seq ?_) |(refine WL.region (by kernel_rfl) ?_) |(refine WL.block ?_) |(refine WL.skip ?_) |(refine kCond ?_;first |(refine WL.condF' rfl ?_ ?_;(focus (first |(simp <;> omega)))))) |(refine lthen_n ?_)
   refine WL.loopD (fun i:Nat=>a.length - i) (fun i=>[(0,.sl 0 (tkV a)),(1,.sl 0 (tkV b)),(5,.int .i64 (i:Int))]) (fun i=>[])
     (fun i=>i≤a.length∧same tokEq a b=eqAll tokEq (a.drop i) (b.drop i)) 0 0 ⟨Nat.zero_le _,same_eq hne⟩ (fun _=>rfl) ⟨rfl,rfl,rfl,trivial⟩ rfl (fun i hi=>?_) (fun i hi=>?_)
   · simp [UnderK,UnderX,Own.under,V.under,V.underL]
   obtain ⟨hi,hc⟩:=hi
   rcases Nat.lt_or_ge i a.length with hlt | hge
   · have hlt2 : i < b.length := by omega
     have hga:(tkV a)[i]?=some (a[i].toV):=by rw [List.getElem?_map,List.getElem?_eq_getElem hlt];rfl
     have hgb:(tkV b)[i]?=some (b[i].toV):=by rw [List.getElem?_map,List.getElem?_eq_getElem hlt2];rfl
     rw [eqAll_drop hlt hlt2] at hc
     generalize a[i]=x at hga hc
     generalize b[i]=y at hgb hc
     obtain ⟨x1,x2,x3⟩:=x
     obtain ⟨y1,y2,y3⟩:=y
     cases hp:tokEq ⟨x1,x2,x3⟩ ⟨y1,y2,y3⟩
     all_goals rw [hp] at hc
     · skip
       repeat' first |(refine kOps ?_;first |(refine LOps.nil ?_) |(refine LOps.ev tT_ok rfl ?_) |(refine kLen ?_;first |(refine LOps.ans (AnsL.lenM tT_ok rfl rfl rfl) ?_)) |(refine kBin ?_;first |(refine LOps.ans (AnsL.add rfl rfl ?_) ?_;(focus (constructor <;> omega))))) |(refine kWL ?_;first |(refine WL.seq ?_) |(refine WL.region (by kernel_rfl) ?_) |(refine WL.drawn (id:=6) [0,1,2,3,4,5,6,7,8,9,10,11,12,13,14,15,16,17,18,19,20,21,22,23] [] [[],[],[0,1],[0,1,2],[0,1,2,3],[],[],[5,6],[5,6,7],[5,6,7,8],[0,1,2,3,4,5,6,7,8,9],[0,1,2,3,4,5,6,7,8,9,10],[0,1,2,3,4,5,6,7,8,9,10,11],[0,1,2,3,4,5,6,7,8,9,10,11],[0,1,2,3,4,5,6,7,8,9,10,11,12,13],[0,1,2,3,4,5,6,7,8,9,10,11,12,13,14],[0,1,2,3,4,5,6,7,8,9,10,11,12,13,14,15],[0,1,2,3,4,5,6,7,8,9,10,11],[0,1,2,3,4,5,6,7,8,9,10,11],[0,1,2,3,4,5,6,7,8,9,10,11,17,18],[0,1,2,3,4,5,6,7,8,9,10,11,17,18,19],[0,1,2,3,4,5,6,7,8,9,10,11,17,18,19,20],[0,1,2,3,4,5,6,7,8,9,10,11,12,13,14,15,16,17,18,19,20,21],[0,1,2,3,4,5,6,7,8,9,10,11,12,13,14,15,16,17,18,19,20,21,22]] (by kernel_rfl) (by kernel_rfl) ?_) |(refine WL.block ?_) |(refine WL.skip ?_) |(refine WL.ret ?_) |(refine kCond ?_;first |(refine WL.condT rfl ?_) |(refine WL.condT' rfl ?_ ?_;(focus (first |(simp <;> omega)))) |(refine WL.cond rfl (fun h=>?_) (fun h=>?_)))) |(refine kDr ?_;first |(refine LDr.nil ?_) |(refine LDr.fl rfl rfl (.ev tT_ok rfl) ?_) |(refine LDr.gF rfl rfl rfl rfl rfl ?_) |(refine LDr.gT rfl rfl rfl rfl rfl (.ev tT_ok rfl) ?_) |(refine kDIdx rfl ?_;first |(refine LDr.fl rfl rfl (AnsL.idx tT_ok rfl rfl rfl rfl rfl hga rfl rfl) ?_) |(refine LDr.gT rfl rfl rfl rfl rfl (AnsL.idx tT_ok rfl rfl rfl rfl rfl hga rfl rfl) ?_) |(refine LDr.fl rfl rfl (AnsL.idx tT_ok rfl rfl rfl rfl rfl hgb rfl rfl) ?_) |(refine LDr.gT rfl rfl rfl rfl rfl (AnsL.idx tT_ok rfl rfl rfl rfl rfl hgb rfl rfl) ?_)) |(refine LDr.gC rfl rfl rfl rfl (fun h=>?_) (fun h=>?_))) |(refine lthen_n ?_) |(refine lthen_r ?_) |(refine lblock_n ?_) |(refine lblock_r ?_) |(refine lbackD_r ?_) |(refine LPost.r1 (r := .tmp 4) (.inl rfl) (Res1.tmp rfl) ?_) |(refine PureR.mk ?_)
       all_goals first
         |(show V.bool _=_;rw [hc];rfl)
         |(exfalso;simp_all [tokEq];done)
     · skip
       repeat' first |(refine kOps ?_;first |(refine LOps.nil ?_) |(refine LOps.ev tT_ok rfl ?_) |(refine kLen ?_;first |(refine LOps.ans (AnsL.lenM tT_ok rfl rfl rfl) ?_)) |(refine kBin ?_;first |(refine LOps.ans (AnsL.add rfl rfl ?_) ?_;(focus (constructor <;> omega))))) |(refine kWL ?_;first |(refine WL.seq ?_) |(refine WL.region (by kernel_rfl) ?_) |(refine WL.drawn (id:=6) [0,1,2,3,4,5,6,7,8,9,10,11,12,13,14,15,16,17,18,19,20,21,22,23] [] [[],[],[0,1],[0,1,2],[0,1,2,3],[],[],[5,6],[5,6,7],[5,6,7,8],[0,1,2,3,4,5,6,7,8,9],[0,1,2,3,4,5,6,7,8,9,10],[0,1,2,3,4,5,6,7,8,9,10,11],[0,1,2,3,4,5,6,7,8,9,10,11],[0,1,2,3,4,5,6,7,8,9,10,11,12,13],[0,1,2,3,4,5,6,7,8,9,10,11,12,13,14],[0,1,2,3,4,5,6,7,8,9,10,11,12,13,14,15],[0,1,2,3,4,5,6,7,8,9,10,11],[0,1,2,3,4,5,6,7,8,9,10,11],[0,1,2,3,4,5,6,7,8,9,10,11,17,18],[0,1,2,3,4,5,6,7,8,9,10,11,17,18,19],[0,1,2,3,4,5,6,7,8,9,10,11,17,18,19,20],[0,1,2,3,4,5,6,7,8,9,10,11,12,13,14,15,16,17,18,19,20,21],[0,1,2,3,4,5,6,7,8,9,10,11,12,13,14,15,16,17,18,19,20,21,22]] (by kernel_rfl) (by kernel_rfl) ?_) |(refine WL.block ?_) |(refine WL.skip ?_) |(refine WL.ret ?_) |(refine kCond ?_;first |(refine WL.condT rfl ?_) |(refine WL.condT' rfl ?_ ?_;(focus (first |(simp <;> omega)))) |(refine WL.cond rfl (fun h=>?_) (fun h=>?_)))) |(refine kDr ?_;first |(refine LDr.nil ?_) |(refine LDr.fl rfl rfl (.ev tT_ok rfl) ?_) |(refine LDr.gF rfl rfl rfl rfl rfl ?_) |(refine LDr.gT rfl rfl rfl rfl rfl (.ev tT_ok rfl) ?_) |(refine kDIdx rfl ?_;first |(refine LDr.fl rfl rfl (AnsL.idx tT_ok rfl rfl rfl rfl rfl hga rfl rfl) ?_) |(refine LDr.gT rfl rfl rfl rfl rfl (AnsL.idx tT_ok rfl rfl rfl rfl rfl hga rfl rfl) ?_) |(refine LDr.fl rfl rfl (AnsL.idx tT_ok rfl rfl rfl rfl rfl hgb rfl rfl) ?_) |(refine LDr.gT rfl rfl rfl rfl rfl (AnsL.idx tT_ok rfl rfl rfl rfl rfl hgb rfl rfl) ?_)) |(refine LDr.gC rfl rfl rfl rfl (fun h=>?_) (fun h=>?_))) |(refine lthen_n ?_) |(refine lthen_r ?_) |(refine lblock_n ?_) |(refine lblock_r ?_) |(refine lbackD_r ?_) |(refine LPost.r1 (r := .tmp 4) (.inl rfl) (Res1.tmp rfl) ?_) |(refine PureR.mk ?_)
       any_goals (exfalso;simp_all [tokEq];done)
       rw [Bool.true_and] at hc
       all_goals
         refine lbackD.of (i+1) ?_ ?_ ?_ ?_
         · first | omega |(refine ⟨?_,?_⟩;(focus (first | omega |(simp;omega)));(first | omega |(simp_all [hc] <;> fail) |(simp_all [hc];omega))) |(simp_all [hc] <;> fail) |(simp_all [hc];omega)
         · first | omega |(simp;omega) | simp_all
         · repeat' first
             | exact SubL.nil
             |(refine SubL.mk rfl ?_ ?_)
             | rfl
             |(simp [hc] <;> fail)
             |(simp [hc];omega)
         · first | rfl |(simp [hc] <;> fail) |(simp [hc];omega)
   · rw [eqAll_end hge] at hc
     repeat' first |(refine kOps ?_;first |(refine LOps.nil ?_) |(refine LOps.ev tT_ok rfl ?_) |(refine kLen ?_;first |(refine LOps.ans (AnsL.lenM tT_ok rfl rfl rfl) ?_))) |(refine kWL ?_;first |(refine WL.seq ?_) |(refine WL.region (by kernel_rfl) ?_) |(refine WL.exit ?_) |(refine WL.ret ?_) |(refine kCond ?_;first |(refine WL.condF' rfl ?_ ?_;(focus (first |(simp <;> omega)))))) |(refine lthen_n ?_) |(refine lthen_e ?_) |(refine lblock_e ?_) |(refine lbackD_e ?_) |(refine LPost.r1 (r := .tmp 4) (.inl rfl) (Res1.tmp rfl) ?_) |(refine PureR.mk ?_)
     show V.bool _=_;simp_all
 · have hl : same tokEq a b = false := same_ne hne
   refine LCalls.pure Try.func14 rfl (by kernel_rfl) (by simp) ?_
   repeat' first |(refine kOps ?_;first |(refine LOps.nil ?_) |(refine LOps.ev tT_ok rfl ?_) |(refine kLen ?_;first |(refine LOps.ans (AnsL.lenM tT_ok rfl rfl rfl) ?_))) |(refine kWL ?_;first |(refine WL.seq ?_) |(refine WL.region (by kernel_rfl) ?_) |(refine WL.ret ?_) |(refine kCond ?_;first |(refine WL.condT' rfl ?_ ?_;(focus (first |(simp <;> omega)))))) |(refine lthen_n ?_) |(refine lthen_r ?_) |(refine LPost.r1 (r := .tmp 4) (.inl rfl) (Res1.tmp rfl) ?_) |(refine PureR.mk ?_)
   rw [hl]
   rfl
end Go.Proofs.Ytikghanejpigjaa

namespace Go.Proofs.Ytikghanejpigjaa
open Go
set_option linter.unusedSimpArgs false
set_option linter.unusedVariables false
def Z0 (l:List Token):Prop:=∀ t∈l,t.pos=0
theorem Z0.nil:Z0 []:=fun _ h=>nomatch h
theorem Z0.cons {x:Token} {l:List Token} (h:x.pos=0) (hl:Z0 l):Z0 (x::l):=fun t ht=>by
 cases ht with
 | head=>exact h
 | tail _ ht=>exact hl t ht
theorem Z0.app {l m:List Token} (h:Z0 l) (hm:Z0 m):Z0 (l++m):=fun t ht=>(List.mem_append.1 ht).elim (h t) (hm t)
theorem Z0.getD {L:List (List Token)} (h:∀ l∈L,Z0 l) (n:Nat):Z0 (L.getD n []):=by
 rcases Nat.lt_or_ge n L.length with hn | hn
 · rw [getD_ltJ hn];exact h _ (List.getElem_mem _)
 · rw [getD_ge hn];exact .nil
theorem Z0.sepC {L:List (List Token)} (h:∀ l∈L,Z0 l) (n:Nat):Z0 (sepC L n):=by
 induction n with
 | zero=>exact .nil
 | succ n ih =>
   refine ih.app (.app ?_ (.getD h n))
   split
   · exact .cons rfl .nil
   · exact .nil
theorem Z0.fromT {L:List (Bool × List Token)} (h:∀ l∈L,Z0 l.2) (n:Nat):Z0 (fromT L n):=by
 induction n with
 | zero=>exact .nil
 | succ n ih =>
   refine ih.app (.app ?_ ?_)
   · split
     · refine .cons ?_ .nil
       split <;> rfl
     · exact .nil
   · rcases Nat.lt_or_ge n L.length with hn | hn
     · rw [getD_ltJ hn];exact h _ (List.getElem_mem _)
     · rw [getD_ge hn];exact .nil
theorem Z0.ordT {L:List (List Token × Bool)} (h:∀ l∈L,Z0 l.1) (n:Nat):Z0 (ordT L n):=by
 induction n with
 | zero=>exact .nil
 | succ n ih =>
   refine ih.app (.app ?_ (.app ?_ ?_))
   · split
     · exact .cons rfl (.cons rfl .nil)
     · exact .cons rfl .nil
   · rcases Nat.lt_or_ge n L.length with hn | hn
     · rw [getD_ltJ hn];exact h _ (List.getElem_mem _)
     · rw [getD_ge hn];exact .nil
   · split
     · exact .cons rfl .nil
     · exact .nil
theorem Z0.notT (b:Bool):Z0 (notT b):=by
 cases b
 · exact .nil
 · exact .cons rfl .nil
theorem Z0.asT (s:List UInt8):Z0 (asT s):=by
 unfold Go.Proofs.Ytikghanejpigjaa.asT
 split
 · exact .nil
 · exact .cons rfl (.cons rfl .nil)
theorem Z0.qualT (s:List UInt8):Z0 (qualT s):=by
 unfold Go.Proofs.Ytikghanejpigjaa.qualT
 split
 · exact .nil
 · exact .cons rfl (.cons rfl .nil)
theorem Z0.wrapT {all:Bool} {n:Int} {x:Int × List Token} (h:Z0 x.2):Z0 (wrapT all n x):=by
 unfold Go.Proofs.Ytikghanejpigjaa.wrapT
 split
 · exact .cons rfl (.app h (.cons rfl .nil))
 · exact h
theorem Z0.kidT {all:Bool} {kind op:Int} {ks:List (Int × List Token)} (h:∀ x∈ks,Z0 x.2) (k:Nat):Z0 (kidT all kind op ks k):=by
 refine .wrapT ?_
 rcases Nat.lt_or_ge k ks.length with hn | hn
 · rw [getD_ltJ hn];exact h _ (List.getElem_mem _)
 · rw [getD_ge hn];exact .nil
theorem litT_pos (v:Val):(litT v).pos=0:=by
 unfold litT
 split
 · rfl
 split
 · rfl
 split
 · split <;> rfl
 · rfl
theorem Z0.asm {all:Bool} {kind op:Int} {nt:Bool} {v:Val} {q n:List UInt8} {ks:List (Int × List Token)} {qs:List (List Token)} (h:∀ x∈ks,Z0 x.2) (hq:∀ x∈qs,Z0 x):Z0 (asm all kind op nt v q n ks qs):=by
 have hk:=fun k=>Z0.kidT (all:=all) (kind:=kind) (op:=op) h k
 have hi:Z0 (inT all kind op ks):=by
   refine .sepC (fun l hl=>?_) _
   obtain ⟨j,_,rfl⟩:=List.mem_map.1 hl
   exact hk _
 have hq0:=Z0.getD hq 0
 have hn:=Z0.notT nt
 unfold Go.Proofs.Ytikghanejpigjaa.asm
 split
 · exact .cons (litT_pos v) .nil
 split
 · exact .app (.qualT q) (.cons rfl .nil)
 split
 · exact .cons rfl (hk 0)
 split
 · exact .cons rfl (.cons rfl (.app hq0 (.cons rfl .nil)))
 refine .app (hk 0) ?_
 split
 · exact .cons rfl (hk 1)
 split
 · exact .cons rfl (.app hn (.cons rfl .nil))
 split
 · exact .app hn (.cons rfl (.app (hk 1) (.cons rfl (hk 2))))
 refine .app hn (.cons rfl (.cons rfl (.app ?_ (.cons rfl .nil))))
 split
 · exact hq0
 · exact hi
theorem Z0.tkQ {q:EQ} (h:∀ k∈q.parts,Z0 (k.tk false)):Z0 (EE.tkQ false q):=by
 have mI:∀ x∈q.items,Z0 (x.e.tk false):=fun x hx=>h _ (by simp only [QueryOf.parts,List.mem_append,List.mem_map];exact .inl (.inl (.inl ⟨x,hx,rfl⟩)))
 have mS:∀ x∈q.src,∀ k∈x.on,Z0 (k.tk false):=fun x hx k hk=>h _ (by simp only [QueryOf.parts,List.mem_append,List.mem_flatten,List.mem_map];exact .inl (.inl (.inr ⟨x.on,⟨x,hx,rfl⟩,hk⟩)))
 have mW:∀ k∈q.wher,Z0 (k.tk false):=fun k hk=>h _ (by simp only [QueryOf.parts,List.mem_append];exact .inl (.inr hk))
 have mO:∀ x∈q.order,Z0 (x.1.tk false):=fun x hx=>h _ (by simp only [QueryOf.parts,List.mem_append,List.mem_map];exact .inr ⟨x,hx,rfl⟩)
 rw [EE.tkQ_eq]
 unfold asmQ
 refine .cons rfl (.app ?_ (.app (.sepC (fun l hl=>?_) _) (.cons rfl (.app (.fromT (fun l hl=>?_) _) (.app ?_ (.app (.ordT (fun l hl=>?_) _) ?_))))))
 · split
   · exact .cons rfl .nil
   · exact .nil
 · obtain ⟨x, hx, rfl⟩ := List.mem_map.1 hl
   unfold itemT
   split
   · exact .app (.qualT _) (.cons rfl .nil)
   · exact .app (mI x hx) (.asT _)
 · obtain ⟨x, hx, rfl⟩ := List.mem_map.1 hl
   unfold srcT
   refine .cons rfl (.app (.asT _) ?_)
   have:=mS x hx
   cases ho:x.on with
   | nil=>exact .nil
   | cons k ks=>exact .cons rfl (this k (by rw [ho];exact .head _))
 · cases ho : q.wher with
   | nil=>exact .nil
   | cons k ks=>exact .cons rfl (mW k (by rw [ho];exact .head _))
 · obtain ⟨x, hx, rfl⟩ := List.mem_map.1 hl
   exact mO x hx
 · unfold limT
   split
   · exact .cons rfl (.cons rfl .nil)
   · exact .nil
theorem tk_posJ (e:EE):Z0 (e.tk false):=by
 induction e using EE.ind with
 | h e ih1 ih2 =>
   rw [EE.tk_eq]
   refine .asm (fun x hx=>?_) (fun x hx=>?_)
   · obtain ⟨k, hk, rfl⟩ := List.mem_map.1 hx
     exact ih1 k hk
   · obtain ⟨q, hq, rfl⟩ := List.mem_map.1 hx
     exact .tkQ (ih2 q hq)
theorem tokEq_eq {a b:Token} (h:tokEq a b=true) (ha:a.pos=0) (hb:b.pos=0):a=b:=by
 obtain ⟨k,t,p⟩:=a
 obtain ⟨k',t',p'⟩:=b
 simp only [tokEq,Bool.and_eq_true,decide_eq_true_eq] at h ha hb
 simp_all
theorem eqAll_eq {l m:List Token} (hl:Z0 l) (hm:Z0 m) (h:same tokEq l m=true):l=m:=by
 simp only [same,Bool.and_eq_true,decide_eq_true_eq] at h
 obtain ⟨h1,h2⟩:=h
 induction l generalizing m with
 | nil=>exact (List.eq_nil_of_length_eq_zero h1.symm).symm
 | cons x l ih =>
   cases m with
   | nil=>simp at h1
   | cons y m =>
     simp only [eqAll,Bool.and_eq_true] at h2
     simp only [List.length_cons,Nat.add_right_cancel_iff] at h1
     rw [tokEq_eq h2.1 (hl x (.head _)) (hm y (.head _)),ih (fun t ht=>hl t (.tail _ ht)) (fun t ht=>hm t (.tail _ ht)) h1 h2.2]
theorem tk_inj' {x y:EE} (hx:Rg x) (hy:Rg y) (h:same tokEq (x.tk false) (y.tk false)=true):x=y:=tk_inj hx hy (eqAll_eq (tk_posJ x) (tk_posJ y) h)
end Go.Proofs.Ytikghanejpigjaa
