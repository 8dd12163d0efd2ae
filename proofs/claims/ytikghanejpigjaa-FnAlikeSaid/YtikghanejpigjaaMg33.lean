/-
  The first token of a right tree.
  Climbing the reader's levels.
  Own work; no condition.
-/
import Derived.Test.YtikghanejpigjaaMg32
namespace Go.Proofs.Ytikghanejpigjaa
open Go
set_option linter.unusedSimpArgs false
set_option linter.unusedVariables false
def fT (m:Int) (x:Token):Prop:=x≠keyT 1∧x≠keyT 2∧x≠sgn 42∧x≠sgn 41∧(4≤m→x≠keyT 15)∧(9≤m→x≠sgn 45)
def FT (m:Int) (l:List Token):Prop:=∃ x r,l=x::r∧fT m x
theorem FT.app {m:Int} {l r:List Token} (h:FT m l):FT m (l++r):=by
 obtain ⟨x,t,rfl,hx⟩:=h
 exact ⟨x,t++r,rfl,hx⟩
theorem FT.mono {m n:Int} {l:List Token} (h:FT m l) (hn:n≤m):FT n l:=by
 obtain ⟨x,t,rfl,h1,h2,h3,h4,h5,h6⟩:=h
 exact ⟨x,t,rfl,h1,h2,h3,h4,fun h=>h5 (by omega),fun h=>h6 (by omega)⟩
theorem fT_open (m:Int):fT m (sgn 40):=by
 refine ⟨?_,?_,?_,?_,fun _=>?_,fun _=>?_⟩ <;> decide
theorem FT_wt {n:Int} {e:EE} (h:FT (lvl e.kind e.op) (e.tk false)):FT n (wt n e):=by
 unfold wt wrapT
 by_cases hw:lvl e.kind e.op<n
 · rw [if_pos (by simp [wraps, hw])]
   exact ⟨_,_,rfl,fT_open _⟩
 · rw [if_neg (by simp [wraps, hw])]
   exact h.mono (by omega)
theorem fT_lit {v:Val} (h:litOk v=true) (m:Int):fT m (litT v):=by
 have a:=litOk_LV h
 cases a <;> (refine ⟨?_,?_,?_,?_,fun _=>?_,fun _=>?_⟩ <;> simp [litT,keyT,keyL,sgn])
theorem fT_name (m:Int) (s:List UInt8):fT m (nameT s):=by
 refine ⟨?_,?_,?_,?_,fun _=>?_,fun _=>?_⟩ <;> simp [nameT,keyT,sgn]
theorem fT_no {m:Int} (h:m<4):fT m (keyT 15):=by
 refine ⟨?_,?_,?_,?_,fun _=>?_,fun _=>?_⟩ <;> first | omega | decide
theorem fT_neg {m:Int} (h:m<9):fT m (sgn 45):=by
 refine ⟨?_,?_,?_,?_,fun _=>?_,fun _=>?_⟩ <;> first | omega | decide
theorem fT_ex (m:Int):fT m (keyT 19):=by
 refine ⟨?_,?_,?_,?_,fun _=>?_,fun _=>?_⟩ <;> decide
theorem ndL_ge:∀ op∈ops14,lvl 4 op≤ndL op:=by decide +kernel
def ktL (l:List EE):List (Int × List Token):=l.map fun k=>(lvl k.kind k.op,k.tk false)
theorem tk_inl (nt:Bool) (a b:EE) (l:List EE):(eN 7 0 nt (a::b::l) []).tk false=wt 5 a++(notT nt++keyT 17::sgn 40::(inT false 7 0 (ktL (a::b::l))++[sgn 41])):=by
 have hn:((a::b::l).map fun k=>(lvl k.kind k.op,k.tk false)).length=l.length+2:=by simp
 have h5:need 7 0 (l.length+2) (0:Nat)=5:=by
   unfold need
   rw [if_neg (by simp [lvl];omega)]
   simp
 rw [EE.tk_eq]
 show kidT false 7 0 ((a::b::l).map fun k=>(lvl k.kind k.op,k.tk false)) 0++_=_
 rw [kidT,hn,h5]
 rfl
theorem Rg.FT {e:EE} (h:Rg e):FT (lvl e.kind e.op) (e.tk false):=by
 induction h with
 | mk e h1 h2 h3 h4 ih1 ih2 =>
 have hs:=shpB_RS h1
 cases hs with
 | lit v hv=>rw [tk_lit];exact ⟨_,_,rfl,fT_lit hv _⟩
 | col q n hq hn =>
   rw [tk_col]
   unfold qualT
   split
   · exact ⟨_,_,rfl,fT_name _ _⟩
   · exact ⟨_,_,rfl,fT_name _ _⟩
 | no k=>rw [tk_no];exact ⟨_,_,rfl,fT_no (show lvl 3 15<4 by decide)⟩
 | neg k=>rw [tk_neg];exact ⟨_,_,rfl,fT_neg (show lvl 3 16<9 by decide)⟩
 | bin op a b ho =>
   rw [tk_bin ho]
   exact ((FT_wt (ih1 a (.head _))).mono (ndL_ge op (op_cases ho))).app
 | is nt a=>rw [tk_is];exact ((FT_wt (ih1 a (.head _))).mono (show lvl 5 0≤5 by decide)).app
 | btw nt a b c=>rw [tk_btw];exact ((FT_wt (ih1 a (.head _))).mono (show lvl 6 0≤5 by decide)).app
 | inl nt a b l =>
   rw [tk_inl]
   exact ((FT_wt (ih1 a (.head _))).mono (show lvl 7 0≤5 by decide)).app
 | ins nt a q=>rw [tk_ins];exact ((FT_wt (ih1 a (.head _))).mono (show lvl 8 0≤5 by decide)).app
 | ex q=>rw [tk_ex];exact ⟨_,_,rfl,fT_ex _⟩
end Go.Proofs.Ytikghanejpigjaa

namespace Go.Proofs.Ytikghanejpigjaa
open Go
set_option linter.unusedSimpArgs false
set_option linter.unusedVariables false
def clm (n:Nat):Prop:=n≠3∧n≠4∧n≠8∧n<9
instance (n:Nat):Decidable (clm n):=by unfold clm;infer_instance
noncomputable def fin' (n:Nat) (e:EE) (r:List Token):Option (EE × List Token):=if clm n then pM n e r else some (e,r)
theorem fin_stop {n:Nat} {e:EE} {r:List Token} (h:NC n r):fin' n e r=some (e,r):=by
 unfold fin'
 split
 · exact pM_stop h
 · rfl
theorem pE_clm {n:Nat} {t r:List Token} {e:EE} (hn:clm n) (h:pE (n+1) t=some (e,r)):pE n t=pM n e r:=by
 obtain ⟨h3,h4,h8,h9⟩:=hn
 rw [pE.eq_def,if_neg h3,if_neg h4,if_neg h8,if_neg (by omega),h]
 rfl
theorem hdIs_ne {x:Token} {l:List Token} {m:Int} (h:FT m l) (hx:∀ y,fT m y→y≠x):hdIs x l=false:=by
 obtain ⟨y,r,rfl,hy⟩:=h
 simp [hdIs,hx y hy]
theorem pE_step {m:Int} {n:Nat} {t r:List Token} {e:EE} (hm:(n:Int)<m) (h1:n<9) (ht:FT m t) (h:pE (n+1) t=some (e,r)) (hr:NC (n+1) r) (h4:n=4→NC 4 r):pE n t=fin' n e r:=by
 unfold fin'
 by_cases hc:clm n
 · rw [if_pos hc]
   exact pE_clm hc h
 · rw [if_neg hc]
   have:n=3∨n=4∨n=8:=by unfold clm at hc;omega
   rcases this with rfl | rfl | rfl
   · rw [pE.eq_def, if_pos rfl, hdIs_ne ht (fun y hy => hy.2.2.2.2.1 (by omega))]
     exact h
   · rw [pE.eq_def, if_neg (by decide), if_pos rfl, h]
     exact pT_stop (h4 rfl)
   · rw [pE.eq_def, if_neg (by decide), if_neg (by decide), if_pos rfl, hdIs_ne ht (fun y hy => hy.2.2.2.2.2 (by omega))]
     exact h
theorem pE_down {m:Int} {t r:List Token} {e:EE} (ht:FT m t) (k:Nat):∀ n:Nat,((n+k:Nat):Int)≤m→n+k≤9→pE (n+k) t=some (e,r)→NC n r→pE n t=some (e,r):=by
 induction k with
 | zero=>exact fun n _ _ h _=>h
 | succ k ih =>
   intro n h1 h2 h hr
   have:=ih (n+1) (by omega) (by omega) (by rw [show n+1+k=n+(k+1) by omega];exact h) (hr.mono (by omega))
   rw [pE_step (m:=m) (by omega) (by omega) ht this (hr.mono (by omega)) (fun h=>by subst h;exact hr),fin_stop hr]
theorem pE_fin {m:Int} {t r:List Token} {e:EE} (ht:FT m t) {n k:Nat} (hk:n<k) (h1:(k:Int)≤m) (h2:k≤9) (h4:n≠4) (h:pE k t=some (e,r)) (hr:NC (n+1) r):pE n t=fin' n e r:=by
 have:=pE_down ht (k - (n+1)) (n+1) (by omega) (by omega) (by rw [show n+1+(k - (n+1))=k by omega];exact h) hr
 exact pE_step (m:=m) (by omega) (by omega) ht this hr (fun h=>(h4 h).elim)
def DD (e:EE):Prop:=∃ L:Nat,lvl e.kind e.op=(L:Int)∧1≤L∧L≤9∧FT (L:Int) (e.tk false)∧∀ r,NC (L+1) r→pE L (e.tk false++r)=fin' L e r
theorem DD.one {e:EE} (h:DD e) (r:List Token) (hr:NC 1 r):pE 1 (e.tk false++r)=some (e,r):=by
 obtain ⟨L,h1,h2,h3,h4,h5⟩:=h
 have:=h5 r (hr.mono (by omega))
 rw [fin_stop (hr.mono (by omega))] at this
 exact pE_down h4.app (L - 1) 1 (by omega) (by omega) (by rw [show 1+(L - 1)=L by omega];exact this) hr
theorem pE_nine (t:List Token):pE 9 t=pP t:=by
 rw [pE.eq_def,if_neg (by decide),if_neg (by decide),if_neg (by decide),if_pos (by decide)]
theorem pP_open (r:List Token):pP (sgn 40::r)=(pE 1 r >>= fun w=>some (w.1,w.2.tail)):=by
 rw [pP.eq_def]
 simp only [if_pos]
theorem DD.fin {e:EE} (h:DD e) (n:Nat) (hn:1≤n∧n≤8∧n≠4) (r:List Token) (hr:NC (n+1) r):pE n (wt n e++r)=fin' n e r:=by
 by_cases hw:lvl e.kind e.op<(n:Int)
 · have hwt:wt n e++r=sgn 40::(e.tk false++sgn 41::r):=by
     unfold wt wrapT
     rw [if_pos (by simp [wraps,hw])]
     simp
   have h9:pE 9 (wt n e++r)=some (e,r):=by
     rw [hwt,pE_nine,pP_open,h.one (sgn 41::r) (show cont (sgn 41)<1 by decide +kernel)]
     rfl
   exact pE_fin (m:=9) (k:=9) (by rw [hwt];exact ⟨_,_,rfl,fT_open _⟩) (by omega) (by omega) (by omega) hn.2.2 h9 hr
 · have hwt:wt n e=e.tk false:=by
     unfold wt wrapT
     rw [if_neg (by simp [wraps,hw])]
   rw [hwt]
   obtain ⟨L,h1,h2,h3,h4,h5⟩:=h
   rw [h1] at hw
   rcases Nat.lt_or_ge n L with hlt | hge
   · have := h5 r (hr.mono (by omega))
     rw [fin_stop (hr.mono (by omega))] at this
     exact pE_fin (m:=L) h4.app hlt (by omega) h3 hn.2.2 this hr
   · have : n = L := by omega
     subst this
     exact h5 r hr
theorem DD.stop {e:EE} (h:DD e) (n:Nat) (hn:1≤n∧n≤8∧n≠4) (r:List Token) (hr:NC n r):pE n (wt n e++r)=some (e,r):=by
 rw [h.fin n hn r (hr.mono (by omega)),fin_stop hr]
theorem DD.wt1 {e:EE} (h:DD e):wt 1 e=e.tk false:=by
 obtain ⟨L,h1,h2,_⟩:=h
 unfold wt wrapT
 rw [if_neg (by simp [wraps];omega)]
end Go.Proofs.Ytikghanejpigjaa
