/-
  Memory of one's own taken apart and put together again; calls that turn it; elements read and written.
  An element of an owned slice, taken out and put back.
  Plans' trees bent: one of what is drawn is changed, in place.
  Own work; no condition.
-/
import Derived.Test.YtikghanejpigjaaDCow
import Derived.Test.YtikghanejpigjaaVCap
import Derived.Test.YtikghanejpigjaaMg18
namespace Go.Proofs.Ytikghanejpigjaa
open Go
theorem Hold.split {s:S} {H:List BE} {b n:Nat} {d d1 d2:V} (h:Hold s b (.blk n d::H)) (hc:cv d=cv d1+cv d2) (ht:(thw n d).2=(thw n d1).2++(thw (n+cv d1) d2).2) (p1:d1.plain=true) (p2:d2.plain=true) :
   Hold s b (.blk n d1 :: .blk (n+cv d1) d2::H):=by
 obtain ⟨ls,h1,h2,h3⟩:=h.ex
 cases h1 with
 | cons k1 k2 =>
   obtain ⟨e1,e2,e3,e4⟩:=k1
   rename_i a0 b0
   have hv:vl n (cv d1)++(vl (n+cv d1) (cv d2)++b0)=a0++b0:=by rw [← List.append_assoc,vl_append,e1,hc]
   rw [ht] at e3
   have e5:=e3.right
   rw [thw_cv] at e5
   exact ⟨vl n (cv d1)++(vl (n+cv d1) (cv d2)++b0),.cons ⟨rfl,p1,e3.left,by omega⟩ (.cons ⟨rfl,p2,e5,by omega⟩ k2),by rw [hv];exact h2,by rw [hv];exact h3⟩
theorem plainL_append (a b:List V):V.plainL (a++b)=(V.plainL a&&V.plainL b):=by
 rw [V.plainL_eq,V.plainL_eq,V.plainL_eq,List.all_append]
theorem flat_thwL_append (A B:List V) (n:Nat):V.flat (thwL n (A++B)).1=V.flat (thwL n A).1++V.flat (thwL (n+cvL A) B).1:=by
 rw [thwL_append,thwL_cv,V.flat_append]
theorem flat_thwL_cons (d:V) (B:List V) (n:Nat):V.flat (thwL n (d::B)).1=(thw n d).1.cells++V.flat (thwL (n+cv d) B).1:=by
 simp only [thwL,thw_cv,flat_cons]
section
variable {P:Program} {N:Nat} {ops:Array Oper} {l:List Oper} {K:Kn→S→Prop} {L:Kn} {s:S} {tt:BT} {d:Nat} {ty:TypeId} {p:String} {a:Array Edge} {H H1:List BE}
theorem AnsL.loadHE (ht:tt.ok P) {T:TypeId} {u:Ty} {x:Operand} {k off q:Nat} {cs CA ce CZ:List V} {v:V} (i f:Nat) (hh:Hold s s.next H) (hi:nthO H i=some (.cell k cs)) (hcs:cs=CA++(ce++CZ)) (hq:CA.length=q) (hx:opd L x=some (.ptr k off)) (ho:off=0+q+f) (hT:tt.get T=some u)
   (hr:takeO ce f u.size u.agg=some v):AnsL P (.load T x) L (s.ext []) v:=by
 subst hcs
 obtain ⟨h1,h2⟩:=hh.cell (List.mem_of_getElem? (nthO_eq hi))
 refine .of fun σ hσ _ _ _ _ _=>?_
 have h:=take_mid (CA:=CA) (CZ:=CZ) hr
 rw [hq,show q+f=off by omega] at h
 simp only [vop,opd_eq hσ hx,vload,ht.get hT,ext_vars_lt s [] (show k<s.next by omega),h2,h,Option.bind_some,Option.map_some]
theorem LOps.storeHE (ht:tt.ok P) {T:TypeId} {u:Ty} {x y:Operand} {k off q:Nat} {cs CA ce ce' CZ vs:List V} {v:V} {H':List BE} (i f:Nat) (hh:Hold s s.next H) (hi:nthO H i=some (.cell k cs)) (hcs:cs=CA++(ce++CZ)) (hq:CA.length=q) (hx:opd L x=some (.ptr k off)) (ho:off=0+q+f)
   (hy:opd L y=some v) (hT:tt.get T=some u) (hc:cellsO v=some vs) (h1:onesO vs=true) (hn:Nat.beq vs.length u.size=true) (hsp:splO ce f vs=some ce') (hs:setO H i (.cell k (CA++(ce'++CZ)))=some H')
   (hk:∀ s':S,Hold s' s'.next H'→LOps P N ops l K L (s'.ext [])):LOps P N ops (⟨none,.store T x y,ty,p,a,none⟩::l) K L (s.ext []):=by
 subst hcs
 obtain ⟨g1,g2⟩:=hh.cell (List.mem_of_getElem? (nthO_eq hi))
 refine .stN (v := .und) (s':=(s.setVar k (CA++(ce'++CZ))).ext []) (fun σ hσ => ?_) (hk _ (hh.set hi hs))
 obtain ⟨h2,h3⟩:=splO_eq hsp
 have h4:vs.length=u.size:=Nat.eq_of_beq_eq_true hn
 simp only [vop,opd_eq hσ hx,opd_eq hσ hy,vstore,ht.get hT,ext_vars_lt s [] (show k<s.next by omega),g2,cellsO_eq hc,Option.bind_some]
 have h5:=splice_mid (CA:=CA) (CZ:=CZ) h3
 rw [hq,show q+f=off by omega] at h5
 rw [if_pos ⟨h4,by simp only [List.length_append];omega,onesO_eq h1⟩,h5, ← h2,Option.map_some,ext0_setVar (by omega)]
end
end Go.Proofs.Ytikghanejpigjaa

namespace Go.Proofs.Ytikghanejpigjaa
open Go
theorem OwL.sizes {s:S} {sz:Nat}:∀ {vs ds:List V} {ls:List (Bool × Nat)},OwL s vs ds ls→(∀ d∈ds,d.cells.length=sz)→∀ v∈vs,v.cells.length=sz
 | _,_,_,.nil,_=>fun v hv=>by cases hv
 | _,_,_,.cons h t,hd=>fun v hv=>by
   rcases List.mem_cons.1 hv with rfl | hv
   · rw [← h.rd.cells_len];exact hd _ (by simp)
   · exact t.sizes (fun d h=>hd d (by simp [h])) v hv
theorem flat_app (a b:List V):V.flat (a++b)=V.flat a++V.flat b:=by simp [V.flat]
theorem LeL.perm {a b:List (Bool × Nat)} (h:a.Perm b):LeL a b:=⟨fun n=>h.nodup_iff.2 n,fun _ hp=>h.mem_iff.1 hp⟩
theorem Hold.openO {s:S} {b:Nat} {H:List BE} {c l n:Nat} {dA dZ:List V} {d:V} (sz:Nat) (h:Hold s b (.own (.slm (.is c) l 0 n) (.sl 0 (dA++d::dZ))::H)) (hsz:∀ x∈dA++d::dZ,x.cells.length=sz) :
   ∃ (A Z:List V) (u:V) (rest:List V),(V.flat A).length=dA.length*sz∧rest.length=(c - n)*sz∧n≤c∧n=(dA++d::dZ).length ∧
     Hold s b (.cell l (V.flat A++(u.cells++(V.flat Z++rest))) :: .own u d :: .own (.agg A) (.agg dA) :: .own (.agg Z) (.agg dZ)::H):=by
 obtain ⟨ls,h1,h2,h3⟩:=h.ex
 cases h1 with
 | @cons _ a0 _ b0 k1 k2 =>
   have k1':Ow s (.slm (.is c) l 0 n) (.sl 0 (dA++d::dZ)) a0:=k1
   generalize hds:dA++d::dZ=ds at k1' hsz
   cases k1' with
   | slm0=>simp at hds
   | @slc _ _ _ sz0 us _ rest la q1 q2 q3 q4 q5 q0 q6 =>
     subst hds
     obtain ⟨A,R,la1,la2,rfl,rfl,w1,w2⟩:=q6.split
     cases w2 with
     | @cons u Z _ _ lu lz w3 w4 =>
       have hus:=q6.sizes hsz
       have hu:u.cells.length=sz:=hus u (by simp)
       have hsz0:sz0=sz:=by rw [← q3 u (by simp),hu]
       subst hsz0
       have hp:LeL ([(true,l)]++(lu++(la1++(lz++b0)))) (((la1++(lu++lz))++[(true,l)])++b0):=LeL.perm (List.perm_iff_count.2 fun x=>by simp only [List.count_append];omega)
       refine ⟨A,Z,u,rest,?_,q4,q5,by rw [q6.len,q2],[(true,l)]++(lu++(la1++(lz++b0))),.cons ⟨rfl,?_⟩ (.cons w3 (.cons (show BOk s (.own (.agg A) (.agg dA)) la1 from .agg w1) (.cons (show BOk s (.own (.agg Z) (.agg dZ)) lz from .agg w4) k2))),hp.1 h2,fun p hp'=>h3 p (hp.2 p hp')⟩
       · rw [flat_uniform (fun x hx=>q3 x (by simp [hx])),w1.len]
       · rw [q1, flat_app, flat_cons]
         simp only [List.append_assoc]
theorem Hold.shutO {s:S} {b:Nat} {H:List BE} {c l n:Nat} {dA dZ A Z rest ce:List V} {u d:V} (sz:Nat) (h:Hold s b (.cell l (V.flat A++(ce++(V.flat Z++rest))) :: .own u d :: .own (.agg A) (.agg dA) :: .own (.agg Z) (.agg dZ)::H)) (hce:ce=u.cells)
   (hsz:∀ x∈dA++d::dZ,x.cells.length=sz) (hr:rest.length=(c - n)*sz) (hnc:n≤c) (hn:n=(dA++d::dZ).length):Hold s b (.own (.slm (.is c) l 0 n) (.sl 0 (dA++d::dZ))::H):=by
 subst hce
 obtain ⟨ls,h1,h2,h3⟩:=h.ex
 cases h1 with
 | @cons _ a0 _ b0 k1 h1=>cases h1 with
   | @cons _ a1 _ b1 k2 h1=>cases h1 with
     | @cons _ a2 _ b2 k3 h1=>cases h1 with
       | @cons _ a3 _ b3 k4 h1 =>
         obtain ⟨e1,e2⟩:=k1
         have k2':Ow s u d a1:=k2
         have k3':OwL s A dA a2:=by
           have k:Ow s (.agg A) (.agg dA) a2:=k3
           cases k with
           | scal h=>simp [V.scal] at h
           | agg h=>exact h
         have k4':OwL s Z dZ a3:=by
           have k:Ow s (.agg Z) (.agg dZ) a3:=k4
           cases k with
           | scal h=>simp [V.scal] at h
           | agg h=>exact h
         have hw:OwL s (A++u::Z) (dA++d::dZ) (a2++(a1++a3)):=k3'.append (.cons k2' k4')
         have hp:LeL (((a2++(a1++a3))++[(true,l)])++b3) (a0++(a1++(a2++(a3++b3)))):=by
           rw [e1]
           exact LeL.perm (List.perm_iff_count.2 fun x=>by simp only [List.count_append];omega)
         refine ⟨_,.cons (show BOk s (.own _ _) _ from .slc (us:=A++u::Z) (rest:=rest) ?_ (by rw [hn,hw.len]) (hw.sizes hsz) hr hnc (by simp) hw) h1,hp.1 h2,fun p hp'=>h3 p (hp.2 p hp')⟩
         rw [e2,flat_app,flat_cons]
         simp only [List.append_assoc]
theorem Hold.unscal {s:S} {b:Nat} {H:List BE} {v d:V} {vs ds:List V} (h:Hold s b (.own (.agg (v::vs)) (.agg (d::ds))::H)) (hd:d.scal=true):v=d∧Hold s b (.own (.agg vs) (.agg ds)::H) :=
 ⟨h.unagg.scalOk hd,h.unagg.drop1⟩
theorem AnsL.idxO {P:Program} {L:Kn} {s:S} {tt:BT} (ht:tt.ok P) {T e:TypeId} {t te:Ty} {x i:Operand} {ex:Cp} {b off len j:Nat} {k:IntKind} (hx:opd L x=some (.slm ex b off len)) (hi:opd L i=some (.int k (j:Int))) (hT:tt.get T=some t) (hkd:t.kd = .slice e)
   (hte:tt.get e=some te) (hj:j<len):AnsL P (.indexAddr T x i) L s (.ptr b (off+j*te.size)) := .idxM ht hx hi hT hkd hte hj
end Go.Proofs.Ytikghanejpigjaa

namespace Go.Proofs.Ytikghanejpigjaa
open Go
set_option linter.unusedSimpArgs false
set_option linter.unusedVariables false
set_option maxRecDepth 100000 in
set_option maxHeartbeats 4000000 in
theorem specl5Bent_d {b:V} (hb:Bytes b):Drw Try.prog 53 b [] Val.toV (fun x=>x.text.length≤820):=by
 intro s H l i h hi hh
 refine LCalls.body0 Try.func53 rfl (by kernel_rfl) ?_
 repeat' first |(refine kAlloc ?_ ;refine LOps.allocH tT_ok hh rfl rfl ?_ ;intro s n hh) |(refine kStore ?_ ;first |(refine LOps.storeH tT_ok 0 hh rfl rfl rfl rfl rfl rfl rfl rfl rfl ?_ ;intro s hh) |(refine LOps.storeH tT_ok 1 hh rfl rfl rfl rfl rfl rfl rfl rfl rfl ?_ ;intro s hh) |(refine LOps.storeH tT_ok 2 hh rfl rfl rfl rfl rfl rfl rfl rfl rfl ?_ ;intro s hh)) |(refine kBsl ?_ ;refine' LOps.bslH tT_ok rfl rfl rfl rfl rfl rfl rfl rfl hh ?_ ?_ ?_ ;rotate_left 2 ;(focus ((repeat' first |(exact ConsL.pls rfl rfl));done)) ;(focus ((repeat' first |(exact ElsH.of rfl));done)) ;intro s n hh) |(refine kCallN 26 ?_ ;first |(refine LOps.drawH 0 rfl rfl ok26 hh rfl rfl ?_ (specl1Below_d hb (by omega)) ?_ ;(focus (first | assumption | omega)) ;intro s x i h hq hi hh ;try dsimp only) |(refine LOps.drawH 1 rfl rfl ok26 hh rfl rfl ?_ (specl1Below_d hb (by omega)) ?_ ;(focus (first | assumption | omega)) ;intro s x i h hq hi hh ;try dsimp only)) |(refine kCallN 89 ?_ ;first |(refine LOps.drawH 0 rfl rfl ok89 hh rfl rfl ?_ (specl1Whole_d hb) ?_ ;(focus (first | assumption | omega)) ;intro s x i h hq hi hh ;try dsimp only)) |(refine kCallN 86 ?_ ;first |(refine LOps.drawH 1 rfl rfl ok86 hh rfl rfl ?_ (specl1Pick_d hb rfl (by simp)) ?_ ;(focus (first | assumption | omega)) ;intro s x i h hq hi hh ;try dsimp only)) |(refine kCallN 88 ?_ ;first |(refine LOps.drawH 1 rfl rfl ok88 hh rfl rfl ?_ (specl5Right_d hb) ?_ ;(focus (first | assumption | omega)) ;intro s x i h hq hi hh ;try dsimp only)) |(refine kOps ?_;first |(refine LOps.nil ?_) |(refine LOps.ev tT_ok rfl ?_) |(refine kLoad ?_;first |(refine LOps.ans (AnsL.loadH tT_ok 1 hh rfl rfl rfl rfl) ?_)) |(refine kBin ?_;first |(refine LOps.ans (AnsL.sub rfl rfl ?_) ?_;(focus (constructor <;> omega))))) |(refine kWL ?_;first |(refine WL.seq ?_) |(refine WL.region (by kernel_rfl) ?_) |(refine WL.block ?_) |(refine WL.skip ?_) |(refine WL.ret ?_) |(refine kCond ?_;first |(refine WL.cond rfl (fun h=>?_) (fun h=>?_)))) |(refine lthen_n ?_) |(refine lblock_n ?_) |(refine' LPost.r1 (r := .cell 2 33) (.inl rfl) ?_ ?_;rotate_left 1;(focus (first |(exact Res1.cellH 2 tT_ok hh rfl rfl rfl rfl))))
 any_goals
   apply Drw.fin (x:=⟨_,_,_⟩) (hh:=hh)
   case hv=>first | exact Val.agg_eq _ _ _ | rfl
   case hs =>
     first |(refine Sel.cons 0 rfl rfl ?_) |(refine Sel.cons 1 rfl rfl ?_) |(refine Sel.cons 2 rfl rfl ?_)
     repeat' first |(exact Sel.refl _) |(refine Sel.drop ?_)
   case hi=>assumption
   case hp=>first |(dsimp only;omega) |(dsimp only;have:=pick_len (n:=4) (by assumption) rfl;omega)
 rename_i nr hh6 s5 xv i1 h4 hq1 hi1 hh5 s4 nv hh4 s3 hh3 s2 x0 i0 h3 hq0 hi0 hh2 c0 c1 c2 s1 hh1 s0 hh0
 have hx4:x.length≤4:=pick_len (by assumption) rfl
 refine WL.loopH (fun x:List UInt8 × Int × Int=>400 - x.1.length) (fun _=>[(0,.ptr l 0),(3,.ptr nv 0),(2,.ptr nr 0)]) (fun x => .cell nv [.int .i64 xv.kind,.int .i64 xv.num,.str x.1] :: .cell l (curC b x.2.1 x.2.2) :: .cell nr [.int .i64 0,.int .i64 0,.str []]::H)
   (fun x=>0≤x.2.1∧x.1.length≤820) (x,i,h) ⟨hi,by dsimp only;omega⟩ ⟨rfl,rfl,rfl,trivial⟩ hh ?_ (fun y s hI hh=>?_)
 · repeat' first |(exact Sel.refl _) |(refine Sel.cons 0 rfl rfl ?_) |(refine Sel.cons 1 rfl rfl ?_) |(refine Sel.cons 2 rfl rfl ?_) |(refine Sel.cons 3 rfl rfl ?_) |(refine Sel.drop ?_)
 obtain ⟨t,i,h⟩:=y
 dsimp only at hI hh ⊢
 obtain ⟨hI,ht⟩:=hI
 have hmx:(maxLen:Int)=9223372036854775807:=rfl
 by_cases hlt:(t.length:Int)<400
 · skip
   repeat' first |(refine kStore ?_ ;first |(refine LOps.storeH tT_ok 1 hh rfl rfl rfl rfl rfl rfl rfl rfl rfl ?_ ;intro s hh) |(refine LOps.storeH tT_ok 2 hh rfl rfl rfl rfl rfl rfl rfl rfl rfl ?_ ;intro s hh)) |(refine kCallN 39 ?_ ;first |(refine LOps.drawH 1 rfl rfl ok39 hh rfl rfl ?_ (specl1Once_d hb (by omega)) ?_ ;(focus (first | assumption | omega)) ;intro s x i h hq hi hh ;try dsimp only)) |(refine kOps ?_;first |(refine LOps.nil ?_) |(refine kG ?_;first |(refine LOps.gT rfl rfl rfl ?_) |(refine LOps.gF rfl rfl rfl ?_) |(refine LOps.gC rfl rfl rfl (fun h=>?_) (fun h=>?_))) |(refine LOps.ev tT_ok rfl ?_) |(refine kLoad ?_;first |(refine LOps.ans (AnsL.loadH tT_ok 1 hh rfl rfl rfl rfl) ?_)) |(refine kBin ?_;first |(refine LOps.ans (AnsL.cat rfl rfl ?_) ?_;(focus (first | omega |(simp;omega)))))) |(refine kWL ?_;first |(refine WL.seq ?_) |(refine WL.region (by kernel_rfl) ?_) |(refine WL.block ?_) |(refine WL.exit ?_) |(refine WL.skip ?_) |(refine WL.ret ?_) |(refine kCond ?_;first |(refine WL.condF rfl ?_) |(refine WL.condT' rfl ?_ ?_;(focus (first |(exact decide_eq_true (by assumption))))))) |(refine lthen_n ?_) |(refine lthen_e ?_) |(refine lblock_n ?_) |(refine lblock_e ?_) |(refine lbackH_e ?_) |(refine' LPost.r1 (r := .cell 2 33) (.inl rfl) ?_ ?_;rotate_left 1;(focus (first |(exact Res1.cellH 2 tT_ok hh rfl rfl rfl rfl))))
   any_goals
     apply Drw.fin (x:=⟨_,_,_⟩) (hh:=hh)
     case hv=>first | exact Val.agg_eq _ _ _ | rfl
     case hs =>
       first |(refine Sel.cons 0 rfl rfl ?_) |(refine Sel.cons 1 rfl rfl ?_) |(refine Sel.cons 2 rfl rfl ?_)
       repeat' first |(exact Sel.refl _) |(refine Sel.drop ?_)
     case hi=>assumption
     case hp=>first |(dsimp only;omega) |(dsimp only;have:=pick_len (n:=4) (by assumption) rfl;omega)
   rename_i hx _
   refine lbackH.of ((t++t)++[48,49,50,51,52,53,54,55,56,57],i,hx) ⟨rfl,rfl,rfl,trivial⟩ hh ?_ ?_ ?_
   · repeat' first |(exact Sel.refl _) |(refine Sel.cons 0 rfl rfl ?_) |(refine Sel.cons 1 rfl rfl ?_) |(refine Sel.cons 2 rfl rfl ?_) |(refine Sel.cons 3 rfl rfl ?_)
   · dsimp only
     exact ⟨by assumption,by simp;omega⟩
   · dsimp only;simp only [List.length_append,List.length_cons,List.length_nil];omega
 · skip
   repeat' first |(refine kStore ?_ ;first |(refine LOps.storeH tT_ok 2 hh rfl rfl rfl rfl rfl rfl rfl rfl rfl ?_ ;intro s hh)) |(refine kCallN 39 ?_ ;first |(refine LOps.drawH 1 rfl rfl ok39 hh rfl rfl ?_ (specl1Once_d hb (by omega)) ?_ ;(focus (first | assumption | omega)) ;intro s x i h hq hi hh ;try dsimp only)) |(refine kOps ?_;first |(refine LOps.nil ?_) |(refine kG ?_;first |(refine LOps.gT rfl rfl rfl ?_) |(refine LOps.gF rfl rfl rfl ?_) |(refine LOps.gC rfl rfl rfl (fun h=>?_) (fun h=>?_))) |(refine LOps.ev tT_ok rfl ?_) |(refine kLoad ?_;first |(refine LOps.ans (AnsL.loadH tT_ok 1 hh rfl rfl rfl rfl) ?_))) |(refine kWL ?_;first |(refine WL.seq ?_) |(refine WL.region (by kernel_rfl) ?_) |(refine WL.exit ?_) |(refine WL.ret ?_) |(refine kCond ?_;first |(refine WL.condF rfl ?_) |(refine WL.condF' rfl ?_ ?_;(focus (first |(exact decide_eq_false (by assumption))))))) |(refine lthen_n ?_) |(refine lthen_e ?_) |(refine lblock_n ?_) |(refine lblock_e ?_) |(refine lbackH_e ?_) |(refine' LPost.r1 (r := .cell 2 33) (.inl rfl) ?_ ?_;rotate_left 1;(focus (first |(exact Res1.cellH 2 tT_ok hh rfl rfl rfl rfl))))
   any_goals
     apply Drw.fin (x:=⟨_,_,_⟩) (hh:=hh)
     case hv=>first | exact Val.agg_eq _ _ _ | rfl
     case hs =>
       first |(refine Sel.cons 0 rfl rfl ?_) |(refine Sel.cons 1 rfl rfl ?_) |(refine Sel.cons 2 rfl rfl ?_)
       repeat' first |(exact Sel.refl _) |(refine Sel.drop ?_)
     case hi=>assumption
     case hp=>first |(dsimp only;omega) |(dsimp only;have:=pick_len (n:=4) (by assumption) rfl;omega)
theorem wgt_snoc {α : Type} (f : α → V) (l:List α) (x : α):wgt (.sl 0 ((l++[x]).map f))=wgt (.sl 0 (l.map f))+(1+wgt (f x)):=by
 rw [wgt_sl,wgt_sl]
 simp only [slW,sumW,List.map_append,List.sum_append,List.length_append,List.map_cons,List.map_nil,List.sum_cons,List.sum_nil,List.length_cons,List.length_nil]
 omega
theorem wgt_pl0:wgt (PE.planV (⟨[],[],[],[],[],[],false,0⟩:PL))=0:=rfl
theorem wgtL_app:∀ a b:List V,wgtL (a++b)=wgtL a+wgtL b
 | [],b=>by simp [wgtL]
 | x::a,b=>by simp only [List.cons_append,wgtL,wgtL_app a b];omega
theorem wgt_mid (A Z:List V) (d:V):wgt (.sl 0 (A++d::Z))=A.length+Z.length+1+wgtL A+wgt d+wgtL Z:=by
 simp only [wgt,wgtL_app,wgtL,List.length_append,List.length_cons];omega
end Go.Proofs.Ytikghanejpigjaa
