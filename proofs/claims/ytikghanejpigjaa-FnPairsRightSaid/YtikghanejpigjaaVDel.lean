/-
 A slice of one's own, its variable open in the books: cut at both ends, appended to itself in place, cleared behind its end. Own work; no condition.
-/
import Derived.Test.YtikghanejpigjaaVStack
namespace Go.Proofs.Ytikghanejpigjaa
open Go
set_option linter.unusedSimpArgs false
set_option linter.unusedVariables false
theorem slm_slice {P:Program} {E:Env} {T e:TypeId} {ie:TypeInfo} (hd:P.underlying T=some (.slice e)) (hie:P.info? e=some ie) {c lv n a h m:Nat} {xv:Value} (hx:RepV E (.slm (.is c) lv 0 n) xv) (hpos:0<c) {lo hi mx:Option Value}
   (hb:(Instr.sliceBounds true n c lo hi mx).run P E.w = .ok (a,h,m) E.w) (hah:a≤h) (hhm:h≤m) (hmc:m≤c) :
   ∃ val,(Instr.sliceAt T xv lo hi mx).run P E.w = .ok val E.w∧RepV E (.slm (.is (m - a)) lv (if m=a then 0 else a*ie.size) (h - a)) val:=by
 cases hx with
 | slm0=>omega
 | @slm _ _ _ _ cap g q1 q2 q3 q4 =>
   have e:cap=c:=q4
   subst e
   refine ⟨.slice (if m=a then some ⟨g,0,none⟩ else some ⟨g,0+a*ie.size,none⟩) (h - a) (m - a),?_,?_⟩
   · simp only [Instr.sliceAt,Sem.run_bind,run_underlying hd,Result.andThen_ok,Instr.slice,hb,run_sizeOf' hie,Sem.run_pure,Option.map_some,add_eq]
   · split
     · exact .slm q1 (by omega) (by omega) rfl
     · rw [Nat.zero_add];exact .slm q1 (by omega) (by omega) rfl
theorem bnd {k:IntKind} {a d:Nat}:bound (some (.int k (a:Int))) d=some a:=by simp only [bound,Int.toNat_natCast,Int.natCast_nonneg,if_true]
section
variable {P:Program} {E:Env} {n c a h m:Nat} {ka kb kc:IntKind} {av bv mv:Value}
theorem bounds3 (ha:RepV E (.int ka (a:Int)) av) (hb:RepV E (.int kb (h:Int)) bv) (hm:RepV E (.int kc (m:Int)) mv) (h1:a≤h) (h2:h≤m) (h3:m≤c):(Instr.sliceBounds true n c (some av) (some bv) (some mv)).run P E.w = .ok (a,h,m) E.w:=by
 unfold Instr.sliceBounds
 simp [run_sliceBound (P:=P) hm (bnd (d:=0)) h3,run_sliceBound (P:=P) hb (bnd (d:=0)) h2,run_sliceBound (P:=P) ha (bnd (d:=0)) h1]
theorem boundsL (ha:RepV E (.int ka (a:Int)) av) (h1:a≤n):(Instr.sliceBounds true n c (some av) none none).run P E.w = .ok (a,n,c) E.w:=by
 unfold Instr.sliceBounds
 simp [run_sliceBound (P:=P) ha (bnd (d:=0)) h1]
theorem boundsLH (ha:RepV E (.int ka (a:Int)) av) (hb:RepV E (.int kb (h:Int)) bv) (h1:a≤h) (h2:h≤c):(Instr.sliceBounds true n c (some av) (some bv) none).run P E.w = .ok (a,h,c) E.w:=by
 unfold Instr.sliceBounds
 simp [run_sliceBound (P:=P) hb (bnd (d:=0)) h2,run_sliceBound (P:=P) ha (bnd (d:=0)) h1]
end
section
variable {P:Program} {N:Nat} {ops:Array Oper} {l:List Oper} {K:Kn→S→Prop} {L:Kn} {s:S} {tt:BT} {d:Nat} {ty:TypeId} {p:String} {a:Array Edge} {H H1:List BE}
theorem slc_tys (ht:tt.ok P) {T e:TypeId} {t te:Ty} (hT:tt.get T=some t) (hkd:t.kd = .slice e) (hte:tt.get e=some te):∃ ie,P.underlying T=some (.slice e)∧P.info? e=some ie∧te.size=ie.size:=by
 obtain ⟨_,d0,_,hd,hk0,_⟩:=tyOf_parts (ht.get hT)
 obtain ⟨ie,_,hie,_,_,hse,_⟩:=tyOf_parts (ht.get hte)
 rw [hkd] at hk0
 have:d0 = .slice e:=by cases d0 <;> simp [kdOf] at hk0;rw [hk0]
 subst this
 exact ⟨ie,hd,hie,hse⟩
theorem AnsL.slc3 (ht:tt.ok P) {T e:TypeId} {t te:Ty} {x i j k:Operand} {c lv n:Nat} {ka kb kc:IntKind} {x1 x2 x3:Nat} {i1 i2 i3:Int} (hx:opd L x=some (.slm (.is c) lv 0 n)) (hi:opd L i=some (.int ka i1)) (hj:opd L j=some (.int kb i2)) (hk:opd L k=some (.int kc i3))
   (hT:tt.get T=some t) (hkd:t.kd = .slice e) (hte:tt.get e=some te) (e1:i1=(x1:Int)) (e2:i2=(x2:Int)) (e3:i3=(x3:Int)) (h1:x1≤x2) (h2:x2≤x3) (h3:x3≤c) (h4:0<c) :
   AnsL P (.slice T x (some i) (some j) (some k)) L s (.slm (.is (x3 - x1)) lv (if x3=x1 then 0 else x1*te.size) (x2 - x1)):=by
 subst e1 e2 e3
 refine AnsL.geng (vs:=[.slm (.is c) lv 0 n,.int ka x1,.int kb x2,.int kc x3]) (by
   show opdL L [x,i,j,k]=_
   simp only [opdL,hx,hi,hj,hk]) (fun d ty p a g E A hr hrep=>?_)
 have hrep':RepL E [.slm (.is c) lv 0 n,.int ka x1,.int kb x2,.int kc x3] [A.eval x,A.eval i,A.eval j,A.eval k]:=hrep
 cases hrep' with
 | cons r1 r2=>cases r2 with
   | cons r2 r3=>cases r3 with
     | cons r3 r4=>cases r4 with
       | cons r4 r5 =>
         obtain ⟨ie,hd,hie,hse⟩:=slc_tys ht hT hkd hte
         rw [hse]
         exact DoesO.same (m:=Instr.sliceAt T (A.eval x) (some (A.eval i)) (some (A.eval j)) (some (A.eval k))) hr (slm_slice hd hie r1 h4 (bounds3 r2 r3 r4 h1 h2 h3) h1 h2 h3) rfl
theorem AnsL.slcL2 (ht:tt.ok P) {T e:TypeId} {t te:Ty} {x i:Operand} {c lv n:Nat} {ka:IntKind} {x1:Nat} {i1:Int} (hx:opd L x=some (.slm (.is c) lv 0 n)) (hi:opd L i=some (.int ka i1)) (hT:tt.get T=some t) (hkd:t.kd = .slice e) (hte:tt.get e=some te) (e1:i1=(x1:Int)) (h1:x1≤n) (h3:n≤c) (h4:0<c) :
   AnsL P (.slice T x (some i) none none) L s (.slm (.is (c - x1)) lv (if c=x1 then 0 else x1*te.size) (n - x1)):=by
 subst e1
 refine AnsL.geng (vs:=[.slm (.is c) lv 0 n,.int ka x1]) (by
   show opdL L [x,i]=_
   simp only [opdL,hx,hi]) (fun d ty p a g E A hr hrep=>?_)
 have hrep':RepL E [.slm (.is c) lv 0 n,.int ka x1] [A.eval x,A.eval i]:=hrep
 cases hrep' with
 | cons r1 r2=>cases r2 with
   | cons r2 r3 =>
     obtain ⟨ie,hd,hie,hse⟩:=slc_tys ht hT hkd hte
     rw [hse]
     exact DoesO.same (m:=Instr.sliceAt T (A.eval x) (some (A.eval i)) none none) hr (slm_slice hd hie r1 h4 (boundsL r2 h1) h1 h3 (Nat.le_refl c)) rfl
theorem AnsL.slcLH (ht:tt.ok P) {T e:TypeId} {t te:Ty} {x i j:Operand} {c lv n:Nat} {ka kb:IntKind} {x1 x2:Nat} {i1 i2:Int} (hx:opd L x=some (.slm (.is c) lv 0 n)) (hi:opd L i=some (.int ka i1)) (hj:opd L j=some (.int kb i2)) (hT:tt.get T=some t) (hkd:t.kd = .slice e) (hte:tt.get e=some te) (e1:i1=(x1:Int)) (e2:i2=(x2:Int)) (h1:x1≤x2) (h3:x2≤c) (h4:0<c) :
   AnsL P (.slice T x (some i) (some j) none) L s (.slm (.is (c - x1)) lv (if c=x1 then 0 else x1*te.size) (x2 - x1)):=by
 subst e1 e2
 refine AnsL.geng (vs:=[.slm (.is c) lv 0 n,.int ka x1,.int kb x2]) (by
   show opdL L [x,i,j]=_
   simp only [opdL,hx,hi,hj]) (fun d ty p a g E A hr hrep=>?_)
 have hrep':RepL E [.slm (.is c) lv 0 n,.int ka x1,.int kb x2] [A.eval x,A.eval i,A.eval j]:=hrep
 cases hrep' with
 | cons r1 r2=>cases r2 with
   | cons r2 r3=>cases r3 with
     | cons r3 r4 =>
       obtain ⟨ie,hd,hie,hse⟩:=slc_tys ht hT hkd hte
       rw [hse]
       exact DoesO.same (m:=Instr.sliceAt T (A.eval x) (some (A.eval i)) (some (A.eval j)) none) hr (slm_slice hd hie r1 h4 (boundsLH r2 r3 h1 h3) h1 h3 (Nat.le_refl c)) rfl
end
end Go.Proofs.Ytikghanejpigjaa
