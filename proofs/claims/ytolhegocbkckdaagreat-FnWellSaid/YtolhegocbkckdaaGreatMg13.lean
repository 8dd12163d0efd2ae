/-
  Memory of one's own taken apart and put together again; calls that turn it; elements read and written.
  An element of an owned slice, taken out and put back.
  The sizes, zeros and fields of the types of this translation, as closed facts. Printed by a program of our own; no condition.
  Own work; no condition.
-/
import Derived.Test.YtolhegocbkckdaaGreatMg11
import Derived.Test.YtolhegocbkckdaaGreatVCap
import Derived.Test.YtolhegocbkckdaaGreatVCode
import Derived.Test.YtolhegocbkckdaaGreatChecked
import Derived.KernelRfl
namespace Go.Proofs.YtolhegocbkckdaaGreat
open Go
theorem Hold.split {s:S} {H:List BE} {b n:Nat} {d d1 d2:V} (h:Hold s b (.blk n d::H)) (hc:cv d=cv d1+cv d2) (ht:(kH n d).2=(kH n d1).2++(kH (n+cv d1) d2).2) (p1:d1.plain=true) (p2:d2.plain=true) :
   Hold s b (.blk n d1 :: .blk (n+cv d1) d2::H):=by
 obtain ⟨ls,h1,h2,h3⟩:=h.ex
 cases h1 with
 | cons k1 k2 =>
   obtain ⟨e1,e2,e3,e4⟩:=k1
   rename_i a0 b0
   have hv:vl n (cv d1)++(vl (n+cv d1) (cv d2)++b0)=a0++b0:=by rw [← List.append_assoc,iA,e1,hc]
   rw [ht] at e3
   have e5:=e3.right
   rw [aH] at e5
   exact ⟨vl n (cv d1)++(vl (n+cv d1) (cv d2)++b0),.cons ⟨rfl,p1,e3.left,by omega⟩ (.cons ⟨rfl,p2,e5,by omega⟩ k2),by rw [hv];exact h2,by rw [hv];exact h3⟩
theorem AU (a b:List V):V.xV (a++b)=(V.xV a&&V.xV b):=by
 rw [V.aX,V.aX,V.aX,List.all_append]
theorem YT (A B:List V) (n:Nat):V.flat (xZ n (A++B)).1=V.flat (xZ n A).1++V.flat (xZ (n+bV A) B).1:=by
 rw [bK,uq,V.K9]
theorem U7 (d:V) (B:List V) (n:Nat):V.flat (xZ n (d::B)).1=(kH n d).1.cells++V.flat (xZ (n+cv d) B).1:=by
 simp only [xZ,aH,vZ]
section
variable {P:Program} {N:Nat} {ops:Array Oper} {l:List Oper} {K:Kn→S→Prop} {L:Kn} {s:S} {tt:BT} {d:Nat} {ty:TypeId} {p:String} {a:Array Edge} {H H1:List BE}
theorem zk.pJ (ht:tt.ok P) {T:TypeId} {u:Ty} {x:Operand} {k off q:Nat} {cs CA ce CZ:List V} {v:V} (i f:Nat) (hh:Hold s s.next H) (hi:kK H i=some (.cell k cs)) (hcs:cs=CA++(ce++CZ)) (hq:CA.length=q) (hx:jf L x=some (.ptr k off)) (ho:off=0+q+f) (hT:tt.get T=some u)
   (hr:gq ce f u.size u.agg=some v):zk P (.load T x) L (s.ext []) v:=by
 subst hcs
 obtain ⟨h1,h2⟩:=hh.cell (List.mem_of_getElem? (kF hi))
 refine .of fun σ hσ _ _ _ _ _=>?_
 have h:=UE (CA:=CA) (CZ:=CZ) hr
 rw [hq,show q+f=off by omega] at h
 simp only [vU,qd hσ hx,eF,ht.get hT,kg s [] (show k<s.next by omega),h2,h,Option.bind_some,Option.map_some]
theorem zq.ak (ht:tt.ok P) {T:TypeId} {u:Ty} {x y:Operand} {k off q:Nat} {cs CA ce Nf CZ vs:List V} {v:V} {H':List BE} (i f:Nat) (hh:Hold s s.next H) (hi:kK H i=some (.cell k cs)) (hcs:cs=CA++(ce++CZ)) (hq:CA.length=q) (hx:jf L x=some (.ptr k off)) (ho:off=0+q+f)
   (hy:jf L y=some v) (hT:tt.get T=some u) (hc:yt v=some vs) (h1:eH vs=true) (hn:Nat.beq vs.length u.size=true) (hsp:Z5 ce f vs=some Nf) (hs:fC H i (.cell k (CA++(Nf++CZ)))=some H')
   (hk:∀ s':S,Hold s' s'.next H'→zq P N ops l K L (s'.ext [])):zq P N ops (⟨none,.store T x y,ty,p,a,none⟩::l) K L (s.ext []):=by
 subst hcs
 obtain ⟨g1,g2⟩:=hh.cell (List.mem_of_getElem? (kF hi))
 refine .M5 (v := .und) (s':=(s.qL k (CA++(Nf++CZ))).ext []) (fun σ hσ => ?_) (hk _ (hh.set hi hs))
 obtain ⟨h2,h3⟩:=iX hsp
 have h4:vs.length=u.size:=Nat.eq_of_beq_eq_true hn
 simp only [vU,qd hσ hx,qd hσ hy,lS,ht.get hT,kg s [] (show k<s.next by omega),g2,vG hc,Option.bind_some]
 have h5:=Vh (CA:=CA) (CZ:=CZ) h3
 rw [hq,show q+f=off by omega] at h5
 rw [if_pos ⟨h4,by simp only [List.length_append];omega,cB h1⟩,h5, ← h2,Option.map_some,bW (by omega)]
end
end Go.Proofs.YtolhegocbkckdaaGreat

namespace Go.Proofs.YtolhegocbkckdaaGreat
open Go
theorem gu.sizes {s:S} {sz:Nat}:∀ {vs ds:List V} {ls:List (Bool × Nat)},gu s vs ds ls→(∀ d∈ds,d.cells.length=sz)→∀ v∈vs,v.cells.length=sz
 | _,_,_,.nil,_=>fun v hv=>by cases hv
 | _,_,_,.cons h t,hd=>fun v hv=>by
   rcases List.mem_cons.1 hv with rfl | hv
   · rw [← h.rd.qA];exact hd _ (by simp)
   · exact t.sizes (fun d h=>hd d (by simp [h])) v hv
theorem Jy (a b:List V):V.flat (a++b)=V.flat a++V.flat b:=by simp [V.flat]
theorem j4.perm {a b:List (Bool × Nat)} (h:a.Perm b):j4 a b:=⟨fun n=>h.nodup_iff.2 n,fun _ hp=>h.mem_iff.1 hp⟩
theorem Hold.lq {s:S} {b:Nat} {H:List BE} {c l n:Nat} {dA dZ:List V} {d:V} (sz:Nat) (h:Hold s b (.own (.qJ (.is c) l 0 n) (.sl 0 (dA++d::dZ))::H)) (hsz:∀ x∈dA++d::dZ,x.cells.length=sz) :
   ∃ (A Z:List V) (u:V) (rest:List V),(V.flat A).length=dA.length*sz∧rest.length=(c - n)*sz∧n≤c∧n=(dA++d::dZ).length ∧
     Hold s b (.cell l (V.flat A++(u.cells++(V.flat Z++rest))) :: .own u d :: .own (.agg A) (.agg dA) :: .own (.agg Z) (.agg dZ)::H):=by
 obtain ⟨ls,h1,h2,h3⟩:=h.ex
 cases h1 with
 | @cons _ a0 _ b0 k1 k2 =>
   have k1':Ow s (.qJ (.is c) l 0 n) (.sl 0 (dA++d::dZ)) a0:=k1
   generalize hds:dA++d::dZ=ds at k1' hsz
   cases k1' with
   | jS=>simp at hds
   | @slc _ _ _ FN us _ rest la q1 q2 q3 q4 q5 q0 q6 =>
     subst hds
     obtain ⟨A,R,Mj,R9,rfl,rfl,w1,w2⟩:=q6.split
     cases w2 with
     | @cons u Z _ _ lu lz w3 w4 =>
       have QD:=q6.sizes hsz
       have hu:u.cells.length=sz:=QD u (by simp)
       have hsz0:FN=sz:=by rw [← q3 u (by simp),hu]
       subst hsz0
       have hp:j4 ([(true,l)]++(lu++(Mj++(lz++b0)))) (((Mj++(lu++lz))++[(true,l)])++b0):=j4.perm (List.perm_iff_count.2 fun x=>by simp only [List.count_append];omega)
       refine ⟨A,Z,u,rest,?_,q4,q5,by rw [q6.len,q2],[(true,l)]++(lu++(Mj++(lz++b0))),.cons ⟨rfl,?_⟩ (.cons w3 (.cons (show Km s (.own (.agg A) (.agg dA)) Mj from .agg w1) (.cons (show Km s (.own (.agg Z) (.agg dZ)) lz from .agg w4) k2))),hp.1 h2,fun p hp'=>h3 p (hp.2 p hp')⟩
       · rw [jT (fun x hx=>q3 x (by simp [hx])),w1.len]
       · rw [q1, Jy, vZ]
         simp only [List.append_assoc]
theorem Hold.QG {s:S} {b:Nat} {H:List BE} {c l n:Nat} {dA dZ A Z rest ce:List V} {u d:V} (sz:Nat) (h:Hold s b (.cell l (V.flat A++(ce++(V.flat Z++rest))) :: .own u d :: .own (.agg A) (.agg dA) :: .own (.agg Z) (.agg dZ)::H)) (hce:ce=u.cells)
   (hsz:∀ x∈dA++d::dZ,x.cells.length=sz) (hr:rest.length=(c - n)*sz) (hnc:n≤c) (hn:n=(dA++d::dZ).length):Hold s b (.own (.qJ (.is c) l 0 n) (.sl 0 (dA++d::dZ))::H):=by
 subst hce
 obtain ⟨ls,h1,h2,h3⟩:=h.ex
 cases h1 with
 | @cons _ a0 _ b0 k1 h1=>cases h1 with
   | @cons _ a1 _ b1 k2 h1=>cases h1 with
     | @cons _ a2 _ b2 k3 h1=>cases h1 with
       | @cons _ a3 _ b3 k4 h1 =>
         obtain ⟨e1,e2⟩:=k1
         have k2':Ow s u d a1:=k2
         have Rf:gu s A dA a2:=by
           have k:Ow s (.agg A) (.agg dA) a2:=k3
           cases k with
           | qP h=>simp [V.qP] at h
           | agg h=>exact h
         have Rh:gu s Z dZ a3:=by
           have k:Ow s (.agg Z) (.agg dZ) a3:=k4
           cases k with
           | qP h=>simp [V.qP] at h
           | agg h=>exact h
         have hw:gu s (A++u::Z) (dA++d::dZ) (a2++(a1++a3)):=Rf.append (.cons k2' Rh)
         have hp:j4 (((a2++(a1++a3))++[(true,l)])++b3) (a0++(a1++(a2++(a3++b3)))):=by
           rw [e1]
           exact j4.perm (List.perm_iff_count.2 fun x=>by simp only [List.count_append];omega)
         refine ⟨_,.cons (show Km s (.own _ _) _ from .slc (us:=A++u::Z) (rest:=rest) ?_ (by rw [hn,hw.len]) (hw.sizes hsz) hr hnc (by simp) hw) h1,hp.1 h2,fun p hp'=>h3 p (hp.2 p hp')⟩
         rw [e2,Jy,vZ]
         simp only [List.append_assoc]
theorem Hold.dR {s:S} {b:Nat} {H:List BE} {v d:V} {vs ds:List V} (h:Hold s b (.own (.agg (v::vs)) (.agg (d::ds))::H)) (hd:d.qP=true):v=d∧Hold s b (.own (.agg vs) (.agg ds)::H) :=
 ⟨h.Jj.Vn hd,h.Jj.drop1⟩
theorem zk.Ea {P:Program} {L:Kn} {s:S} {tt:BT} (ht:tt.ok P) {T e:TypeId} {t te:Ty} {x i:Operand} {ex:Cp} {b off len j:Nat} {k:IntKind} (hx:jf L x=some (.qJ ex b off len)) (hi:jf L i=some (.int k (j:Int))) (hT:tt.get T=some t) (hkd:t.kd = .slice e)
   (hte:tt.get e=some te) (hj:j<len):zk P (.indexAddr T x i) L s (.ptr b (off+j*te.size)) := .F4 ht hx hi hT hkd hte hj
end Go.Proofs.YtolhegocbkckdaaGreat

namespace Go.Proofs.YtolhegocbkckdaaGreat
open Go
@[simp] theorem Gf:xD Tryz.prog 2=some ⟨1,8,[.int .i64 0],.int .i64⟩:=by kernel_rfl
@[simp] theorem Ri:xD Tryz.prog 3=some ⟨1,8,[.int .i64 0],.int .i64⟩:=by kernel_rfl
@[simp] theorem Rl:xD Tryz.prog 4=some ⟨1,1,[.bool false],.bool⟩:=by kernel_rfl
@[simp] theorem Rm:xD Tryz.prog 5=some ⟨1,1,[.int .u8 0],.int .u8⟩:=by kernel_rfl
@[simp] theorem Rn:xD Tryz.prog 9=some ⟨1,16,[.str []],.string⟩:=by kernel_rfl
@[simp] theorem Ng:xD Tryz.prog 12=some ⟨1,8,[.int .u64 0],.int .u64⟩:=by kernel_rfl
@[simp] theorem Nh:xD Tryz.prog 21=some ⟨1,4,[.int .i32 0],.int .i32⟩:=by kernel_rfl
@[simp] theorem Ni:xD Tryz.prog 22=some ⟨1,24,[.zl],.slice 5⟩:=by kernel_rfl
@[simp] theorem Nl:xD Tryz.prog 24=some ⟨1,24,[.zl],.slice 64⟩:=by kernel_rfl
@[simp] theorem Nn:xD Tryz.prog 26=some ⟨1,24,[.zl],.struct [⟨0,1,false,0⟩] true⟩:=by kernel_rfl
@[simp] theorem Np:xD Tryz.prog 27=some ⟨1,24,[.zl],.slice 3⟩:=by kernel_rfl
@[simp] theorem Nr:xD Tryz.prog 28=some ⟨1,24,[.zl],.slice 29⟩:=by kernel_rfl
@[simp] theorem Ns:xD Tryz.prog 29=some ⟨1,24,[.zl],.slice 48⟩:=by kernel_rfl
@[simp] theorem Nt:xD Tryz.prog 30=some ⟨1,24,[.zl],.slice 59⟩:=by kernel_rfl
@[simp] theorem NZ:xD Tryz.prog 31=some ⟨1,24,[.zl],.slice 9⟩:=by kernel_rfl
@[simp] theorem NQ:xD Tryz.prog 33=some ⟨8,160,[.zl,.zl,.zl,.zl,.zl,.zl,.bool false,.int .i64 0],.struct [⟨0,1,false,0⟩,⟨1,1,false,0⟩,⟨2,1,false,0⟩,⟨3,1,false,0⟩,⟨4,1,false,0⟩,⟨5,1,false,0⟩,⟨6,1,false,3⟩,⟨7,1,false,1⟩] true⟩:=by kernel_rfl
@[simp] theorem NK:xD Tryz.prog 42=some ⟨1,24,[.zl],.slice 97⟩:=by kernel_rfl
@[simp] theorem NJ:xD Tryz.prog 45=some ⟨3,32,[.int .i64 0,.int .i64 0,.str []],.struct [⟨0,1,false,1⟩,⟨1,1,false,1⟩,⟨2,1,false,2⟩] true⟩:=by kernel_rfl
@[simp] theorem NV:xD Tryz.prog 46=some ⟨1,24,[.zl],.slice 33⟩:=by kernel_rfl
@[simp] theorem NW:xD Tryz.prog 48=some ⟨10,120,[.int .i64 0,.int .i64 0,.bool false,.int .i64 0,.int .i64 0,.str [],.int .i64 0,.int .i64 0,.zl,.zl],.struct [⟨0,1,false,1⟩,⟨1,1,false,1⟩,⟨2,1,false,3⟩,⟨3,3,true,0⟩,⟨6,1,false,1⟩,⟨7,1,false,1⟩,⟨8,1,false,0⟩,⟨9,1,false,0⟩] true⟩:=by kernel_rfl
@[simp] theorem NY:xD Tryz.prog 50=some ⟨1,8,[.kC],.other⟩:=by kernel_rfl
@[simp] theorem NU:xD Tryz.prog 54=some ⟨1,24,[.zl],.slice 27⟩:=by kernel_rfl
@[simp] theorem NA:xD Tryz.prog 59=some ⟨11,128,[.int .i64 0,.int .i64 0,.bool false,.int .i64 0,.int .i64 0,.str [],.int .i64 0,.int .i64 0,.zl,.zl,.bool false],.struct [⟨0,10,true,0⟩,⟨10,1,false,3⟩] true⟩:=by kernel_rfl
@[simp] theorem NC:xD Tryz.prog 62=some ⟨1,24,[.zl],.slice 69⟩:=by kernel_rfl
@[simp] theorem ND:xD Tryz.prog 64=some ⟨2,40,[.str [],.zl],.struct [⟨0,1,false,2⟩,⟨1,1,false,0⟩] true⟩:=by kernel_rfl
@[simp] theorem NG:xD Tryz.prog 69=some ⟨2,24,[.str [],.int .i64 0],.struct [⟨0,1,false,2⟩,⟨1,1,false,1⟩] true⟩:=by kernel_rfl
@[simp] theorem NH:xD Tryz.prog 97=some ⟨3,24,[.int .i64 0,.int .i64 0,.int .i64 0],.struct [⟨0,1,false,1⟩,⟨1,1,false,1⟩,⟨2,1,false,1⟩] true⟩:=by kernel_rfl
@[simp] theorem NM:xD Tryz.prog 99=some ⟨3,40,[.zl,.int .i64 0,.int .i64 0],.struct [⟨0,1,false,0⟩,⟨1,1,false,1⟩,⟨2,1,false,1⟩] true⟩:=by kernel_rfl
@[simp] theorem Gt:xD Tryz.prog 115=some ⟨7,32,[.bool false,.bool false,.bool false,.bool false,.int .i64 0,.int .i64 0,.int .i64 0],.struct [⟨0,1,false,3⟩,⟨1,1,false,3⟩,⟨2,1,false,3⟩,⟨3,1,false,3⟩,⟨4,1,false,1⟩,⟨5,1,false,1⟩,⟨6,1,false,1⟩] true⟩:=by kernel_rfl
@[simp] theorem GZ:xD Tryz.prog 118=some ⟨1,24,[.zl],.slice 121⟩:=by kernel_rfl
@[simp] theorem GQ:xD Tryz.prog 119=some ⟨1,24,[.zl],.slice 162⟩:=by kernel_rfl
@[simp] theorem GX:xD Tryz.prog 121=some ⟨10,136,[.int .i64 0,.int .i64 0,.bool false,.int .i64 0,.int .i64 0,.str [],.str [],.str [],.zl,.zl],.struct [⟨0,1,false,1⟩,⟨1,1,false,1⟩,⟨2,1,false,3⟩,⟨3,3,true,0⟩,⟨6,1,false,2⟩,⟨7,1,false,2⟩,⟨8,1,false,0⟩,⟨9,1,false,0⟩] true⟩:=by kernel_rfl
@[simp] theorem GK:xD Tryz.prog 130=some ⟨1,8,[.int .u64 0],.int .u64⟩:=by kernel_rfl
@[simp] theorem GJ:xD Tryz.prog 149=some ⟨1,4,[.int .u32 0],.int .u32⟩:=by kernel_rfl
@[simp] theorem GV:xD Tryz.prog 153=some ⟨1,8,[.kC],.other⟩:=by kernel_rfl
@[simp] theorem GY:xD Tryz.prog 158=some ⟨1,24,[.zl],.slice 165⟩:=by kernel_rfl
@[simp] theorem GU:xD Tryz.prog 159=some ⟨1,24,[.zl],.slice 167⟩:=by kernel_rfl
@[simp] theorem GA:xD Tryz.prog 160=some ⟨1,24,[.zl],.slice 169⟩:=by kernel_rfl
@[simp] theorem GD:xD Tryz.prog 162=some ⟨6,112,[.bool false,.zl,.zl,.zl,.zl,.int .i64 0],.struct [⟨0,1,false,3⟩,⟨1,1,false,0⟩,⟨2,1,false,0⟩,⟨3,1,false,0⟩,⟨4,1,false,0⟩,⟨5,1,false,1⟩] true⟩:=by kernel_rfl
@[simp] theorem GH:xD Tryz.prog 165=some ⟨13,176,[.bool false,.str [],.int .i64 0,.int .i64 0,.bool false,.int .i64 0,.int .i64 0,.str [],.str [],.str [],.zl,.zl,.str []],.struct [⟨0,1,false,3⟩,⟨1,1,false,2⟩,⟨2,10,true,0⟩,⟨12,1,false,2⟩] true⟩:=by kernel_rfl
@[simp] theorem GL:xD Tryz.prog 167=some ⟨3,56,[.str [],.str [],.zl],.struct [⟨0,1,false,2⟩,⟨1,1,false,2⟩,⟨2,1,false,0⟩] true⟩:=by kernel_rfl
@[simp] theorem GN:xD Tryz.prog 169=some ⟨11,144,[.int .i64 0,.int .i64 0,.bool false,.int .i64 0,.int .i64 0,.str [],.str [],.str [],.zl,.zl,.bool false],.struct [⟨0,10,true,0⟩,⟨10,1,false,3⟩] true⟩:=by kernel_rfl
theorem Sz:zW Tryz.prog 3:=⟨by kernel_rfl⟩
theorem Ph:zW Tryz.prog 4:=⟨by kernel_rfl⟩
theorem Ro:zW Tryz.prog 5:=⟨by kernel_rfl⟩
theorem GR:zW Tryz.prog 6:=⟨by kernel_rfl⟩
theorem AA:zW Tryz.prog 7:=⟨by kernel_rfl⟩
theorem G5:zW Tryz.prog 8:=⟨by kernel_rfl⟩
theorem Eb:zW Tryz.prog 9:=⟨by kernel_rfl⟩
theorem Y0:zW Tryz.prog 10:=⟨by kernel_rfl⟩
theorem BD:zW Tryz.prog 11:=⟨by kernel_rfl⟩
theorem NP:zW Tryz.prog 12:=⟨by kernel_rfl⟩
theorem NR:zW Tryz.prog 13:=⟨by kernel_rfl⟩
theorem Y1:zW Tryz.prog 14:=⟨by kernel_rfl⟩
theorem NS:zW Tryz.prog 15:=⟨by kernel_rfl⟩
theorem ok16:zW Tryz.prog 16:=⟨by kernel_rfl⟩
theorem G6:zW Tryz.prog 17:=⟨by kernel_rfl⟩
theorem Ec:zW Tryz.prog 18:=⟨by kernel_rfl⟩
theorem Ed:zW Tryz.prog 19:=⟨by kernel_rfl⟩
theorem G7:zW Tryz.prog 20:=⟨by kernel_rfl⟩
theorem BF:zW Tryz.prog 21:=⟨by kernel_rfl⟩
theorem BG:zW Tryz.prog 22:=⟨by kernel_rfl⟩
theorem Ju:zW Tryz.prog 23:=⟨by kernel_rfl⟩
theorem Y2:zW Tryz.prog 24:=⟨by kernel_rfl⟩
theorem Ze:zW Tryz.prog 25:=⟨by kernel_rfl⟩
theorem Ee:zW Tryz.prog 26:=⟨by kernel_rfl⟩
theorem jO:zW Tryz.prog 27:=⟨by kernel_rfl⟩
theorem BH:zW Tryz.prog 28:=⟨by kernel_rfl⟩
theorem Ef:zW Tryz.prog 29:=⟨by kernel_rfl⟩
theorem Eh:zW Tryz.prog 30:=⟨by kernel_rfl⟩
theorem G8:zW Tryz.prog 31:=⟨by kernel_rfl⟩
theorem ok32:zW Tryz.prog 32:=⟨by kernel_rfl⟩
theorem U8:zW Tryz.prog 33:=⟨by kernel_rfl⟩
theorem Vr:zW Tryz.prog 34:=⟨by kernel_rfl⟩
theorem NT:zW Tryz.prog 35:=⟨by kernel_rfl⟩
theorem N7:zW Tryz.prog 36:=⟨by kernel_rfl⟩
theorem N8:zW Tryz.prog 37:=⟨by kernel_rfl⟩
theorem vE:zW Tryz.prog 38:=⟨by kernel_rfl⟩
theorem G9:zW Tryz.prog 39:=⟨by kernel_rfl⟩
theorem N9:zW Tryz.prog 40:=⟨by kernel_rfl⟩
theorem Oz:zW Tryz.prog 41:=⟨by kernel_rfl⟩
theorem Ei:zW Tryz.prog 42:=⟨by kernel_rfl⟩
theorem U9:zW Tryz.prog 43:=⟨by kernel_rfl⟩
theorem BL:zW Tryz.prog 44:=⟨by kernel_rfl⟩
theorem XC:zW Tryz.prog 45:=⟨by kernel_rfl⟩
theorem El:zW Tryz.prog 46:=⟨by kernel_rfl⟩
theorem Hz:zW Tryz.prog 47:=⟨by kernel_rfl⟩
theorem Hq:zW Tryz.prog 48:=⟨by kernel_rfl⟩
theorem Az:zW Tryz.prog 49:=⟨by kernel_rfl⟩
theorem Hw:zW Tryz.prog 50:=⟨by kernel_rfl⟩
theorem Oq:zW Tryz.prog 51:=⟨by kernel_rfl⟩
theorem Ox:zW Tryz.prog 52:=⟨by kernel_rfl⟩
theorem Oj:zW Tryz.prog 53:=⟨by kernel_rfl⟩
theorem Ov:zW Tryz.prog 54:=⟨by kernel_rfl⟩
theorem Ja:zW Tryz.prog 55:=⟨by kernel_rfl⟩
theorem Oy:zW Tryz.prog 56:=⟨by kernel_rfl⟩
theorem Ou:zW Tryz.prog 57:=⟨by kernel_rfl⟩
theorem BM:zW Tryz.prog 58:=⟨by kernel_rfl⟩
theorem Vs:zW Tryz.prog 59:=⟨by kernel_rfl⟩
theorem Hy:zW Tryz.prog 60:=⟨by kernel_rfl⟩
theorem Hu:zW Tryz.prog 61:=⟨by kernel_rfl⟩
theorem Vt:zW Tryz.prog 62:=⟨by kernel_rfl⟩
theorem BN:zW Tryz.prog 63:=⟨by kernel_rfl⟩
theorem Y3:zW Tryz.prog 64:=⟨by kernel_rfl⟩
theorem XD:zW Tryz.prog 65:=⟨by kernel_rfl⟩
theorem He:zW Tryz.prog 66:=⟨by kernel_rfl⟩
theorem Hf:zW Tryz.prog 67:=⟨by kernel_rfl⟩
theorem wU:zW Tryz.prog 68:=⟨by kernel_rfl⟩
theorem BO:zW Tryz.prog 69:=⟨by kernel_rfl⟩
theorem Em:zW Tryz.prog 70:=⟨by kernel_rfl⟩
theorem Oa:zW Tryz.prog 71:=⟨by kernel_rfl⟩
theorem En:zW Tryz.prog 72:=⟨by kernel_rfl⟩
theorem Hg:zW Tryz.prog 73:=⟨by kernel_rfl⟩
theorem Eo:zW Tryz.prog 74:=⟨by kernel_rfl⟩
theorem Ep:zW Tryz.prog 75:=⟨by kernel_rfl⟩
theorem VZ:zW Tryz.prog 76:=⟨by kernel_rfl⟩
theorem Ob:zW Tryz.prog 77:=⟨by kernel_rfl⟩
theorem Oc:zW Tryz.prog 78:=⟨by kernel_rfl⟩
theorem Er:zW Tryz.prog 79:=⟨by kernel_rfl⟩
theorem Es:zW Tryz.prog 80:=⟨by kernel_rfl⟩
theorem Hl:zW Tryz.prog 81:=⟨by kernel_rfl⟩
theorem Od:zW Tryz.prog 82:=⟨by kernel_rfl⟩
theorem Oe:zW Tryz.prog 83:=⟨by kernel_rfl⟩
theorem Og:zW Tryz.prog 84:=⟨by kernel_rfl⟩
theorem Oh:zW Tryz.prog 85:=⟨by kernel_rfl⟩
theorem Oi:zW Tryz.prog 86:=⟨by kernel_rfl⟩
theorem Ol:zW Tryz.prog 87:=⟨by kernel_rfl⟩
theorem Om:zW Tryz.prog 88:=⟨by kernel_rfl⟩
theorem Z8:zW Tryz.prog 89:=⟨by kernel_rfl⟩
theorem Oo:zW Tryz.prog 90:=⟨by kernel_rfl⟩
theorem Ot:zW Tryz.prog 91:=⟨by kernel_rfl⟩
theorem Ho:zW Tryz.prog 92:=⟨by kernel_rfl⟩
theorem OZ:zW Tryz.prog 93:=⟨by kernel_rfl⟩
theorem Hr:zW Tryz.prog 94:=⟨by kernel_rfl⟩
theorem Aq:zW Tryz.prog 95:=⟨by kernel_rfl⟩
theorem Ht:zW Tryz.prog 96:=⟨by kernel_rfl⟩
theorem OQ:zW Tryz.prog 97:=⟨by kernel_rfl⟩
theorem OX:zW Tryz.prog 98:=⟨by kernel_rfl⟩
theorem XE:zW Tryz.prog 99:=⟨by kernel_rfl⟩
theorem WJ:zW Tryz.prog 100:=⟨by kernel_rfl⟩
theorem HZ:zW Tryz.prog 101:=⟨by kernel_rfl⟩
theorem Jb:zW Tryz.prog 102:=⟨by kernel_rfl⟩
theorem CS:zW Tryz.prog 103:=⟨by kernel_rfl⟩
theorem HV:zW Tryz.prog 104:=⟨by kernel_rfl⟩
theorem HY:zW Tryz.prog 105:=⟨by kernel_rfl⟩
theorem H6:zW Tryz.prog 106:=⟨by kernel_rfl⟩
theorem Ak:zW Tryz.prog 107:=⟨by kernel_rfl⟩
theorem Aj:zW Tryz.prog 108:=⟨by kernel_rfl⟩
theorem C8:zW Tryz.prog 109:=⟨by kernel_rfl⟩
theorem Jc:zW Tryz.prog 110:=⟨by kernel_rfl⟩
theorem dQ:zW Tryz.prog 111:=⟨by kernel_rfl⟩
theorem Av:zW Tryz.prog 112:=⟨by kernel_rfl⟩
theorem Aw:zW Tryz.prog 113:=⟨by kernel_rfl⟩
theorem C9:zW Tryz.prog 114:=⟨by kernel_rfl⟩
theorem Ay:zW Tryz.prog 115:=⟨by kernel_rfl⟩
theorem H7:zW Tryz.prog 116:=⟨by kernel_rfl⟩
theorem Dz:zW Tryz.prog 117:=⟨by kernel_rfl⟩
theorem Dq:zW Tryz.prog 118:=⟨by kernel_rfl⟩
theorem Dx:zW Tryz.prog 119:=⟨by kernel_rfl⟩
theorem H8:zW Tryz.prog 120:=⟨by kernel_rfl⟩
theorem Dk:zW Tryz.prog 121:=⟨by kernel_rfl⟩
theorem H9:zW Tryz.prog 122:=⟨by kernel_rfl⟩
theorem Lx:zW Tryz.prog 123:=⟨by kernel_rfl⟩
theorem Lj:zW Tryz.prog 124:=⟨by kernel_rfl⟩
theorem Lv:zW Tryz.prog 125:=⟨by kernel_rfl⟩
end Go.Proofs.YtolhegocbkckdaaGreat
