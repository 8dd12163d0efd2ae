/-
  Lifting of a plan's tree, plainly; maps over the parts of plans.
  What has a type: its free columns lead to rows that are there; more rows without, and rows within under what is lifted, leave the type. Plain Lean.
  Own work; no condition.
-/
import Derived.Test.YtolhegocbkckdaaGreatDPSize
import Derived.Test.YtolhegocbkckdaaGreatMg36
import Derived.Test.YtolhegocbkckdaaGreatDPFree
namespace Go.Proofs.YtolhegocbkckdaaGreat
open Go
set_option linter.unusedSimpArgs false
set_option linter.unusedVariables false
def PL.map (g:PE→PE) (p:PL):PL:=⟨p.tables,p.on.map (List.map g),p.xO.map g,p.order.map (fun x=>(g x.1,x.2)),p.items.map g,p.names,p.distinct,p.limit⟩
def OP (b u k up:Int):Int:=if k=2∧u≤up then up+b else up
mutual
def PE.lf (b u:Int):PE→PE
 | .mk k op nt value up pos kids sub => .mk k op nt value (OP b u k up) pos (PE.EF b u kids) (PE.MZ b (u+1) sub)
def PE.EF (b u:Int):List PE→List PE
 | []=>[]
 | x::xs=>PE.lf b u x::PE.EF b u xs
def PE.MZ (b u:Int):List (qZ PE)→List (qZ PE)
 | []=>[]
 | x::xs=>PE.LK b u x::PE.MZ b u xs
def PE.LK (b u:Int):qZ PE→qZ PE
 | ⟨t,on,w,o,i,n,d,l⟩=>⟨t,PE.Cu b u on,PE.EF b u w,PE.MQ b u o,PE.EF b u i,n,d,l⟩
def PE.Cu (b u:Int):List (List PE)→List (List PE)
 | []=>[]
 | x::xs=>PE.EF b u x::PE.Cu b u xs
def PE.MQ (b u:Int):List (PE × Bool)→List (PE × Bool)
 | []=>[]
 | x::xs=>PE.lf1 b u x::PE.MQ b u xs
def PE.lf1 (b u:Int):PE × Bool→PE × Bool
 |(e,d)=>(PE.lf b u e,d)
end
theorem PE.VN (b u:Int):∀ l:List PE,PE.EF b u l=l.map (PE.lf b u)
 | []=>rfl
 | x::l=>by simp only [PE.EF,PE.VN b u l,List.map_cons]
theorem PE.EG (b u:Int):∀ l:List PL,PE.MZ b u l=l.map (PE.LK b u)
 | []=>rfl
 | x::l=>by simp only [PE.MZ,PE.EG b u l,List.map_cons]
theorem PE.Yk (b u:Int):∀ l:List (List PE),PE.Cu b u l=l.map (List.map (PE.lf b u))
 | []=>rfl
 | x::l=>by simp only [PE.Cu,PE.Yk b u l,List.map_cons,PE.VN]
theorem PE.Al (b u:Int):∀ l:List (PE × Bool),PE.MQ b u l=l.map (fun x=>(PE.lf b u x.1,x.2))
 | []=>rfl
 | x::l=>by
   obtain ⟨e,d⟩:=x
   simp only [PE.MQ,PE.Al b u l,List.map_cons,PE.lf1]
theorem PE.EH (b u:Int) (p:PL):PE.LK b u p=PL.map (PE.lf b u) p:=by
 obtain ⟨t,on,w,o,i,n,d,l⟩:=p
 simp only [PE.LK,PL.map,PE.VN,PE.Yk,PE.Al]
theorem PE.MX (b u:Int):PE.LK b u=PL.map (PE.lf b u):=funext (PE.EH b u)
theorem PL.FQ (g:PE→PE) (p:PL):(PL.map g p).parts=p.parts.map g:=by
 obtain ⟨t,on,w,o,i,n,d,l⟩:=p
 simp only [PL.map,qZ.parts,List.map_append,List.map_map,List.map_flatten]
 rfl
def O1 (k:Int):Bool:=decide (0≤k)&&decide (k≤1000)
mutual
def PE.ups:PE→Bool
 | .mk _ _ _ _ up _ kids sub=>O1 up&&(PE.VO kids&&PE.Ca sub)
def PE.VO:List PE→Bool
 | []=>true
 | x::xs=>PE.ups x&&PE.VO xs
def PE.Ca:List (qZ PE)→Bool
 | []=>true
 | x::xs=>PE.Am x&&PE.Ca xs
def PE.Am:qZ PE→Bool
 | ⟨_,on,w,o,i,_,_,_⟩=>PE.Yj on&&PE.VO w&&PE.Cb o&&PE.VO i
def PE.Yj:List (List PE)→Bool
 | []=>true
 | x::xs=>PE.VO x&&PE.Yj xs
def PE.Cb:List (PE × Bool)→Bool
 | []=>true
 | x::xs=>PE.LJ x&&PE.Cb xs
def PE.LJ:PE × Bool→Bool
 |(e,_)=>PE.ups e
end
theorem PE.Kq:∀ l:List PE,PE.VO l=l.all PE.ups
 | []=>rfl
 | x::l=>by simp only [PE.VO,PE.Kq l,List.all_cons]
theorem PE.Cc:∀ l:List PL,PE.Ca l=l.all PE.Am
 | []=>rfl
 | x::l=>by simp only [PE.Ca,PE.Cc l,List.all_cons]
theorem PE.JX:∀ l:List (List PE),PE.Yj l=l.flatten.all PE.ups
 | []=>rfl
 | x::l=>by simp only [PE.Yj,PE.JX l,List.flatten_cons,List.all_append,PE.Kq]
theorem PE.Yv:∀ l:List (PE × Bool),PE.Cb l=(l.map (·.1)).all PE.ups
 | []=>rfl
 | x::l=>by
   obtain ⟨e,b⟩:=x
   simp only [PE.Cb,PE.Yv l,List.map_cons,List.all_cons,PE.LJ]
theorem PE.Ce (p:PL):PE.Am p=p.parts.all PE.ups:=by
 obtain ⟨t,on,w,o,i,n,d,l⟩:=p
 simp only [PE.Am,qZ.parts,List.all_append,PE.Kq,PE.JX,PE.Yv]
theorem PE.LV:PE.Am=fun p:PL=>p.parts.all PE.ups:=funext PE.Ce
def LW (e:PE) (b:Int):Bool:=(decide (0≤b)&&decide (b≤1000))&&e.ups
def MK (e:PE) (b:Int):PE:=if LW e b then e.lf b 0 else e
end Go.Proofs.YtolhegocbkckdaaGreat

namespace Go.Proofs.YtolhegocbkckdaaGreat
open Go
set_option linter.unusedSimpArgs false
set_option linter.unusedVariables false
def O4 (env:List (List Int)) (b:Bind):Prop:=0≤b.up∧∃ r,env[b.up.toNat]?=some r∧0≤b.pos∧b.pos<r.length
section
variable {c:jy} {env:List (List Int)}
theorem Kk:∀ {l:List PE} {ts:List Int},PE.fE c env l=some ts→∀ x∈l,∃ t,x.ty c env=some t
 | [],_,_,x,hx=>by cases hx
 | y::l,ts,h,x,hx=>by
   simp only [PE.fE] at h
   split at h
   · cases h
   · rename_i t ht
     split at h
     · cases h
     · rename_i us QD
       rcases List.mem_cons.1 hx with rfl | hx
       · exact ⟨t,ht⟩
       · exact Kk QD x hx
theorem Yw:∀ {l:List PL} {ts:List (List Int)},PE.X9 c env l=some ts→∀ x∈l,∃ t,PE.ZA c env x=some t
 | [],_,_,x,hx=>by cases hx
 | y::l,ts,h,x,hx=>by
   simp only [PE.X9] at h
   split at h
   · cases h
   · rename_i t ht
     split at h
     · cases h
     · rename_i us QD
       rcases List.mem_cons.1 hx with rfl | hx
       · exact ⟨t,ht⟩
       · exact Yw QD x hx
theorem Kj:∀ {l:List PE},PE.Jt c env l=true→∀ x∈l,∃ t,x.ty c env=some t
 | [],_,x,hx=>by cases hx
 | y::l,h,x,hx=>by
   simp only [PE.Jt,Bool.and_eq_true] at h
   rcases List.mem_cons.1 hx with rfl | hx
   · cases ht : PE.ty c env x with
     | none=>rw [ht] at h;cases h.1
     | some t=>exact ⟨t,rfl⟩
   · exact Kj h.2 x hx
theorem Yy:∀ {l:List (PE × Bool)},PE.Y8 c env l=true→∀ x∈l,∃ t,x.1.ty c env=some t
 | [],_,x,hx=>by cases hx
 |(y,d)::l,h,x,hx=>by
   simp only [PE.Y8,PE.Fx,Bool.and_eq_true] at h
   rcases List.mem_cons.1 hx with rfl | hx
   · exact Option.isSome_iff_exists.1 h.1
   · exact Yy h.2 x hx
theorem JK {t:List Int}:∀ {l:List (List PE)} {j:Nat},PE.oh c env t j l=true→∀ xs∈l,∀ x∈xs,∃ r u,x.ty c (r::env)=some u
 | [],_,_,xs,hx=>by cases hx
 | y::l,j,h,xs,hxs=>by
   simp only [PE.oh,Bool.and_eq_true] at h
   rcases List.mem_cons.1 hxs with rfl | hxs
   · intro x hx
     obtain ⟨u,hu⟩:=Kj h.1 x hx
     exact ⟨_,u,hu⟩
   · exact JK h.2 xs hxs
theorem JJ {p:PL} {ts:List Int} (h:PE.ZA c env p=some ts):PL.ok c p=true∧PE.oh c env p.tables 1 p.on=true∧PE.Jt c (rowsOf c p.tables::env) p.xO=true∧PE.Y8 c (rowsOf c p.tables::env) p.order=true∧PE.fE c (rowsOf c p.tables::env) p.items=some ts:=by
 rw [PE.Kz] at h
 split at h
 · rename_i h1
   split at h
   · rename_i h2
     split at h
     · rename_i h3
       split at h
       · rename_i h4
         exact ⟨h1,h2,h3,h4,h⟩
       · cases h
     · cases h
   · cases h
 · cases h
theorem Yu {p:PL} {ts:List Int} (h:PE.ZA c env p=some ts):∀ k∈p.parts,∃ r t,k.ty c (r::env)=some t:=by
 obtain ⟨_,h2,h3,h4,h5⟩:=JJ h
 intro k hk
 simp only [qZ.parts,List.mem_append,List.mem_flatten,List.mem_map] at hk
 rcases hk with ((⟨q,k1,k2⟩ | k1) | ⟨x,k1,rfl⟩) | k1
 · exact JK h2 q k1 k k2
 · exact ⟨_,Kj h3 k k1⟩
 · exact ⟨_,Yy h4 x k1⟩
 · exact ⟨_,Kk h5 k k1⟩
theorem Cg {e:PE} {t:Int} (h:e.ty c env=some t):e.shape=true∧∃ ks ss,PE.fE c env e.kids=some ks∧PE.X9 c env e.sub=some ss∧resT env e.kind e.op e.value e.up e.pos ks ss=some t:=by
 rw [PE.Ai] at h
 split at h
 · rename_i h1
   split at h
   · cases h
   · rename_i ks h2
     split at h
     · cases h
     · rename_i ss h3
       exact ⟨h1,ks,ss,h2,h3,h⟩
 · cases h
theorem Ao {op:Int} {v:Val} {up pos:Int} {ks:List Int} {ss:List (List Int)}:resT env 2 op v up pos ks ss=gN env up pos:=by
 unfold resT
 rw [if_neg (by decide),if_pos rfl]
end
section
variable {c:jy}
theorem Ap {pre env:List (List Int)} {up pos t:Int} (h:gN (pre++env) up pos=some t) (hu:(pre.length:Int)≤up):O4 env ⟨up - pre.length,pos,0⟩:=by
 unfold gN at h
 split at h
 · rename_i hh
   rw [List.getElem?_append_right (by omega)] at h
   cases hr:env[up.toNat - pre.length]? with
   | none=>rw [hr] at h;cases h
   | some r =>
     rw [hr] at h
     have h2:r[pos.toNat]?=some t:=h
     have hl:=(List.getElem?_eq_some_iff.1 h2).1
     refine ⟨by dsimp only;omega,r,?_,by dsimp only;omega,by dsimp only;omega⟩
     dsimp only
     rw [show (up - pre.length).toNat=up.toNat - pre.length by omega]
     exact hr
 · cases h
theorem Ya (e:PE):∀ (pre env:List (List Int)) (t:Int),e.ty c (pre++env)=some t→∀ b∈e.col zT pre.length,O4 env b:=by
 induction e using PE.ind with
 | h e ih1 ih2 =>
   intro pre env t h b hb
   obtain ⟨_,ks,ss,h2,h3,h4⟩:=Cg h
   rw [PE.VG,List.mem_append,List.mem_append,List.mem_flatMap,List.mem_flatMap] at hb
   rcases hb with hb | ⟨x,hx,hb⟩ | ⟨p,hp,hb⟩
   · unfold zT at hb
     split at hb
     · rename_i hk
       rw [List.mem_singleton] at hb
       subst hb
       rw [hk.1,Ao] at h4
       exact Ap h4 hk.2
     · cases hb
   · obtain ⟨u, hu⟩ := Kk h2 x hx
     exact ih1 x hx pre env u hu b hb
   · obtain ⟨u, hu⟩ := Yw h3 p hp
     rw [PE.om,List.mem_flatMap] at hb
     obtain ⟨k,hk,hb⟩:=hb
     obtain ⟨r,w,hw⟩:=Yu hu k hk
     refine ih2 p hp k hk (r::pre) env w hw b ?_
     rw [show (((r::pre).length:Nat):Int)=(pre.length:Int)+1 by simp]
     exact hb
theorem LY {e:PE} {env:List (List Int)} {t:Int} (h:e.ty c env=some t):∀ b∈e.col zT 0,O4 env b:=Ya e [] env t h
theorem Ch {g:PE→PE}:∀ on:List (List PE),((on.map (List.map g)).headD []).length=(on.headD []).length
 | []=>rfl
 | x::l=>by simp
theorem O5 (g:PE→PE) (p:PL):PL.ok c (PL.map g p)=PL.ok c p:=by
 unfold PL.ok PL.form
 simp only [PL.map,List.length_map,List.all_map,Ch,Function.comp_def]
end
end Go.Proofs.YtolhegocbkckdaaGreat
