/-
  EmptyDb and RowTypes: results in new memory, and the laws.
  Typed plans drawn from a string of bytes.
  Own work; no condition.
-/
import Derived.Test.YtolhegocbkckdaaGreatMg26
namespace Go.Proofs.YtolhegocbkckdaaGreat
open Go
set_option linter.unusedSimpArgs false
set_option linter.unusedVariables false
theorem Fb {α : Type} (f : α → Nat) (a : α) (b:List α):bY f (a::b)=1+f a+bY f b:=by
 simp only [bY,kM,List.length_cons,List.map_cons,List.sum_cons];omega
def WG (c:jy):Db:=⟨List.replicate c.tables.length ⟨[]⟩⟩
theorem Own2.RJ {d v:V} {t:S} (h:Own2 d v t):Own2 (.agg [d]) (.agg [v]) t:=by
 obtain ⟨ls,h1,h2⟩:=h
 exact ⟨ls++[],.agg (.cons h1 .nil),by rw [List.append_nil];exact h2⟩
theorem Dh (c:jy):(WG c).zF = .agg [.sl 0 (List.replicate c.tables.length (Data.zF ⟨[]⟩))]:=by simp [WG,Db.zF]
theorem pW (x:Tab):x.zF.plain=true:=zG rfl (zG (Zi _) rfl)
def rowsOf (c:jy) (ts:List Int):List Int:=ts.flatMap fun k=>(c.tables[k.toNat]?.map Tab.types).getD []
def wB (c:jy) (k:Int):Bool:=jw k 0 ((c.tables.length:Int) - 1)
def jU (c:jy) (ts:List Int):List Int × Bool:=if ts.all (wB c) then (rowsOf c ts,true) else ([],false)
theorem aP (c:jy) (h:c.wt≤1048576) (ts:List Int):(rowsOf c ts).length≤1048576*ts.length:=by
 induction ts with
 | nil=>simp [rowsOf]
 | cons k ts ih =>
   have h1:((c.tables[k.toNat]?.map Tab.types).getD []).length≤1048576:=by
     cases hk:c.tables[k.toNat]? with
     | none=>simp
     | some t =>
       obtain ⟨hlt,e⟩:=List.getElem?_eq_some_iff.1 hk
       have h2:=iB (f:=Tab.wt) hlt
       rw [e] at h2
       have h3:=jA Col.wt t.qO
       simp only [jy.wt] at h
       simp only [Tab.wt] at h2
       simp only [Option.map_some,Option.getD_some,Tab.types,List.length_map]
       omega
   simp only [rowsOf,List.flatMap_cons,List.length_append,List.length_cons] at *
   omega
theorem gK {c:jy} {ts:List Int} {i n:Nat} (hi:i<ts.length) (hn:ts[i]=(n:Int)) (hlt:n<c.tables.length):rowsOf c (ts.take (i+1))=rowsOf c (ts.take i)++c.tables[n].types:=by
 rw [List.take_succ_eq_append_getElem hi]
 simp [rowsOf,hn,hlt]
theorem uW {α : Type} {p : α → Bool} {l:List α} {i:Nat} (hi:i<l.length):(l.take (i+1)).all p=((l.take i).all p&&p l[i]):=by
 rw [List.take_succ_eq_append_getElem hi,List.all_append]
 simp
theorem Zp {c:jy} {ts:List Int} {i:Nat} (hi:i<ts.length) (h:wB c ts[i]=false):jU c ts=([],false):=by
 have:ts.all (wB c)=false:=by
   rw [List.all_eq_false]
   exact ⟨ts[i],List.getElem_mem hi,by simp [h]⟩
 simp [jU,this]
theorem pY {c:jy} {k:Int} (h:wB c k=true):∃ n:Nat,k=(n:Int)∧n<c.tables.length:=by
 simp only [wB,jw,Bool.and_eq_true,decide_eq_true_eq] at h
 exact ⟨k.toNat,by omega,by omega⟩
def Zr (r:List Int × Bool):V := .jY [ints r.1,.bool r.2]
theorem gJ (c:jy) (ts:List Int) (h:c.wt≤1048576) (ht:ts.length≤1048576) (s:S):VCalls Tryz.prog 62 [c.zF,ints ts] s (fun v t=>Own2 (.jY [ints (jU c ts).1,.bool (jU c ts).2]) v t):=by
 have hl:=jA Tab.wt c.tables
 have hcw:=h
 simp only [jy.wt] at hcw
 refine zi.body Tryz.func62 rfl (by kernel_rfl) ?_
 repeat' first|(refine zf ?_;first|(refine zq.nil ?_)|(refine zq.ev zx rfl ?_)|(refine qW ?_;refine zq.box rfl rfl rfl rfl ?_)|(refine kZ ?_;first|(refine zq.uT zx rfl rfl rfl rfl rfl ?_)))|(refine zH ?_;first|(refine WL.seq ?_)|(refine WL.region (by kernel_rfl) ?_)|(refine WL.block ?_))|(refine zw ?_)
 refine WL.mV (t:=6) 1 rfl rfl rfl rfl ?_
 refine WL.xK (fun i:Nat=>ts.length - i) (fun i=>[(1,ints ts),(2,.ptr (s.next+0) 0),(6,.sl (s.next+1) ((rowsOf c (ts.take i)).map iV)),(7,.int .i64 (i:Int))]) (fun i=>[.var [.sl 0 (c.tables.map Tab.zF)],.fam (rowsOf c (ts.take i)).length 1])
   (fun i=>i≤ts.length∧(ts.take i).all (wB c)=true) 2 0 (by simp) (fun _=>rfl) ⟨rfl,rfl,rfl,rfl,trivial⟩ rfl (fun i hi=>?_) (fun i hi=>?_)
 · simp [qF,qG,Own.under,V.under,V.zO,ints]
 obtain ⟨hi,ha⟩:=hi
 have hlen:=aP c h (ts.take i)
 rw [List.length_take,Nat.min_eq_left hi] at hlen
 rcases Nat.lt_or_ge i ts.length with hlt | hge
 · cases hr : wB c ts[i]
   · rw [Zp hlt hr]
     have hga:(ts.map iV)[i]?=some (iV ts[i]):=by simp [hlt]
     generalize ts[i]=k at hga hr
     have hI:∀ t,VCalls Tryz.prog 27 [.int .i64 k,.int .i64 0,.int .i64 ((c.tables.length:Int) - 1)] t (fun v t'=>v = .bool false∧t'=t):=fun t=>by rw [← hr];exact q9 _ _ _ t
     repeat' first|(refine zf ?_;first|(refine zq.nil ?_)|(refine zq.ev zx rfl ?_)|(refine kZ ?_;first|(refine zq.uT zx rfl rfl rfl rfl rfl ?_))|(refine qx ?_;first|(refine zq.ans (zk.z8 zx rfl rfl rfl) ?_)))|(refine zH ?_;first|(refine WL.seq ?_)|(refine WL.region (by kernel_rfl) ?_)|(refine WL.drawn (id:=5) [0,1,2,3,4,5,6,7,8,9] [] [[],[],[0,1],[0,1,2],[],[4],[4,5],[4,5,6],[0,1,2,3,4,5,6,7],[0,1,2,3,4,5,6,7,8]] (by kernel_rfl) (by kernel_rfl) ?_)|(refine WL.block ?_)|(refine WL.skip ?_)|(refine WL.ret ?_)|(refine zu ?_;first|(refine WL.qb rfl ?_)|(refine WL.zJ rfl ?_ ?_;(focus (first|(simp <;> omega))))))|(refine vN ?_;first|(refine zA.nil ?_)|(refine zA.fl rfl rfl (.ev zx rfl) ?_)|(refine qo rfl ?_;first|(refine zA.fl rfl rfl (zk.zm zx rfl rfl rfl rfl) ?_))|(refine uM rfl ?_;first|(refine zA.fl rfl rfl (zk.z8 zx rfl rfl rfl) ?_))|(refine yj rfl ?_;first|(refine zA.fl rfl rfl (zk.sub rfl rfl ?_) ?_;(focus (constructor <;> omega))))|(refine kQ rfl ?_;first|(refine zA.fl rfl rfl (zk.idx zx rfl rfl rfl rfl rfl hga rfl rfl) ?_))|(refine qX 27 rfl ?_;first|(refine zA.fl rfl rfl (zk.ze rfl rfl rfl (jO) (hI _)) ?_)))|(refine zw ?_)|(refine zZ ?_)|(refine zB ?_)|(refine qH ?_)|(refine zh.r2 (r := .tmp 4) (r' := .tmp 5) (.inl rfl) (zn.tmp rfl) (zn.tmp rfl) ?_)
     exact Own2.Ga ⟨[],.jo,List.nodup_nil⟩ rfl
   · have hall := uW (p := wB c) hlt
     rw [ha,hr] at hall
     obtain ⟨n,hn,hnt⟩:=pY hr
     have htk:=gK hlt hn hnt
     have hga:(ts.map iV)[i]?=some (iV (n:Int)):=by simp [hlt,hn]
     have hw:=iB (f:=Tab.wt) hnt
     have hT:∀ t,VCalls Tryz.prog 94 [c.tables[n].zF] t (fun v t'=>v=ints c.tables[n].types∧t'=t):=fun t =>
       VCalls.mU (zG (pW _) rfl) (wX _) (fun t=>lY c.tables[n] (by omega) t) t
     have hgb:(c.tables.map Tab.zF)[n]?=some c.tables[n].zF:=by simp [hnt]
     have htl:c.tables[n].types.length≤1048576:=by
       have h3:=jA Col.wt c.tables[n].qO
       simp only [Tab.wt] at hw
       simp only [Tab.types,List.length_map]
       omega
     have hrn:jw (n:Int) 0 ((c.tables.length:Int) - 1)=true:=by rw [← hn];exact hr
     generalize c.tables[n]=tb at hgb htk hT htl
     have hI:∀ t,VCalls Tryz.prog 27 [.int .i64 (n:Int),.int .i64 0,.int .i64 ((c.tables.length:Int) - 1)] t (fun v t'=>v = .bool true∧t'=t):=fun t=>by rw [← hrn];exact q9 _ _ _ t
     repeat' first|(refine zf ?_;first|(refine zq.nil ?_)|(refine zq.ev zx rfl ?_)|(refine ji ?_;first|(refine zq.app zx rfl rfl rfl rfl rfl rfl rfl rfl rfl rfl rfl ?_ ?_ (xU.of ?_ rfl) ?_;(focus (first | rfl |(simp <;> fail)));(focus (first | exact zS.of rfl | exact zS.map fun _=>rfl | exact PE.els _ (fun _=>rfl) _));(focus (first | omega |(simp;omega)))))|(refine qx ?_;first|(refine zq.ans (zk.z8 zx rfl rfl rfl) ?_))|(refine xk ?_;first|(refine zq.ans (zk.add rfl rfl ?_) ?_;(focus (constructor <;> omega)))))|(refine zH ?_;first|(refine WL.seq ?_)|(refine WL.region (by kernel_rfl) ?_)|(refine WL.drawn (id:=5) [0,1,2,3,4,5,6,7,8,9] [] [[],[],[0,1],[0,1,2],[],[4],[4,5],[4,5,6],[0,1,2,3,4,5,6,7],[0,1,2,3,4,5,6,7,8]] (by kernel_rfl) (by kernel_rfl) ?_)|(refine WL.drawn (id:=7) [0,1,2,3,4,5,6,7,8,9,10,11] [10,11] [[],[],[1],[],[],[3,4],[3,4,5],[1,2,3,4,5,6],[1,2,3,4,5,6,7],[1,2,3,4,5,6,7,8],[0,1,2,3,4,5,6,7,8,9],[0,1,2,3,4,5,6,7,8,9,10]] (by kernel_rfl) (by kernel_rfl) ?_)|(refine WL.block ?_)|(refine WL.skip ?_)|(refine zu ?_;first|(refine WL.qQ rfl ?_)|(refine WL.zJ rfl ?_ ?_;(focus (first|(simp <;> omega))))))|(refine vN ?_;first|(refine zA.nil ?_)|(refine zA.fl rfl rfl (.ev zx rfl) ?_)|(refine qo rfl ?_;first|(refine zA.fl rfl rfl (zk.zm zx rfl rfl rfl rfl) ?_))|(refine uM rfl ?_;first|(refine zA.fl rfl rfl (zk.z8 zx rfl rfl rfl) ?_))|(refine yj rfl ?_;first|(refine zA.fl rfl rfl (zk.sub rfl rfl ?_) ?_;(focus (constructor <;> omega))))|(refine kQ rfl ?_;first|(refine zA.fl rfl rfl (zk.idx zx rfl rfl rfl rfl rfl hga rfl rfl) ?_)|(refine zA.fl rfl rfl (zk.idx zx rfl rfl rfl rfl rfl hgb rfl rfl) ?_))|(refine qX 27 rfl ?_;first|(refine zA.fl rfl rfl (zk.ze rfl rfl rfl (jO) (hI _)) ?_))|(refine qX 94 rfl ?_;first|(refine zA.fl rfl rfl (zk.ze rfl rfl rfl (Hr) (hT _)) ?_))|(refine zA.iY rfl rfl rfl ?_))|(refine zw ?_)|(refine zQ ?_)|(refine And.intro ?_ ?_)|(exact xR.nil)
     refine qB.of (i+1) ⟨by omega,hall⟩ (by omega) ?_ ?_
     · rw [htk, List.map_append]
       exact ⟨rfl,rfl,rfl,rfl,trivial⟩
     · rw [htk]
       simp
 · rw [List.take_of_length_le hge] at ha ⊢
   repeat' first|(refine zf ?_;first|(refine zq.nil ?_)|(refine zq.ev zx rfl ?_)|(refine qx ?_;first|(refine zq.ans (zk.z8 zx rfl rfl rfl) ?_)))|(refine zH ?_;first|(refine WL.seq ?_)|(refine WL.region (by kernel_rfl) ?_)|(refine WL.exit ?_)|(refine WL.ret ?_)|(refine zu ?_;first|(refine WL.zY rfl ?_ ?_;(focus (first|(simp <;> omega))))))|(refine zw ?_)|(refine zC ?_)|(refine zV ?_)|(refine zL ?_)|(refine zh.r2 (r := .tmp 4) (r' := .tmp 5) (.inl rfl) (zn.tmp rfl) (zn.tmp rfl) ?_)
   have e:jU c ts=(rowsOf c ts,true):=by simp only [jU,ha,if_true]
   rw [e]
   exact Own2.Ga (Own2.fam (f:=iV) (cs:=rowsOf c ts) (AY:=1) 1 rfl (fun _=>rfl) (fun _=>rfl)) rfl
end Go.Proofs.YtolhegocbkckdaaGreat

namespace Go.Proofs.YtolhegocbkckdaaGreat
open Go
set_option linter.unusedSimpArgs false
set_option linter.unusedVariables false
theorem VCalls.QM {P:Program} {f:FuncId} {vs ds us:List V} {s:S} {H:List BE} (hh:Hold s s.next H) (hrd:ZM H vs ds) (hd:V.xV us=true) (h:∀ t,VCalls P f ds t (fun v t'=>Own2 (.jY us) v t')):VCalls P f vs (s.ext []) (fun v s'=>v = .jY us∧s'=s.ext []):=by
 have hdat:V.dat (.jY us)=true:=by
   have:=dh (.agg us) hd
   simpa [V.dat] using this
 have hfg:V.forget (.jY us) = .jY us:=by
   have:=vB (.agg us) hd
   simp only [V.forget,V.agg.injEq] at this
   simp only [V.forget,this]
 refine VCalls.pure hdat (VCalls.turn (VCalls.Wm (hrd.rd hh) h) ?_)
 rintro v s' _ ⟨rfl,rfl⟩
 have k:=uL.thaw (s.ext []) (d := .agg us) hd
 exact ⟨.jY us,_,k.jY,hfg,fun l hl=>kg _ _ hl,fun l hl=>wo _ _ hl⟩
theorem OB (r:List Int):Fy r=ints r:=rfl
theorem ow (row:List Int) (env:List (List Int)) (h:env.length≤16777216) (s:S):VCalls Tryz.prog 64 [ints row,bf env] s (fun v s'=>v=bf (row::env)∧s'=s):=by
 refine zi.pure Tryz.func64 rfl (by kernel_rfl) (by simp [Fy]) ?_
 repeat' first|(refine zf ?_;first|(refine zq.nil ?_)|(refine zq.ev zx rfl ?_)|(refine kZ ?_;first|(refine zq.Kl zx rfl rfl rfl rfl rfl rfl rfl rfl rfl rfl rfl ?_))|(refine ji ?_;first|(refine zq.app zx rfl rfl rfl rfl rfl rfl rfl rfl rfl rfl rfl ?_ ?_ (xU.of ?_ rfl) ?_;(focus (first | rfl));(focus (first | exact zS.of rfl | exact zS.map fun _=>rfl | exact PE.els _ (fun _=>rfl) _));(focus (first | omega |(simp;omega))))))|(refine zH ?_;first|(refine WL.seq ?_)|(refine WL.region (by kernel_rfl) ?_)|(refine WL.ret ?_))|(refine zw ?_)|(refine zh.r1 (r := .tmp 4) (.inl rfl) (zn.tmp rfl) ?_)|(refine zX.mk ?_)
 simp [V.forget,V.xL,List.map_map,Function.comp_def,Fy,iV,ints]
theorem X0 (c:jy) (h:∀ t∈c.tables,t.small) (ts:List Int):(rowsOf c ts).length≤3*ts.length:=by
 induction ts with
 | nil=>simp [rowsOf]
 | cons k ts ih =>
   have e:rowsOf c (k::ts)=(c.tables[k.toNat]?.map Tab.types).getD []++rowsOf c ts:=by simp [rowsOf]
   have e2:((c.tables[k.toNat]?.map Tab.types).getD []).length≤3:=by
     cases hk:c.tables[k.toNat]? with
     | none=>simp
     | some t =>
       have:=(h t (List.mem_of_getElem? hk)).2.1
       simpa [Tab.types] using this
   rw [e,List.length_append,List.length_cons]
   omega
theorem rU (c:jy) (h:∀ t∈c.tables,t.small) (ts:List Int):(jU c ts).1.length≤3*ts.length:=by
 unfold jU
 split
 · exact X0 c h ts
 · simp
theorem jy.oq {c:jy} (h1:c.tables.length≤3) (h:∀ t∈c.tables,t.small):c.wt≤100:=by
 have e:∀ l:List Tab,(∀ t∈l,t.small)→bY Tab.wt l≤l.length*23:=by
   intro l hl
   induction l with
   | nil=>exact Nat.le_refl _
   | cons t l ih =>
     have a1:=Tab.oq (hl t (by simp))
     have a2:=ih fun x hx=>hl x (by simp [hx])
     have a3:bY Tab.wt (t::l)=l.length+1+(t.wt+kM Tab.wt l):=by simp [bY,kM]
     have a4:bY Tab.wt l=l.length+kM Tab.wt l:=rfl
     simp only [List.length_cons]
     omega
 have a:=e c.tables h
 have m:c.tables.length*23≤3*23:=Nat.mul_le_mul_right _ h1
 show bY Tab.wt c.tables≤100
 omega
end Go.Proofs.YtolhegocbkckdaaGreat
