/-
 The law of well-typed plans. Own work; no condition.
-/
import Derived.Test.YtolhegocbkckdaaGreatDTe
import Derived.Test.YtolhegocbkckdaaGreatMg49
import Derived.Test.YtolhegocbkckdaaGreatMg51
import Derived.Test.YtolhegocbkckdaaGreatMg17
namespace Go.Proofs.YtolhegocbkckdaaGreat
open Go
set_option linter.unusedSimpArgs false
set_option linter.unusedVariables false
theorem Kh (e:PE) (hw:qV e.v≤1048576) (u:Int) (s:S):VCalls Tryz.prog 13 [e.v,.int .i64 u] s (fun v s'=>v = .sl 0 ((oU e u).map Bind.zF)∧s'=s) :=
 VCalls.mU (zG (PE.eu e) (zG rfl rfl)) (bA _) (fun t=>Kg e hw u t) s
theorem Qr (p:PL) (hw:qV p.v≤1048576) (s:S):VCalls Tryz.prog 12 [p.v] s (fun v s'=>v = .sl 0 (p.parts.map PE.zF)∧s'=s) :=
 VCalls.mU (zG (PL.plain p) rfl) (xY _) (fun t=>Qp p hw t) s
theorem Tab.V6 {t:Tab} (h:t.mid):t.wt≤200:=by
 obtain ⟨h1,h2,h3⟩:=h
 have e:bY Col.wt t.qO≤t.qO.length*22:=by
   generalize t.qO=l at h3
   induction l with
   | nil=>exact Nat.le_refl _
   | cons c l ih =>
     have a1:=h3 c (by simp)
     have a2:=ih fun x hx=>h3 x (by simp [hx])
     have a3:bY Col.wt (c::l)=l.length+1+(c.name.length+kM Col.wt l):=by simp [bY,kM,Col.wt]
     have a4:bY Col.wt l=l.length+kM Col.wt l:=rfl
     simp only [List.length_cons]
     omega
 have m:t.qO.length*22≤4*22:=Nat.mul_le_mul_right _ h2
 simp only [Tab.wt]
 omega
theorem jy.V6 {ts:List Tab} (h:ts.length≤5) (hs:∀ t∈ts,t.mid):(⟨ts⟩:jy).wt≤1048576:=by
 have e:bY Tab.wt ts≤ts.length*201:=by
   clear h
   induction ts with
   | nil=>exact Nat.le_refl _
   | cons c l ih =>
     have a1:=Tab.V6 (hs c (by simp))
     have a2:=ih fun x hx=>hs x (by simp [hx])
     simp only [bY,kM,List.length_cons,List.map_cons,List.sum_cons] at a2 ⊢
     omega
 have m:ts.length*201≤5*201:=Nat.mul_le_mul_right _ h
 simp only [jy.wt]
 omega
set_option maxHeartbeats 2000000 in
theorem lawWellL_v {b:V} (hb:Bytes b) (s:S):VCalls Tryz.prog 3 [b] s (fun v _=>v = .bool true):=by
 obtain ⟨c,hbig⟩:=Le hb
 have hh:Hold s s.next [] := .start _ _
 refine zi.body Tryz.func3 rfl (by kernel_rfl) ?_
 cases c
 · skip
   repeat' first|(refine qj ?_;refine zq.kR zx hh rfl rfl ?_;intro s n hh)|(refine zU ?_;first|(refine zq.zN zx 0 hh rfl rfl rfl rfl rfl rfl rfl rfl rfl ?_;intro s hh)|(refine zq.zN zx 1 hh rfl rfl rfl rfl rfl rfl rfl rfl rfl ?_;intro s hh))|(refine zy 5 ?_;refine zq.Bp rfl rfl Ro hh (iH hb) ?_;intro s x hq hh)|(refine zf ?_;first|(refine zq.nil ?_)|(refine zq.ev zx rfl ?_)|(refine zo ?_;first|(refine zq.ans (zk.zM zx 0 hh rfl rfl rfl rfl) ?_)|(refine zq.ans (zk.zM zx 1 hh rfl rfl rfl rfl) ?_))|(refine zy 4 ?_;first|(refine zq.ans (zk.ze rfl rfl rfl (Ph) (hbig _)) ?_)))|(refine zH ?_;first|(refine WL.seq ?_)|(refine WL.region (by kernel_rfl) ?_)|(refine WL.skip ?_)|(refine zu ?_;first|(refine WL.qQ rfl ?_)))|(refine zw ?_)
   rename_i nc _ _ _ _ _
   obtain ⟨ts,p⟩:=x
   obtain ⟨⟨h1,h2⟩,h3⟩:=hq
   dsimp only at h1 h2 h3 hh ⊢
   have hcw:=jy.V6 h1 h2
   have hw:qV p.v≤1048576:=Nat.le_trans h3 (by decide)
   have hW:=fun t=>sj ⟨ts⟩ p hcw hw t
   have hV:=fun t=>r9 ⟨ts⟩ p hcw hw t
   have hT:=fun t=>(fB ⟨ts⟩ hcw p hw).nil hw t
   have hC:=fun t=>fJ ⟨ts⟩ hcw t
   have hD:=fun t=>fQ p hw t
   have hZ:=fun t=>gL p hw t
   unfold JC at hW hV
   generalize PE.yU (fun a b=>max a b) p=d at hW hV hD
   generalize PE.yU (fun a b=>a+b) p=z at hW hV hZ
   cases ho:PE.ZA ⟨ts⟩ [] p with
   | none =>
     rw [ho] at hW hV hT
     have e0:∀ x y z:Bool,(x&&(y&&(z&&(none:Option (List Int)).isSome)))=false:=by intro x y z;cases x <;> cases y <;> cases z <;> rfl
     rw [e0] at hW hV
     replace hT:∀ t,VCalls Tryz.prog 7 [wW ts,.zl,p.v] t (fun v t'=>v = .jY [ints [],.bool false]∧t'=t):=hT
     repeat' first|(refine zf ?_;first|(refine zq.nil ?_)|(refine kG ?_;first|(refine zq.gF rfl rfl rfl ?_))|(refine zq.ev zx rfl ?_)|(refine zo ?_;first|(refine zq.ans (zk.zM zx 0 hh rfl rfl rfl rfl) ?_)|(refine zq.ans (zk.zM zx 1 hh rfl rfl rfl rfl) ?_))|(refine zy 6 ?_;first|(refine zq.ans (zk.ze rfl rfl rfl (GR) (hW _)) ?_))|(refine zy 7 ?_;first|(refine zq.ans (zk.ze rfl rfl rfl (AA) (hT _)) ?_))|(refine zy 8 ?_;first|(refine zq.ans (zk.ze rfl rfl rfl (G5) (hV _)) ?_)))|(refine zH ?_;first|(refine WL.seq ?_)|(refine WL.region (by kernel_rfl) ?_)|(refine WL.skip ?_)|(refine WL.ret ?_)|(refine zu ?_;first|(refine WL.qb rfl ?_)|(refine WL.qQ rfl ?_)))|(refine zw ?_)|(refine zZ ?_)|(refine zh.r1 (r := .tmp 2) (.inl rfl) (zn.tmp rfl) ?_)
     rfl
   | some l =>
     rw [ho] at hW hV hT
     replace hT:∀ t,VCalls Tryz.prog 7 [wW ts,.zl,p.v] t (fun v t'=>v = .jY [ints l,.bool true]∧t'=t):=hT
     cases hc:wF ⟨ts⟩ with
     | false =>
       rw [hc] at hW hV hC
       rw [Bool.false_and] at hW hV
       repeat' first|(refine zf ?_;first|(refine zq.nil ?_)|(refine kG ?_;first|(refine zq.gT rfl rfl rfl ?_)|(refine zq.gF rfl rfl rfl ?_))|(refine zq.ev zx rfl ?_)|(refine zo ?_;first|(refine zq.ans (zk.zM zx 0 hh rfl rfl rfl rfl) ?_)|(refine zq.ans (zk.zM zx 1 hh rfl rfl rfl rfl) ?_))|(refine zy 6 ?_;first|(refine zq.ans (zk.ze rfl rfl rfl (GR) (hW _)) ?_))|(refine zy 7 ?_;first|(refine zq.ans (zk.ze rfl rfl rfl (AA) (hT _)) ?_))|(refine zy 8 ?_;first|(refine zq.ans (zk.ze rfl rfl rfl (G5) (hV _)) ?_))|(refine zy 9 ?_;first|(refine zq.ans (zk.ze rfl rfl rfl (Eb) (hC _)) ?_)))|(refine zH ?_;first|(refine WL.seq ?_)|(refine WL.region (by kernel_rfl) ?_)|(refine WL.skip ?_)|(refine WL.ret ?_)|(refine zu ?_;first|(refine WL.qb rfl ?_)|(refine WL.qQ rfl ?_)))|(refine zw ?_)|(refine zZ ?_)|(refine zh.r1 (r := .tmp 2) (.inl rfl) (zn.tmp rfl) ?_)
       rfl
     | true =>
       rw [hc] at hW hV hC
       by_cases hd:(d:Int)>24
       · have e0 : decide (d ≤ 24) = false := decide_eq_false (by omega)
         rw [e0] at hW hV
         replace hW:∀ t,VCalls Tryz.prog 6 [wW ts,p.v] t (fun v t'=>v = .bool false∧t'=t):=hW
         replace hV:∀ t,VCalls Tryz.prog 8 [wW ts,p.v] t (fun v t'=>v = .bool false∧t'=t):=hV
         repeat' first|(refine zf ?_;first|(refine zq.nil ?_)|(refine kG ?_;first|(refine zq.gT rfl rfl rfl ?_)|(refine zq.gF rfl rfl rfl ?_)|(refine zq.gD true rfl rfl rfl ?_ ?_;(focus (first|(exact decide_eq_true (by assumption))))))|(refine zq.ev zx rfl ?_)|(refine zo ?_;first|(refine zq.ans (zk.zM zx 0 hh rfl rfl rfl rfl) ?_)|(refine zq.ans (zk.zM zx 1 hh rfl rfl rfl rfl) ?_))|(refine zy 10 ?_;first|(refine zq.ans (zk.ze rfl rfl rfl (Y0) (hD _)) ?_))|(refine zy 6 ?_;first|(refine zq.ans (zk.ze rfl rfl rfl (GR) (hW _)) ?_))|(refine zy 7 ?_;first|(refine zq.ans (zk.ze rfl rfl rfl (AA) (hT _)) ?_))|(refine zy 8 ?_;first|(refine zq.ans (zk.ze rfl rfl rfl (G5) (hV _)) ?_))|(refine zy 9 ?_;first|(refine zq.ans (zk.ze rfl rfl rfl (Eb) (hC _)) ?_)))|(refine zH ?_;first|(refine WL.seq ?_)|(refine WL.region (by kernel_rfl) ?_)|(refine WL.skip ?_)|(refine WL.ret ?_)|(refine zu ?_;first|(refine WL.qb rfl ?_)|(refine WL.qQ rfl ?_)))|(refine zw ?_)|(refine zZ ?_)|(refine zh.r1 (r := .tmp 2) (.inl rfl) (zn.tmp rfl) ?_)
         rfl
       have e0:decide (d≤24)=true:=decide_eq_true (by omega)
       rw [e0] at hW hV
       by_cases hz:(z:Int)>200
       · have e1 : decide (z ≤ 200) = false := decide_eq_false (by omega)
         rw [e1] at hW hV
         replace hW:∀ t,VCalls Tryz.prog 6 [wW ts,p.v] t (fun v t'=>v = .bool false∧t'=t):=hW
         replace hV:∀ t,VCalls Tryz.prog 8 [wW ts,p.v] t (fun v t'=>v = .bool false∧t'=t):=hV
         repeat' first|(refine zf ?_;first|(refine zq.nil ?_)|(refine kG ?_;first|(refine zq.gT rfl rfl rfl ?_)|(refine zq.gD false rfl rfl rfl ?_ ?_;(focus (first|(exact decide_eq_false (by assumption))))))|(refine zq.ev zx rfl ?_)|(refine zo ?_;first|(refine zq.ans (zk.zM zx 0 hh rfl rfl rfl rfl) ?_)|(refine zq.ans (zk.zM zx 1 hh rfl rfl rfl rfl) ?_))|(refine zy 10 ?_;first|(refine zq.ans (zk.ze rfl rfl rfl (Y0) (hD _)) ?_))|(refine zy 11 ?_;first|(refine zq.ans (zk.ze rfl rfl rfl (BD) (hZ _)) ?_))|(refine zy 6 ?_;first|(refine zq.ans (zk.ze rfl rfl rfl (GR) (hW _)) ?_))|(refine zy 7 ?_;first|(refine zq.ans (zk.ze rfl rfl rfl (AA) (hT _)) ?_))|(refine zy 8 ?_;first|(refine zq.ans (zk.ze rfl rfl rfl (G5) (hV _)) ?_))|(refine zy 9 ?_;first|(refine zq.ans (zk.ze rfl rfl rfl (Eb) (hC _)) ?_)))|(refine zH ?_;first|(refine WL.seq ?_)|(refine WL.region (by kernel_rfl) ?_)|(refine WL.skip ?_)|(refine WL.ret ?_)|(refine zu ?_;first|(refine WL.qb rfl ?_)|(refine WL.qQ rfl ?_)))|(refine zw ?_)|(refine zZ ?_)|(refine zh.r1 (r := .tmp 2) (.inl rfl) (zn.tmp rfl) ?_)
         exact congrArg V.bool (decide_eq_true (by omega))
       have e1:decide (z≤200)=true:=decide_eq_true (by omega)
       rw [e1] at hW hV
       replace hW:∀ t,VCalls Tryz.prog 6 [wW ts,p.v] t (fun v t'=>v = .bool true∧t'=t):=hW
       replace hV:∀ t,VCalls Tryz.prog 8 [wW ts,p.v] t (fun v t'=>v = .bool true∧t'=t):=hV
       have PY:=fun t=>Qr p hw t
       have hF:=fun (k:PE) (hk:k∈p.parts) t=>Kh k (Nat.le_trans (by have:=PL.nH hk;rwa [PE.qK] at this) hw) 1 t
       have hf0:∀ k∈p.parts,oU k 1=[]:=fun k hk=>by
         unfold oU
         rw [if_pos ⟨by omega,by omega⟩]
         exact V3 ho k hk
       obtain ⟨hr1,hr2,hr3,hr4⟩:=V4 hc ho
       have hlen:=PL.vV p
       have htl:=xW iV p.tables
       have Dc:=PL.qC p
       have Cx:=fun t=>bq ⟨ts⟩ p.tables hcw (by omega) t
       rw [hr1] at Cx
       replace Cx:∀ t,VCalls Tryz.prog 14 [wW ts,ints p.tables] t (fun v t'=>v = .jY [ints (rowsOf ⟨ts⟩ p.tables),.bool true]∧t'=t):=Cx
       generalize rowsOf ⟨ts⟩ p.tables=R at hr2 Cx
       repeat' first|(refine zf ?_;first|(refine zq.nil ?_)|(refine zq.ev zx rfl ?_)|(refine zo ?_;first|(refine zq.ans (zk.zM zx 0 hh rfl rfl rfl rfl) ?_)|(refine zq.ans (zk.zM zx 1 hh rfl rfl rfl rfl) ?_))|(refine zy 12 ?_;first|(refine zq.ans (zk.ze rfl rfl rfl (NP) (PY _)) ?_))|(refine zy 6 ?_;first|(refine zq.ans (zk.ze rfl rfl rfl (GR) (hW _)) ?_))|(refine zy 7 ?_;first|(refine zq.ans (zk.ze rfl rfl rfl (AA) (hT _)) ?_))|(refine zy 8 ?_;first|(refine zq.ans (zk.ze rfl rfl rfl (G5) (hV _)) ?_)))|(refine zH ?_;first|(refine WL.seq ?_)|(refine WL.region (by kernel_rfl) ?_)|(refine WL.block ?_)|(refine WL.skip ?_)|(refine zu ?_;first|(refine WL.qQ rfl ?_)))|(refine zw ?_)
       generalize hps:p.parts=ps at PY hF hf0 hlen ⊢
       refine WL.yw (fun i:Nat=>ps.length - i) (fun i=>[(3,.ptr nc 0),(4,.ptr n 0),(6,ints l),(7,.bool true),(8,.sl 0 (ps.map PE.zF)),(9,.int .i64 (i:Int))]) (fun _=>[.cell n [.sl 0 (p.tables.map iV),.sl 0 (p.on.map PE.vS),.sl 0 (p.xO.map PE.zF),.sl 0 (p.order.map PE.sv),.sl 0 (p.items.map PE.zF),.sl 0 (p.names.map sV),.bool p.distinct,.int .i64 p.limit],.cell nc [.sl 0 (ts.map Tab.zF)]])
         (fun i=>i≤ps.length) 0 (Nat.zero_le _) ⟨rfl,rfl,rfl,rfl,rfl,rfl,trivial⟩ hh (zK.refl _) (fun i s hi hh=>?_)
       try dsimp only at hi hh ⊢
       rcases Nat.lt_or_ge i ps.length with hlt | hge
       · have hga : (ps.map PE.zF)[i]? = some (PE.v ps[i]) := by rw [List.getElem?_map, List.getElem?_eq_getElem hlt]; simp only [Option.map_some, PE.qK]
         have hE:=hF ps[i] (List.getElem_mem hlt)
         rw [hf0 ps[i] (List.getElem_mem hlt)] at hE
         generalize ps[i]=k at hga hE
         repeat' first|(refine zf ?_;first|(refine zq.nil ?_)|(refine zq.ev zx rfl ?_)|(refine qx ?_;first|(refine zq.ans (zk.z8 zx rfl rfl rfl) ?_))|(refine xk ?_;first|(refine zq.ans (zk.add rfl rfl ?_) ?_;(focus (constructor <;> omega))))|(refine xw ?_;first|(refine zq.ans (zk.idx zx rfl rfl rfl rfl rfl hga rfl rfl) ?_))|(refine zy 13 ?_;first|(refine zq.ans (zk.ze rfl rfl rfl (NR) (hE _)) ?_)))|(refine zH ?_;first|(refine WL.seq ?_)|(refine WL.region (by kernel_rfl) ?_)|(refine WL.block ?_)|(refine WL.skip ?_)|(refine zu ?_;first|(refine WL.qQ rfl ?_)|(refine WL.zJ rfl ?_ ?_;(focus (first|(simp <;> omega))))))|(refine zw ?_)|(refine zQ ?_)
         refine kW.of (i+1) ?_ hh (zK.refl _) hlt (by omega)
         exact ⟨rfl,rfl,rfl,rfl,rfl,rfl,trivial⟩
       · skip
         repeat' first|(refine zf ?_;first|(refine zq.nil ?_)|(refine kG ?_;first|(refine zq.gT rfl rfl rfl ?_)|(refine zq.gD true rfl rfl rfl ?_ ?_;(focus (first|(simp <;> omega)))))|(refine zq.ev zx rfl ?_)|(refine zo ?_;first|(refine zq.ans (zk.zM zx 0 hh rfl rfl rfl rfl) ?_)|(refine zq.ans (zk.zM zx 1 hh rfl rfl rfl rfl) ?_))|(refine qx ?_;first|(refine zq.ans (zk.z8 zx rfl rfl rfl) ?_))|(refine zy 14 ?_;first|(refine zq.ans (zk.ze rfl rfl rfl (Y1) (Cx _)) ?_)))|(refine zH ?_;first|(refine WL.seq ?_)|(refine WL.region (by kernel_rfl) ?_)|(refine WL.exit ?_)|(refine WL.ret ?_)|(refine zu ?_;first|(refine WL.zY rfl ?_ ?_;(focus (first|(simp <;> omega))))))|(refine zw ?_)|(refine zC ?_)|(refine zV ?_)|(refine ko ?_)|(refine zh.r1 (r := .tmp 2) (.inl rfl) (zn.tmp rfl) ?_)
         exact congrArg V.bool (decide_eq_true (by omega))
 · skip
   repeat' first|(refine zf ?_;first|(refine zq.nil ?_)|(refine zq.ev zx rfl ?_)|(refine zy 4 ?_;first|(refine zq.ans (zk.ze rfl rfl rfl (Ph) (hbig _)) ?_)))|(refine zH ?_;first|(refine WL.seq ?_)|(refine WL.region (by kernel_rfl) ?_)|(refine WL.ret ?_)|(refine zu ?_;first|(refine WL.qb rfl ?_)))|(refine zw ?_)|(refine zZ ?_)|(refine zh.r1 (r := .tmp 2) (.inl rfl) (zn.tmp rfl) ?_)
   rfl
end Go.Proofs.YtolhegocbkckdaaGreat
