/-
 The law on types with more rows without, and within. Own work; no condition.
-/
import Derived.Test.YtolhegocbkckdaaMg46
import Derived.Test.YtolhegocbkckdaaDLiftR
import Derived.Test.YtolhegocbkckdaaMg43
namespace Go.Proofs.Ytolhegocbkckdaa
open Go
set_option linter.unusedSimpArgs false
set_option linter.unusedVariables false
theorem specLifted_q (e:PE) (hw:wgt e.v≤1048576) (u:Int) (s:S):VCalls Try.prog 12 [e.v,.int .i64 u] s (fun v s'=>v=(liftTop e u).v∧s'=s) :=
 VCalls.pureOf (plainL_cons (PE.plainv e) (plainL_cons rfl rfl)) (PE.plainv _) (fun t=>specLifted_c e u hw t) s
theorem VCalls.lookR {P:Program} {f:FuncId} {vs ds:List V} {a:Int} {c:Bool} {s:S} (hrd:RdL s vs ds) (h:∀ t,VCalls P f ds t (fun v t'=>v = .tup [.int .i64 a,.bool c]∧t'=t)):VCalls P f vs s (fun v s'=>v = .tup [.int .i64 a,.bool c]∧s'=s):=by
 have e1:∀ n,thw n (.tup [.int .i64 a,.bool c])=(.tup [.int .i64 a,.bool c],[]):=fun n=>rfl
 have:=VCalls.lend2 (d := .tup [.int .i64 a,.bool c]) hrd fun t=>(h t).mono fun v t' hv=>by
   obtain ⟨rfl,rfl⟩:=hv
   exact ⟨[],.tup (.cons (.scal rfl) (.cons (.scal rfl) .nil)),List.nodup_nil⟩
 intro E vals h1 h2
 have e2:s.ext []=s:=ext_nil h1
 refine (this.mono fun v s' hv=>?_) E vals h1 h2
 obtain ⟨rfl,rfl⟩:=hv
 rw [thawed,e1]
 exact ⟨rfl,e2⟩
theorem Hold.extN {s:S} {H:List BE} (h:Hold s s.next H) (xs:List Own):Hold (s.ext xs) (s.ext xs).next H:=by
 obtain ⟨ls,h1,h2,h3⟩:=h.ex
 exact ⟨ls,h1.congr (by rw [ext_next];omega) fun p hp => .lt (h3 p hp),h2,fun p hp=>by rw [ext_next];have:=h3 p hp;omega⟩
theorem LOps.reb {P:Program} {N:Nat} {ops:Array Oper} {l:List Oper} {K:Kn→S→Prop} {L:Kn} {s:S} {H:List BE} {xs:List Own} (hh:Hold s s.next H) (hk:∀ s1:S,Hold s1 s1.next H→LOps P N ops l K L (s1.ext [])):LOps P N ops l K L (s.ext xs):=by
 rw [← ext_ext_nil]
 exact hk _ (hh.extN xs)
theorem WL.reb {P:Program} {N:Nat} {c:Code} {Q:Exit→Kn→S→Prop} {L:Kn} {s:S} {H:List BE} {xs:List Own} (hh:Hold s s.next H) (hk:∀ s1:S,Hold s1 s1.next H→WL P N c Q L (s1.ext [])):WL P N c Q L (s.ext xs):=by
 rw [← ext_ext_nil]
 exact hk _ (hh.extN xs)
set_option maxHeartbeats 4000000 in
theorem lawTypedOutL_v {b:V} (hb:Bytes b) (s:S):VCalls Try.prog 7 [b] s (fun v _=>v = .bool true):=by
 obtain ⟨c,hbig⟩:=big_v hb
 have hh:Hold s s.next [] := .start _ _
 refine LCalls.body Try.func7 rfl (by kernel_rfl) ?_
 cases c
 · skip
   repeat' first |(refine kAlloc ?_ ;refine LOps.allocH tT_ok hh rfl rfl ?_ ;intro s n hh) |(refine kStore ?_ ;first |(refine LOps.storeH tT_ok 0 hh rfl rfl rfl rfl rfl rfl rfl rfl rfl ?_ ;intro s hh) |(refine LOps.storeH tT_ok 1 hh rfl rfl rfl rfl rfl rfl rfl rfl rfl ?_ ;intro s hh)) |(refine kCallN 25 ?_ ;refine LOps.drawAll rfl rfl ok25 hh (specDrawTypeIn_d hb) ?_ ;intro s x hq hh) |(refine kOps ?_;first |(refine LOps.nil ?_) |(refine LOps.ev tT_ok rfl ?_) |(refine kLoad ?_;first |(refine LOps.ans (AnsL.loadH tT_ok 0 hh rfl rfl rfl rfl) ?_) |(refine LOps.ans (AnsL.loadH tT_ok 1 hh rfl rfl rfl rfl) ?_)) |(refine kCallN 8 ?_;first |(refine LOps.ans (AnsL.callP rfl rfl rfl (ok8) (hbig _)) ?_))) |(refine kWL ?_;first |(refine WL.seq ?_) |(refine WL.region (by kernel_rfl) ?_) |(refine WL.skip ?_) |(refine kCond ?_;first |(refine WL.condF rfl ?_))) |(refine lthen_n ?_)
   rename_i nc _ _ _ _ _
   obtain ⟨ts,env,e⟩:=x
   obtain ⟨⟨h1,h2⟩,⟨h3,h4⟩,h5⟩:=hq
   dsimp only at h1 h2 h3 h4 h5 hh ⊢
   have hw:wgt e.v≤2990:=Nat.le_trans h5 (by decide)
   have h4':∀ r∈env,r.length≤4:=fun r hr=>Nat.le_trans (h4 r hr) (by omega)
   have hI:=fun t=>implTypeIn_q (ts:=ts) (e:=e) h1.2 h2 hw env (by omega) h4' t
   have hS:=fun t=>specTypeIn_q (ts:=ts) (e:=e) h1.2 h2 hw env (by omega) h4' t
   cases ho:e.ty ⟨ts⟩ env with
   | none =>
     rw [ho] at hI hS
     replace hI:∀ t,VCalls Try.prog 26 [catV ts,envW env,e.v] t (fun v s'=>v = .tup [.int .i64 0,.bool false]∧s'=t):=hI
     replace hS:∀ t,VCalls Try.prog 27 [catV ts,envW env,e.v] t (fun v s'=>v = .tup [.int .i64 0,.bool false]∧s'=t):=hS
     repeat' first |(refine kOps ?_;first |(refine LOps.nil ?_) |(refine LOps.ev tT_ok rfl ?_) |(refine kLoad ?_;first |(refine LOps.ans (AnsL.loadH tT_ok 0 hh rfl rfl rfl rfl) ?_) |(refine LOps.ans (AnsL.loadH tT_ok 1 hh rfl rfl rfl rfl) ?_)) |(refine kCallN 26 ?_;first |(refine LOps.ans (AnsL.callP rfl rfl rfl (ok26) (hI _)) ?_)) |(refine kCallN 27 ?_;first |(refine LOps.ans (AnsL.callP rfl rfl rfl (ok27) (hS _)) ?_))) |(refine kWL ?_;first |(refine WL.seq ?_) |(refine WL.region (by kernel_rfl) ?_) |(refine WL.skip ?_) |(refine WL.ret ?_) |(refine kCond ?_;first |(refine WL.condT rfl ?_) |(refine WL.condF rfl ?_))) |(refine lthen_n ?_) |(refine lthen_r ?_) |(refine LPost.r1 (r := .tmp 2) (.inl rfl) (Res1.tmp rfl) ?_)
     rfl
   | some t =>
     rw [ho] at hI hS
     replace hI:∀ s,VCalls Try.prog 26 [catV ts,envW env,e.v] s (fun v s'=>v = .tup [.int .i64 t,.bool true]∧s'=s):=hI
     replace hS:∀ s,VCalls Try.prog 27 [catV ts,envW env,e.v] s (fun v s'=>v = .tup [.int .i64 t,.bool true]∧s'=s):=hS
     have hm:=ty_out (more:=[[1,2,3]]) ho
     have hn:=ty_in (two:=[[3],[]]) ho
     have hM:=fun s=>implTypeIn_q (ts:=ts) (e:=e) h1.2 h2 hw (env++[[1,2,3]]) (by simp;omega) (fun r hr=>by
       rcases List.mem_append.1 hr with hr | hr
       · exact h4' r hr
       · rw [List.mem_singleton] at hr;subst hr;decide) s
     rw [hm] at hM
     have hl:liftTop e 2=e.lf 2 0:=if_pos (by
       have hu:=ups_ty e env t (by omega) ho
       unfold liftB
       rw [hu]
       rfl)
     have hLi:=fun s=>specLifted_q e (by omega) 2 s
     rw [hl] at hLi
     have hN:=fun s=>implTypeIn_q (ts:=ts) (e:=e.lf 2 0) h1.2 h2 (by rw [PE.lf_wgt];exact hw) ([[3],[]]++env) (by simp;omega) (fun r hr=>by
       rcases List.mem_append.1 hr with hr | hr
       · simp only [List.mem_cons,List.not_mem_nil,or_false] at hr
         rcases hr with rfl | rfl <;> decide
       · exact h4' r hr) s
     replace hn:(e.lf 2 0).ty ⟨ts⟩ ([[3],[]]++env)=some t:=hn
     rw [hn] at hN
     generalize e.lf 2 0=e2 at hLi hN
     replace hM:∀ s,VCalls Try.prog 26 [catV ts,.sl 0 (env.map rwV++[rwV [1,2,3]]),e.v] s (fun v s'=>v = .tup [.int .i64 t,.bool true]∧s'=s):=fun s=>by
       have:=hM s
       rw [envW,List.map_append] at this
       exact this
     replace hN:∀ s,VCalls Try.prog 26 [catV ts,.sl 0 (rwV [3]::rwV []::env.map rwV),e2.v] s (fun v s'=>v = .tup [.int .i64 t,.bool true]∧s'=s):=hN
     have hpc:V.plain (catV ts)=true:=plainL_cons (plain_TableS ts) rfl
     have hpe:=PE.plainv e
     have hpe2:=PE.plainv e2
     have hp1:V.plainL (env.map rwV)=true:=plainL_of (plain_IntSS env)
     have hR1:∀ (i j:Nat) (t:S),RdL t [catV ts,.sl i (env.map rwV++[.sl j [.int .i64 1,.int .i64 2,.int .i64 3]]),e.v] [catV ts,.sl 0 (env.map rwV++[rwV [1,2,3]]),e.v]:=fun i j t =>
       .cons (Rd.plain _ hpc) (.cons (.sl ((RdL.plain _ hp1).app (.cons (.sl (RdL.plain _ rfl)) .nil))) (.cons (Rd.plain _ hpe) .nil))
     have hR2:∀ (i j:Nat) (t:S),RdL t [catV ts,.sl i (.sl j [.int .i64 3] :: .zsl::env.map rwV),e2.v] [catV ts,.sl 0 (rwV [3]::rwV []::env.map rwV),e2.v]:=fun i j t =>
       .cons (Rd.plain _ hpc) (.cons (.sl (.cons (.sl (RdL.plain _ rfl)) (.cons .zsl (RdL.plain _ hp1)))) (.cons (Rd.plain _ hpe2) .nil))
     repeat' first |(refine kOps ?_;first |(refine LOps.nil ?_) |(refine LOps.ev tT_ok rfl ?_) |(refine kBsl ?_;first |(refine LOps.bsl0 tT_ok rfl rfl rfl rfl rfl ?_) |(refine LOps.bsl tT_ok rfl rfl rfl rfl rfl rfl rfl rfl rfl rfl rfl ?_)) |(refine kApp ?_;first |(refine LOps.app tT_ok rfl rfl rfl rfl rfl rfl rfl rfl rfl rfl rfl ?_ ?_ (AppB.of ?_ rfl) ?_;(focus (first | rfl));(focus (first | exact Elems.of rfl | exact Elems.map fun _=>rfl | exact PE.els _ (fun _=>rfl) _));(focus (first | omega |(simp;omega)))) |(refine LOps.app0 tT_ok rfl rfl rfl rfl rfl rfl rfl rfl rfl rfl rfl ?_ (AppB.of ?_ rfl) ?_;(focus (first | exact Elems.of rfl | exact Elems.map fun _=>rfl | exact PE.els _ (fun _=>rfl) _));(focus (first | omega |(simp;omega))))) |(refine kLoad ?_;first |(refine LOps.ans (AnsL.loadH tT_ok 0 hh rfl rfl rfl rfl) ?_) |(refine LOps.ans (AnsL.loadH tT_ok 1 hh rfl rfl rfl rfl) ?_)) |(refine kCall ?_;first |(refine LOps.ans (AnsL.callP rfl rfl rfl ok26 (hI _)) ?_)) |(refine kCallN 27 ?_;first |(refine LOps.ans (AnsL.callP rfl rfl rfl (ok27) (hS _)) ?_))) |(refine kWL ?_;first |(refine WL.seq ?_) |(refine WL.region (by kernel_rfl) ?_) |(refine WL.skip ?_) |(refine kCond ?_;first |(refine WL.condF rfl ?_))) |(refine lthen_n ?_)
     refine LOps.reb hh fun s hh=>?_
     repeat' first |(refine kOps ?_;first |(refine LOps.nil ?_) |(refine LOps.ev tT_ok rfl ?_) |(refine kBsl ?_;first |(refine LOps.bsl0 tT_ok rfl rfl rfl rfl rfl ?_) |(refine LOps.bsl tT_ok rfl rfl rfl rfl rfl rfl rfl rfl rfl rfl rfl ?_)) |(refine kApp ?_;first |(refine LOps.app tT_ok rfl rfl rfl rfl rfl rfl rfl rfl rfl rfl rfl ?_ ?_ (AppB.of ?_ rfl) ?_;(focus (first | rfl));(focus (first | exact Elems.of rfl | exact Elems.map fun _=>rfl | exact PE.els _ (fun _=>rfl) _));(focus (first | omega |(simp;omega))))) |(refine kLoad ?_;first |(refine LOps.ans (AnsL.loadH tT_ok 0 hh rfl rfl rfl rfl) ?_) |(refine LOps.ans (AnsL.loadH tT_ok 1 hh rfl rfl rfl rfl) ?_)) |(refine kCall ?_;first |(refine LOps.ans (AnsL.callP rfl rfl rfl ok26 (VCalls.lookR (hR1 _ _ _) hM)) ?_))) |(refine kWL ?_;first |(refine WL.seq ?_) |(refine WL.region (by kernel_rfl) ?_)) |(refine lthen_n ?_)
     refine WL.reb hh fun s hh=>?_
     repeat' first |(refine kOps ?_;first |(refine LOps.nil ?_) |(refine kG ?_;first |(refine LOps.gT rfl rfl rfl ?_) |(refine LOps.gD true rfl rfl rfl ?_ ?_;(focus (first |(simp <;> fail))))) |(refine LOps.ev tT_ok rfl ?_) |(refine kCall ?_;first |(refine LOps.ans (AnsL.callP rfl rfl rfl ok26 (VCalls.lookR (hR2 _ _ _) hN)) ?_)) |(refine kCallN 12 ?_;first |(refine LOps.ans (AnsL.callP rfl rfl rfl (ok12) (hLi _)) ?_))) |(refine kWL ?_;first |(refine WL.seq ?_) |(refine WL.region (by kernel_rfl) ?_) |(refine WL.drawn (id:=13) [0,1,2,3,4,5,6,7,8,9] [3,4] [[],[],[],[2],[0,1,2,3],[0,1,2,3,4],[0,1,2,3,4,5],[0,1,2,3,4,5],[0,1,2,3,4,5,6],[0,1,2,3,4,5,6,7,8]] (by kernel_rfl) (by kernel_rfl) ?_) |(refine WL.ret ?_)) |(refine kDr ?_;first |(refine LDr.nil ?_) |(refine LDr.fl rfl rfl (.ev tT_ok rfl) ?_) |(refine kDLoad rfl ?_;first |(refine LDr.fl rfl rfl (AnsL.loadH tT_ok 0 hh rfl rfl rfl rfl) ?_) |(refine LDr.fl rfl rfl (AnsL.loadH tT_ok 1 hh rfl rfl rfl rfl) ?_)) |(refine LDr.eff rfl rfl rfl ?_)) |(refine lthen_n ?_) |(refine LPost.r1 (r := .tmp 2) (.inl rfl) (Res1.tmp rfl) ?_) |(refine And.intro ?_ ?_) |(exact StsL.nil) |(refine StsL.cons ?_ ?_) |(refine StL.fl rfl rfl (.ev tT_ok rfl)) |(refine StL.fl rfl rfl (AnsL.loadH tT_ok 1 hh rfl rfl rfl rfl))
     simp
 · skip
   repeat' first |(refine kOps ?_;first |(refine LOps.nil ?_) |(refine LOps.ev tT_ok rfl ?_) |(refine kCallN 8 ?_;first |(refine LOps.ans (AnsL.callP rfl rfl rfl (ok8) (hbig _)) ?_))) |(refine kWL ?_;first |(refine WL.seq ?_) |(refine WL.region (by kernel_rfl) ?_) |(refine WL.ret ?_) |(refine kCond ?_;first |(refine WL.condT rfl ?_))) |(refine lthen_n ?_) |(refine lthen_r ?_) |(refine LPost.r1 (r := .tmp 2) (.inl rfl) (Res1.tmp rfl) ?_)
   rfl
end Go.Proofs.Ytolhegocbkckdaa
