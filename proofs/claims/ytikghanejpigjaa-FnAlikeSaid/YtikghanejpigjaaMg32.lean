/-
  A reader of a tree's tokens, plainly: nothing of the program.
  The reader's facts: operators, literals, what stops it.
  The shapes of a right tree's node, one by one.
  Literals' tokens tell them apart.
  The tokens of the ten shapes.
  Own work; no condition.
-/
import Derived.Test.YtikghanejpigjaaDEOk5
import Derived.Test.YtikghanejpigjaaDTk
namespace Go.Proofs.Ytikghanejpigjaa
open Go
set_option linter.unusedSimpArgs false
set_option linter.unusedVariables false
deriving instance DecidableEq for Token
abbrev zV:Val:=⟨0,0,[]⟩
def eLit (v:Val):EE := .mk 1 0 false v [] [] [] []
def eCol (q n:List UInt8):EE := .mk 2 0 false zV q n [] []
def eN (kind op:Int) (nt:Bool) (kids:List EE) (sub:List EQ):EE := .mk kind op nt zV [] [] kids sub
open Classical in
noncomputable def litOf (x:Token):Val:=if h:∃ v,litOk v=true∧litT v=x then h.choose else zV
def ops14:List Int:=[1,2,3,4,5,6,7,8,9,10,11,12,13,14]
def opOf (n:Nat) (x:Token):Option Int:=ops14.find? fun op=>decide (lvl 4 op=n)&&decide (opT op=x)
def cont (x:Token):Nat:=if x=sgn 46 then 10 else if x=keyT 15∨x=keyT 16∨x=keyT 17∨x=keyT 18 then 4 else match ops14.find? fun op=>decide (opT op=x) with | some op=>(lvl 4 op).toNat | none=>0
def NC (n:Nat):List Token→Prop
 | []=>True
 | x::_=>cont x<n
def hdIs (x:Token):List Token→Bool
 | []=>false
 | y::_=>decide (y=x)
def pAs:List Token→List UInt8 × List Token
 | x::y::r=>if x=keyT 12 then (y.text,r) else ([],x::y::r)
 | r=>([],r)
open Classical in
noncomputable def numOf (t:List UInt8):Int:=if h:∃ n:Int,Lib.itoa n=t then h.choose else 0
noncomputable def pLim:List Token→Int × List Token
 | x::y::r=>if x=keyT 11 then (numOf y.text,r) else (-1,x::y::r)
 | r=>(-1,r)
def qst (t:List Token):Bool:=decide ((t.headD (sgn 42)).kind=2)&&(hdIs (sgn 46) t.tail&&hdIs (sgn 42) t.tail.tail)
mutual
noncomputable def pE (n:Nat) (t:List Token):Option (EE × List Token) :=
 if n=3 then (if hdIs (keyT 15) t then (pE 3 t.tail) >>= fun w=>some (eN 3 15 false [w.1] [],w.2) else pE 4 t)
 else if n=4 then (pE 5 t) >>= fun w=>pT w.1 w.2
 else if n=8 then (if hdIs (sgn 45) t then (pE 8 t.tail) >>= fun w=>some (eN 3 16 false [w.1] [],w.2) else pE 9 t)
 else if 9≤n then pP t
 else (pE (n+1) t) >>= fun w=>pM n w.1 w.2
 partial_fixpoint
noncomputable def pM (n:Nat) (a:EE) (t:List Token):Option (EE × List Token) :=
 match t with
 | []=>some (a,[])
 | x::r=>match opOf n x with
   | some op=>(pE (n+1) r) >>= fun w=>pM n (eN 4 op false [a,w.1] []) w.2
   | none=>some (a,x::r)
 partial_fixpoint
noncomputable def pT (a:EE) (t:List Token):Option (EE × List Token) :=
 match t with
 | []=>some (a,[])
 | x::r=>match opOf 4 x with
   | some op=>(pE 5 r) >>= fun w=>some (eN 4 op false [a,w.1] [],w.2)
   | none =>
     if x=keyT 16 then (if hdIs (keyT 15) r then some (eN 5 0 true [a] [],r.tail.tail) else some (eN 5 0 false [a] [],r.tail))
     else if x=keyT 15 then pU a true r
     else if x=keyT 17∨x=keyT 18 then pU a false (x::r)
     else some (a,x::r)
 partial_fixpoint
noncomputable def pU (a:EE) (nt:Bool) (t:List Token):Option (EE × List Token) :=
 if hdIs (keyT 18) t then (pE 5 t.tail) >>= fun w=>(pE 5 w.2.tail) >>= fun z=>some (eN 6 0 nt [a,w.1,z.1] [],z.2)
 else if hdIs (keyT 1) t.tail.tail then (pQ t.tail.tail) >>= fun w=>some (eN 8 0 nt [a] [w.1],w.2.tail)
 else (pL t.tail.tail) >>= fun w=>some (eN 7 0 nt (a::w.1) [],w.2.tail)
 partial_fixpoint
noncomputable def pP (t:List Token):Option (EE × List Token) :=
 match t with
 | []=>none
 | x::r =>
   if x=sgn 40 then (pE 1 r) >>= fun w=>some (w.1,w.2.tail)
   else if x=keyT 19 then (pQ r.tail) >>= fun w=>some (eN 9 0 false [] [w.1],w.2.tail)
   else if x.kind=2 then (match r with
     | y::z::s=>if y=sgn 46 then some (eCol x.text z.text,s) else some (eCol [] x.text,y::z::s)
     | r=>some (eCol [] x.text,r))
   else some (eLit (litOf x),r)
 partial_fixpoint
noncomputable def pL (t:List Token):Option ((List EE) × List Token) :=
 (pE 1 t) >>= fun w=>if hdIs (sgn 44) w.2 then (pL w.2.tail) >>= fun z=>some (w.1::z.1,z.2) else some ([w.1],w.2)
 partial_fixpoint
noncomputable def pI (t:List Token):Option (EItem × List Token) :=
 if hdIs (sgn 42) t then some (⟨true,[],EE.zero,[]⟩,t.tail)
 else if qst t=true then some (⟨true,(t.headD (sgn 42)).text,EE.zero,[]⟩,t.tail.tail.tail)
 else (pE 1 t) >>= fun w=>some (⟨false,[],w.1,(pAs w.2).1⟩,(pAs w.2).2)
 partial_fixpoint
noncomputable def pIs (t:List Token):Option ((List EItem) × List Token) :=
 (pI t) >>= fun w=>if hdIs (sgn 44) w.2 then (pIs w.2.tail) >>= fun z=>some (w.1::z.1,z.2) else some ([w.1],w.2)
 partial_fixpoint
noncomputable def pS (t:List Token):Option ((List ESrc) × List Token) :=
 if hdIs (sgn 44) t then (pS (pAs t.tail.tail).2) >>= fun z=>some (⟨(t.tail.headD (sgn 42)).text,(pAs t.tail.tail).1,[]⟩::z.1,z.2)
 else if hdIs (keyT 4) t then (pE 1 (pAs t.tail.tail).2.tail) >>= fun w=>(pS w.2) >>= fun z=>some (⟨(t.tail.headD (sgn 42)).text,(pAs t.tail.tail).1,[w.1]⟩::z.1,z.2)
 else some ([],t)
 partial_fixpoint
noncomputable def pO (t:List Token):Option ((List (EE × Bool)) × List Token) :=
 (pE 1 t) >>= fun w=>if hdIs (keyT 10) w.2 then (if hdIs (sgn 44) w.2.tail then (pO w.2.tail.tail) >>= fun z=>some ((w.1,true)::z.1,z.2) else some ([(w.1,true)],w.2.tail))
   else (if hdIs (sgn 44) w.2 then (pO w.2.tail) >>= fun z=>some ((w.1,false)::z.1,z.2) else some ([(w.1,false)],w.2))
 partial_fixpoint
noncomputable def pQ (t:List Token):Option (EQ × List Token) :=
 (pIs (if hdIs (keyT 2) t.tail then t.tail.tail else t.tail)) >>= fun i=>(pS (sgn 44::i.2.tail)) >>= fun f =>
   (if hdIs (keyT 6) f.2 then (pE 1 f.2.tail >>= fun w=>some ([w.1],w.2)) else some ([],f.2)) >>= fun w =>
   (if hdIs (keyT 7) w.2 then pO w.2.tail.tail else some ([],w.2)) >>= fun o =>
   some (⟨hdIs (keyT 2) t.tail,i.1,f.1,w.1,o.1,(pLim o.2).1⟩,(pLim o.2).2)
 partial_fixpoint
end
end Go.Proofs.Ytikghanejpigjaa

namespace Go.Proofs.Ytikghanejpigjaa
open Go
set_option linter.unusedSimpArgs false
set_option linter.unusedVariables false
theorem op_cases {op:Int} (h:1≤op∧op≤14):op∈ops14:=by
 have:op=1∨op=2∨op=3∨op=4∨op=5∨op=6∨op=7∨op=8∨op=9∨op=10∨op=11∨op=12∨op=13∨op=14:=by omega
 simpa [ops14] using this
theorem ops_facts:∀ op∈ops14,opOf (lvl 4 op).toNat (opT op)=some op∧cont (opT op)=(lvl 4 op).toNat∧0<lvl 4 op∧lvl 4 op≤7:=by decide +kernel
theorem opOf_none {n:Nat} {x:Token} (h:cont x≠n):opOf n x=none:=by
 cases e:opOf n x with
 | none=>rfl
 | some op =>
   have h1:=List.find?_some e
   have h2:=List.mem_of_find?_eq_some e
   simp only [Bool.and_eq_true,decide_eq_true_eq] at h1
   have h3:=(ops_facts op h2).2.1
   rw [h1.2] at h3
   omega
theorem cont_keys:cont (keyT 15)=4∧cont (keyT 16)=4∧cont (keyT 17)=4∧cont (keyT 18)=4∧cont (sgn 46)=10∧cont (sgn 41)=0∧cont (sgn 44)=0∧cont (keyT 12)=0∧cont (keyT 3)=0∧cont (keyT 4)=0∧cont (keyT 6)=0∧cont (keyT 7)=0∧cont (keyT 10)=0∧cont (keyT 11)=0∧cont (keyT 13)=2:=by decide +kernel
theorem NC.mono {n m:Nat} {r:List Token} (h:NC n r) (hm:n≤m):NC m r:=by
 cases r with
 | nil=>trivial
 | cons x r=>exact Nat.lt_of_lt_of_le h hm
theorem pM_stop {n:Nat} {a:EE} {r:List Token} (h:NC n r):pM n a r=some (a,r):=by
 rw [pM.eq_def]
 cases r with
 | nil=>rfl
 | cons x r =>
   have:=opOf_none (n:=n) (x:=x) (by have:cont x<n:=h;omega)
   simp only [this]
theorem pT_stop {a:EE} {r:List Token} (h:NC 4 r):pT a r=some (a,r):=by
 rw [pT.eq_def]
 cases r with
 | nil=>rfl
 | cons x r =>
   have hx:cont x<4:=h
   have:=opOf_none (n:=4) (x:=x) (by omega)
   have k:=cont_keys
   have h1:x≠keyT 16:=fun e=>by rw [e] at hx;omega
   have h2:x≠keyT 15:=fun e=>by rw [e] at hx;omega
   have h3:¬ (x=keyT 17∨x=keyT 18):=fun e=>by rcases e with e | e <;> rw [e] at hx <;> omega
   simp only [this,if_neg h1,if_neg h2,if_neg h3]
end Go.Proofs.Ytikghanejpigjaa

namespace Go.Proofs.Ytikghanejpigjaa
open Go
set_option linter.unusedSimpArgs false
set_option linter.unusedVariables false
inductive RS:EE→Prop
 | lit (v:Val):litOk v=true→RS (eLit v)
 | col (q n:List UInt8):mbOk q=true→nmOk n=true→RS (eCol q n)
 | no (k:EE):RS (eN 3 15 false [k] [])
 | neg (k:EE):RS (eN 3 16 false [k] [])
 | bin (op:Int) (a b:EE):1≤op∧op≤14→RS (eN 4 op false [a,b] [])
 | is (nt:Bool) (a:EE):RS (eN 5 0 nt [a] [])
 | btw (nt:Bool) (a b c:EE):RS (eN 6 0 nt [a,b,c] [])
 | inl (nt:Bool) (a b:EE) (l:List EE):RS (eN 7 0 nt (a::b::l) [])
 | ins (nt:Bool) (a:EE) (q:EQ):RS (eN 8 0 nt [a] [q])
 | ex (q:EQ):RS (eN 9 0 false [] [q])
theorem len_one {α : Type} {l:List α} (h:l.length=1):∃ a,l=[a]:=List.length_eq_one_iff.1 h
theorem len_zero {α : Type} {l:List α} (h:l.length=0):l=[]:=List.length_eq_zero_iff.1 h
theorem len_twoJ {α : Type} {l:List α} (h:2≤l.length):∃ a b r,l=a::b::r:=by
 match l,h with
 | a::b::r,_=>exact ⟨a,b,r,rfl⟩
theorem EE.ext' {e:EE} {k o:Int} {n:Bool} {v:Val} {q m:List UInt8} {ks:List EE} {ss:List EQ} (h1:e.kind=k) (h2:e.op=o) (h3:e.nt=n) (h4:e.value=v) (h5:e.qual=q) (h6:e.name=m) (h7:e.kids=ks) (h8:e.sub=ss):e = .mk k o n v q m ks ss:=by
 subst h1 h2 h3 h4 h5 h6 h7 h8
 cases e
 rfl
theorem shpB_RS {e:EE} (h:shpB e=true):RS e:=by
 simp only [shpB,Bool.and_eq_true,Bool.not_eq_true'] at h
 obtain ⟨hA,hN,hK⟩:=h
 unfold shpA at hA
 unfold shpN at hN
 unfold shpK at hK
 have hA1:e.kind≠2→e.qual=[]∧e.name=[]:=fun h2=>by
   simp only [Bool.or_eq_false_iff,Bool.and_eq_false_iff,decide_eq_false_iff_not,Classical.not_not,ne_eq] at hA
   exact hA.1.resolve_left h2
 have hA2:e.kind≠1→e.value=zV:=fun h2=>by
   simp only [Bool.or_eq_false_iff,Bool.and_eq_false_iff,decide_eq_false_iff_not,Classical.not_not,ne_eq,Bool.not_eq_false'] at hA
   exact (valEq_iff _ _).1 (hA.2.resolve_left h2)
 have hN1:e.kind≠3→e.kind≠4→e.op=0:=fun h2 h3=>by
   simp only [Bool.or_eq_false_iff,Bool.and_eq_false_iff,decide_eq_false_iff_not,Classical.not_not,ne_eq] at hN
   exact hN.1.resolve_left (fun h=>h.elim h2 h3)
 have hN2:¬ (5≤e.kind∧e.kind≤8)→e.nt=false:=fun h2=>by
   simp only [Bool.or_eq_false_iff,Bool.and_eq_false_iff,Bool.not_eq_false',Bool.and_eq_true,decide_eq_true_eq] at hN
   exact hN.2.resolve_right h2
 clear hA hN
 by_cases k1:e.kind=1
 · rw [if_pos k1] at hK
   simp only [Bool.and_eq_true,decide_eq_true_eq] at hK
   rw [EE.ext' k1 (hN1 (by omega) (by omega)) (hN2 (by omega)) rfl (hA1 (by omega)).1 (hA1 (by omega)).2 (len_zero (by omega)) (len_zero (by omega))]
   exact .lit _ hK.1
 rw [if_neg k1] at hK
 have hv:=hA2 k1
 by_cases k2:e.kind=2
 · rw [if_pos k2] at hK
   simp only [Bool.and_eq_true,decide_eq_true_eq] at hK
   rw [EE.ext' k2 (hN1 (by omega) (by omega)) (hN2 (by omega)) hv rfl rfl (len_zero (by omega)) (len_zero (by omega))]
   exact .col _ _ hK.1.2 hK.1.1
 rw [if_neg k2] at hK
 obtain ⟨hq,hn⟩:=hA1 k2
 by_cases k3:e.kind=3
 · rw [if_pos k3] at hK
   simp only [Bool.and_eq_true,Bool.or_eq_true,decide_eq_true_eq] at hK
   obtain ⟨k,hk⟩:=len_one hK.1.2
   rcases hK.1.1 with h | h
   · rw [EE.ext' k3 h (hN2 (by omega)) hv hq hn hk (len_zero hK.2)]
     exact .no k
   · rw [EE.ext' k3 h (hN2 (by omega)) hv hq hn hk (len_zero hK.2)]
     exact .neg k
 rw [if_neg k3] at hK
 by_cases k4:e.kind=4
 · rw [if_pos k4] at hK
   simp only [Bool.and_eq_true,decide_eq_true_eq] at hK
   obtain ⟨a,b,r,hk⟩:=len_twoJ (l:=e.kids) (by omega)
   have hr:=len_zero (l:=r) (by have:=hK.1.2;rw [hk] at this;simp only [List.length_cons] at this;omega)
   rw [EE.ext' k4 rfl (hN2 (by omega)) hv hq hn hk (len_zero hK.2),hr]
   exact .bin _ _ _ hK.1.1
 rw [if_neg k4] at hK
 have ho:=hN1 k3 k4
 by_cases k5:e.kind=5
 · rw [if_pos k5] at hK
   simp only [Bool.and_eq_true,decide_eq_true_eq] at hK
   obtain ⟨k,hk⟩:=len_one hK.1
   rw [EE.ext' k5 ho rfl hv hq hn hk (len_zero hK.2)]
   exact .is _ _
 rw [if_neg k5] at hK
 by_cases k6:e.kind=6
 · rw [if_pos k6] at hK
   simp only [Bool.and_eq_true,decide_eq_true_eq] at hK
   obtain ⟨a,b,r,hk⟩:=len_twoJ (l:=e.kids) (by omega)
   obtain ⟨c,hr⟩:=len_one (l:=r) (by have:=hK.1;rw [hk] at this;simp only [List.length_cons] at this;omega)
   rw [EE.ext' k6 ho rfl hv hq hn hk (len_zero hK.2),hr]
   exact .btw _ _ _ _
 rw [if_neg k6] at hK
 by_cases k7:e.kind=7
 · rw [if_pos k7] at hK
   simp only [Bool.and_eq_true,decide_eq_true_eq] at hK
   obtain ⟨a,b,r,hk⟩:=len_twoJ (l:=e.kids) (by omega)
   rw [EE.ext' k7 ho rfl hv hq hn hk (len_zero hK.2)]
   exact .inl _ _ _ _
 rw [if_neg k7] at hK
 by_cases k8:e.kind=8
 · rw [if_pos k8] at hK
   simp only [Bool.and_eq_true,decide_eq_true_eq] at hK
   obtain ⟨k,hk⟩:=len_one hK.1
   obtain ⟨q,hs⟩:=len_one hK.2
   rw [EE.ext' k8 ho rfl hv hq hn hk hs]
   exact .ins _ _ _
 rw [if_neg k8] at hK
 by_cases k9:e.kind=9
 · rw [if_pos k9] at hK
   simp only [Bool.and_eq_true,decide_eq_true_eq] at hK
   obtain ⟨q,hs⟩:=len_one hK.2
   rw [EE.ext' k9 ho (hN2 (by omega)) hv hq hn (len_zero hK.1) hs]
   exact .ex _
 rw [if_neg k9] at hK
 cases hK
end Go.Proofs.Ytikghanejpigjaa

namespace Go.Proofs.Ytikghanejpigjaa
open Go
set_option linter.unusedSimpArgs false
set_option linter.unusedVariables false
inductive LV:Val→Prop
 | nul:LV ⟨0,0,[]⟩
 | int (n:Int):LV ⟨1,n,[]⟩
 | txt (t:List UInt8):LV ⟨2,0,t⟩
 | ff:LV ⟨3,0,[]⟩
 | tt:LV ⟨3,1,[]⟩
theorem litOk_LV {v:Val} (h:litOk v=true):LV v:=by
 obtain ⟨k,n,t⟩:=v
 unfold litOk valOk at h
 simp only [Bool.and_eq_true] at h
 have h:=h.1.1
 by_cases h0:k=0
 · subst h0;simp at h;obtain ⟨rfl,rfl⟩:=h;exact .nul
 by_cases h1:k=1
 · subst h1;simp at h;subst h;exact .int _
 by_cases h2:k=2
 · subst h2;simp at h;obtain ⟨rfl,_⟩:=h;exact .txt _
 by_cases h3:k=3
 · subst h3; simp at h; obtain ⟨⟨a, b⟩, rfl⟩ := h
   have:n=0∨n=1:=by omega
   rcases this with rfl | rfl
   · exact .ff
   · exact .tt
 · simp [h0,h1,h2,h3] at h
def ofDgs (l:List UInt8):Nat:=l.foldl (fun a d=>a*10+(d.toNat - 48)) 0
theorem dgt_nat {k:Nat} (h:k<10):(UInt8.ofNat (48+k)).toNat=48+k:=by simp [UInt8.toNat_ofNat'];omega
theorem ofDgs_dec (m:Nat):ofDgs (Lib.decDigits m)=m:=by
 induction m using Nat.strongRecOn with
 | ind m ih =>
   by_cases h:m<10
   · rw [decS m h];simp only [ofDgs,List.foldl_cons,List.foldl_nil,dgt_nat h];omega
   · rw [decB m (by omega)]
     have:=ih (m / 10) (by omega)
     simp only [ofDgs,List.foldl_append,List.foldl_cons,List.foldl_nil,dgt_nat (show m % 10<10 by omega)] at this ⊢
     rw [this];omega
theorem dec_dgt (m:Nat):∀ d∈Lib.decDigits m,48≤d.toNat:=by
 induction m using Nat.strongRecOn with
 | ind m ih =>
   intro d hd
   by_cases h:m<10
   · rw [decS m h,List.mem_singleton] at hd;rw [hd,dgt_nat h];omega
   · rw [decB m (by omega), List.mem_append, List.mem_singleton] at hd
     rcases hd with hd | hd
     · exact ih (m / 10) (by omega) d hd
     · rw [hd,dgt_nat (by omega)];omega
theorem itoa_inj' {a b:Int} (h:Lib.itoa a=Lib.itoa b):a=b:=by
 unfold Lib.itoa at h
 have no:∀ (u v:Nat),45::Lib.decDigits u≠Lib.decDigits v:=fun u v e=>by
   have:=dec_dgt v 45 (by rw [← e];exact List.mem_cons_self ..)
   exact absurd this (by decide)
 split at h <;> split at h
 · have := congrArg ofDgs (List.cons.inj h).2
   rw [ofDgs_dec,ofDgs_dec] at this
   omega
 · exact (no _ _ h).elim
 · exact (no _ _ h.symm).elim
 · have := congrArg ofDgs h
   rw [ofDgs_dec,ofDgs_dec] at this
   omega
theorem litT_inj {v w:Val} (h1:litOk v=true) (h2:litOk w=true) (h:litT v=litT w):v=w:=by
 have a:=litOk_LV h1
 have b:=litOk_LV h2
 cases a <;> cases b <;> first | rfl |(simp [litT,keyT,keyL] at h;done) |(simp [litT] at h;rw [itoa_inj' h]) |(simp [litT] at h;rw [h])
theorem litOf_lit {v:Val} (h:litOk v=true):litOf (litT v)=v:=by
 have hx:∃ w,litOk w=true∧litT w=litT v:=⟨v,h,rfl⟩
 unfold litOf
 rw [dif_pos hx]
 exact litT_inj hx.choose_spec.1 h hx.choose_spec.2
theorem numOf_itoa (n:Int):numOf (Lib.itoa n)=n:=by
 have hx:∃ m:Int,Lib.itoa m=Lib.itoa n:=⟨n,rfl⟩
 unfold numOf
 rw [dif_pos hx]
 exact itoa_inj' hx.choose_spec
end Go.Proofs.Ytikghanejpigjaa

namespace Go.Proofs.Ytikghanejpigjaa
open Go
set_option linter.unusedSimpArgs false
set_option linter.unusedVariables false
def wt (n:Int) (e:EE):List Token:=wrapT false n (lvl e.kind e.op,e.tk false)
theorem tk_lit (v:Val):(eLit v).tk false=[litT v]:=by rw [EE.tk_eq];rfl
theorem tk_col (q n:List UInt8):(eCol q n).tk false=qualT q++[nameT n]:=by rw [EE.tk_eq];rfl
theorem tk_no (k:EE):(eN 3 15 false [k] []).tk false=keyT 15::wt 3 k:=by rw [EE.tk_eq];rfl
theorem tk_neg (k:EE):(eN 3 16 false [k] []).tk false=sgn 45::wt 8 k:=by rw [EE.tk_eq];rfl
theorem tk_is (nt:Bool) (a:EE):(eN 5 0 nt [a] []).tk false=wt 5 a++keyT 16::(notT nt++[keyT 20]):=by rw [EE.tk_eq];rfl
theorem tk_btw (nt:Bool) (a b c:EE):(eN 6 0 nt [a,b,c] []).tk false=wt 5 a++(notT nt++keyT 18::(wt 5 b++keyT 13::wt 5 c)):=by rw [EE.tk_eq];rfl
theorem tk_ins (nt:Bool) (a:EE) (q:EQ):(eN 8 0 nt [a] [q]).tk false=wt 5 a++(notT nt++keyT 17::sgn 40::(EE.tkQ false q++[sgn 41])):=by rw [EE.tk_eq];rfl
theorem tk_ex (q:EQ):(eN 9 0 false [] [q]).tk false=keyT 19::sgn 40::(EE.tkQ false q++[sgn 41]):=by rw [EE.tk_eq];rfl
theorem lvl_bin {op:Int} (h:1≤op∧op≤14):0<lvl 4 op∧lvl 4 op≤7∧lvl 4 op≠3:=by
 have:∀ op∈ops14,0<lvl 4 op∧lvl 4 op≤7∧lvl 4 op≠3:=by decide +kernel
 exact this op (op_cases h)
def ndL (op:Int):Int:=if lvl 4 op=4 then 5 else lvl 4 op
def ndR (op:Int):Int:=if lvl 4 op=4 then 5 else lvl 4 op+1
theorem nd_facts:∀ op∈ops14,need 4 op 2 (0:Nat)=ndL op∧need 4 op 2 (1:Nat)=ndR op:=by decide +kernel
theorem tk_bin {op:Int} (h:1≤op∧op≤14) (a b:EE):(eN 4 op false [a,b] []).tk false=wt (ndL op) a++opT op::wt (ndR op) b:=by
 rw [EE.tk_eq, ← (nd_facts op (op_cases h)).1, ← (nd_facts op (op_cases h)).2]
 rfl
end Go.Proofs.Ytikghanejpigjaa
