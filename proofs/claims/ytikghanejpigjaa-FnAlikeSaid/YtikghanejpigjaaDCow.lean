/-
 Further rules over the books: appends to a slice of nothing, slice literals of what lies in variables, a row with one more cell. Own work; no condition.
-/
import Derived.Test.YtikghanejpigjaaVTree
namespace Go.Proofs.Ytikghanejpigjaa
open Go
section
variable {P:Program} {N:Nat} {ops:Array Oper} {l:List Oper} {K:Kn→S→Prop} {L:Kn} {s:S} {tt:BT} {d:Nat} {ty:TypeId} {p:String} {a:Array Edge} {H:List BE}
end
theorem AnsL.bslE {P:Program} {L:Kn} {s:S} {tt:BT} (ht:tt.ok P) {T e:TypeId} {t te:Ty} {m:Nat} {parts:Array (Nat × Operand)} {ps:List (Nat × V)} {vs:List V} (hp:opdP L parts.toList=some ps) (hT:tt.get T=some t) (hkd:t.kd = .slice e) (hte:tt.get e=some te)
   (hz:(Nat.beq te.zero.length te.size&&Nat.blt 0 te.size&&Nat.ble (m*te.size) 16777216)=true) (hsq:seqO 0 ps=some vs) (hlen:Nat.beq vs.length m=true) (hm:Nat.beq m 0=false) (hel:ElsH te vs):AnsL P (.buildSlice T m parts) L s (.sl 0 vs):=by
 simp only [Bool.and_eq_true] at hz
 have hm':vs.length=m:=Nat.eq_of_beq_eq_true hlen
 have h0:¬ m=0:=fun e=>by rw [e] at hm;cases hm
 have hz1:te.zero.length=te.size:=Nat.eq_of_beq_eq_true hz.1.1
 have hz2:0<te.size:=by simpa using hz.1.2
 have hz3:m*te.size≤16777216:=Nat.le_of_ble_eq_true hz.2
 have hcl:∀ v∈vs,v.cells.length=te.size:=fun v hv=>(hel v hv).1
 have hf:∀ v∈vs,v.fits te.agg=true:=fun v hv=>(hel v hv).2
 have hfill:=vfill_seq (n:=m) hz1 (us:=[]) (by simpa using hsq) (by simpa using hcl) (by simp;omega)
 rw [List.nil_append,filled_full hm',filled_nil] at hfill
 have hsz1:te.agg=false→te.size=1:=fun hag=>by
   cases vs with
   | nil=>exact absurd hm'.symm h0
   | cons v r =>
     obtain ⟨h1,h2⟩:=hel v (by simp)
     rw [← h1]
     rw [hag] at h2
     cases v <;> simp_all [V.fits,V.cells,V.one]
 have hck:=chunk_flat hz2 hcl hf
 rw [hm'] at hck
 have hb:vbuildSlice P T m ps s=some (.sl s.next vs,s.newFam m te.size):=by
   simp only [vbuildSlice,ht.get hT,hkd,ht.get hte,Option.bind_some]
   rw [if_pos ⟨hz1,hz2,hz3⟩,hfill]
   simp only [Option.bind_some]
   rw [if_neg h0,if_pos (chunkOk_flat hf hsz1),hck]
 refine ⟨fun σ hσ dst ty p a g K hk=>?_⟩
 refine .inl ?_
 unfold VOp0
 exact .inr ⟨ps,.sl 0 vs,opdP_eq hσ hp,by simp only [vbsF,hb],hk⟩
inductive Fills (fs:List FieldI):List V→List (Nat × V)→List V→Prop
 | nil {cells}:Fills fs cells [] cells
 | cons {cells cells' r vs i v rest f}:nthO fs i=some f→cellsO v=some vs→Nat.beq vs.length f.size=true→splO cells f.off vs=some cells'→Fills fs cells' rest r→Fills fs cells ((i,v)::rest) r
theorem Fills.eq {fs:List FieldI} {cells:List V} {ps:List (Nat × V)} {r:List V} (h:Fills fs cells ps r):vfill (placeS fs) cells ps=some r:=by
 induction h with
 | nil=>rfl
 | cons h1 h2 h3 h4 _ ih =>
   obtain ⟨e1,e2⟩:=splO_eq h4
   have e3:=Nat.eq_of_beq_eq_true h3
   have e4:=cellsO_eq h2
   unfold vfill
   simp only [placeS,nthO_eq h1,Option.map_some,Option.bind_some]
   rw [if_pos ⟨by rw [e4];exact e3,by rw [← e3];exact e2⟩,e4, ← e1]
   exact ih
end Go.Proofs.Ytikghanejpigjaa
