/-
  The rule for drawn regions, calls that only compute among what floats; with frames known at some slots. Own work; no condition.
-/
import Derived.Test.YtejdgmdebfkkeaaVL3
namespace Go.Proofs.Ytejdgmdebfkkeaa
open Go

/-- The operation may answer v, and changes nothing. -/
def VAns (P : Program) (o : Oper) (σ : Fr) (s : S) (v : V) : Prop := ∀ K : Fr → S → Prop, K (putO σ o.dst v) s → VOp P o K σ s

theorem VAns.congr {P : Program} {ops : Array Oper} {o : Oper} {σ σ' : Fr} {s : S} {v : V} (h : VAns P o σ s v) (hs : SameAt σ σ' (o.looksAt ops)) : VAns P o σ' s v := by
  intro K hk
  refine VOp_congr (h (fun τ t => τ = putO σ o.dst v ∧ t = s) ⟨rfl, rfl⟩) hs fun v' s' hh => ?_
  obtain ⟨e1, rfl⟩ := hh
  have : putO σ' o.dst v' = putO σ' o.dst v := by
    cases hd : o.dst with
    | none => rfl
    | some d =>
      have := congrFun e1 d
      rw [hd, putO_same, putO_same] at this
      rw [this]
  rw [this]
  exact hk

/-- Done again, here, the operation answers what its slot holds. -/
def VSt (P : Program) (ops : Array Oper) (p : Nat) (σ : Fr) (s : S) : Prop :=
  match ops[p]? with
  | none => False
  | some o => match vwanted ops σ o with
    | some true => ∃ v, VAns P o σ s v ∧ atO σ o.dst v
    | some false => atO σ o.dst .und
    | none => False

def VSts (P : Program) (ops : Array Oper) (σ : Fr) (s : S) : List Nat → Prop
  | [] => True
  | p :: ps => VSt P ops p σ s ∧ VSts P ops σ s ps

theorem VSts.get {P : Program} {ops : Array Oper} {σ : Fr} {s : S} : ∀ {l : List Nat}, VSts P ops σ s l → ∀ p ∈ l, VSt P ops p σ s
  | [], _, p, hp => by cases hp
  | q :: l, h, p, hp => by
    rcases List.mem_cons.1 hp with rfl | hp
    · exact h.1
    · exact VSts.get h.2 p hp

/-- One order, walked. -/
def VDw (P : Program) (N : Nat) (ops : Array Oper) (F : List Nat) (A : List (List Nat)) (K : Fr → S → Prop) : List Nat → List Nat → Fr → S → Prop
  | _, [], σ, s => K σ s
  | pre, i :: rest, σ, s =>
    match ops[i]? with
    | none => False
    | some o =>
      match effOf F i with
      | true => VStep P N ops o (fun σ' s' => VSts P ops σ' s' (floats F A pre i) ∧ VDw P N ops F A K (i :: pre) rest σ' s') σ s
      | false => match vwanted ops σ o with
        | some true => ∃ v, VAns P o σ s v ∧ VDw P N ops F A K (i :: pre) rest (putO σ o.dst v) s
        | some false => VDw P N ops F A K (i :: pre) rest (putO σ o.dst .und) s
        | none => False

theorem st_congr {P : Program} {ops : Array Oper} {p : Nat} {o : Oper} {σ σ' : Fr} {s : S} (h : VSt P ops p σ s) (ho : ops[p]? = some o) (hs : SameAt σ σ' (o.looksAt ops)) (hd : ∀ d, o.dst = some d → σ' d = σ d) : VSt P ops p σ' s := by
  have ha : ∀ v, atO σ o.dst v → atO σ' o.dst v := by
    intro v hv
    cases e : o.dst with
    | none => trivial
    | some d => rw [e] at hv; exact (hd d e).trans hv
  unfold VSt at h ⊢
  rw [ho] at h ⊢
  simp only at h ⊢
  rw [← vwanted_congr hs]
  split at h
  · obtain ⟨v, h1, h2⟩ := h
    exact ⟨v, h1.congr hs, ha _ h2⟩
  · exact ha _ h
  · exact h.elim

structure InvT (P : Program) (N : Nat) (ops : Array Oper) (order F : List Nat) (A : List (List Nat)) (K : Fr → S → Prop) (pre rest : List Nat) (D : Array Bool) (σD σC : Fr) (s : S) : Prop where
  size : D.size = ops.size
  closed : Closed ops D
  split : order = pre.reverse ++ rest
  hrest : ∀ i ∈ rest, ¬ dn D i
  hpre : ∀ p ∈ pre, ¬ dn D p → effOf F p = false ∧ VSt P ops p σC s
  agree : ∀ d, (∀ p ∈ pre, ¬ dn D p → ∀ o, ops[p]? = some o → o.dst ≠ some d) → σD d = σC d
  walk : VDw P N ops F A K pre rest σC s

section
variable {P : Program} {N : Nat} {ops : Array Oper} {order F : List Nat} {A : List (List Nat)} {K : Fr → S → Prop}

theorem InvT.rel {pre rest : List Nat} {D : Array Bool} {σD σC : Fr} {s : S} (pl : Plan N ops order F A) (h : InvT P N ops order F A K pre rest D σD σC s) :
    (∀ p ∈ pre, ∀ r ∈ rest, r ∉ ancOf A p ∧ (effOf F p = true → p ∈ ancOf A r) ∧ p ≠ r) ∧ rest.Pairwise fun x y => y ∉ ancOf A x ∧ (effOf F x = true → x ∈ ancOf A y) := by
  have h1 := pl.pair
  have h2 := pl.nodup
  rw [h.split] at h1 h2
  rw [List.pairwise_append] at h1
  rw [List.nodup_append] at h2
  exact ⟨fun p hp r hr => ⟨(h1.2.2 p (by simpa using hp) r hr).1, (h1.2.2 p (by simpa using hp) r hr).2, h2.2.2 p (by simpa using hp) r hr⟩, h1.2.1⟩

/-- What floats, done in the one order's turn. -/
theorem InvT.float {pre rest : List Nat} {i : Nat} {o : Oper} {v : V} {D : Array Bool} {σD σC : Fr} {s : S} (pl : Plan N ops order F A) (h : InvT P N ops order F A K pre (i :: rest) D σD σC s) (ho : ops[i]? = some o) (he : effOf F i = false)
    (hst : (match vwanted ops σC o with | some true => VAns P o σC s v | some false => v = .und | none => False)) (hw : VDw P N ops F A K (i :: pre) rest (putO σC o.dst v) s) : InvT P N ops order F A K (i :: pre) rest D σD (putO σC o.dst v) s := by
  have hrel := (h.rel pl).1
  have hnd : ¬ dn D i := h.hrest i (by simp)
  have hsame : ∀ p o', ops[p]? = some o' → i ∉ ancOf A p → SameAt σC (putO σC o.dst v) (o'.looksAt ops) := by
    intro p o' hp' hn t ht
    refine (putO_other fun e => hn ?_).symm
    exact pl.look i p o o' ho hp' he t e ht
  refine ⟨h.size, h.closed, by rw [h.split]; simp, fun j hj => h.hrest j (by simp [hj]), fun p hp hd => ?_, fun d hd => ?_, hw⟩
  · rcases List.mem_cons.1 hp with rfl | hp
    · refine ⟨he, ?_⟩
      have hs := hsame p o ho (pl.irr p)
      unfold VSt
      rw [ho]
      simp only
      rw [← vwanted_congr hs]
      have hat : atO (putO σC o.dst v) o.dst v := by
        cases e : o.dst with
        | none => trivial
        | some d => exact putO_same
      split at hst
      · exact ⟨v, hst.congr hs, hat⟩
      · subst hst; exact hat
      · exact hst.elim
    · obtain ⟨k1, k2⟩ := h.hpre p hp hd
      refine ⟨k1, ?_⟩
      have hpi := hrel p hp i (by simp)
      have hpo : ∃ o', ops[p]? = some o' := by
        have hps : p < ops.size := (pl.all p).2 (by rw [h.split]; simp [hp])
        exact ⟨_, Array.getElem?_eq_getElem hps⟩
      obtain ⟨o', ho'⟩ := hpo
      refine st_congr k2 ho' (hsame p o' ho' hpi.1) fun d hd' => putO_other fun e => ?_
      exact pl.dst i p o o' ho ho' he (fun x => hpi.2.2 x.symm) d e hd'
  · rw [putO_other (hd i (by simp) hnd o ho)]
    exact h.agree d fun p hp => hd p (by simp [hp])

theorem InvT.advance (pl : Plan N ops order F A) {D : Array Bool} {σD : Fr} {s : S} : ∀ (rest pre : List Nat) (σC : Fr), InvT P N ops order F A K pre rest D σD σC s →
    ∃ pre' rest' σC', InvT P N ops order F A K pre' rest' D σD σC' s ∧ (rest' = [] ∨ ∃ h t, rest' = h :: t ∧ effOf F h = true)
  | [], pre, σC, h => ⟨pre, [], σC, h, .inl rfl⟩
  | i :: rest, pre, σC, h => by
    cases he : effOf F i with
    | true => exact ⟨pre, i :: rest, σC, h, .inr ⟨i, rest, rfl, he⟩⟩
    | false =>
      have hw := h.walk
      unfold VDw at hw
      cases ho : ops[i]? with
      | none => rw [ho] at hw; exact hw.elim
      | some o =>
        rw [ho] at hw
        simp only [he] at hw
        cases hv : vwanted ops σC o with
        | none => rw [hv] at hw; exact hw.elim
        | some b =>
          rw [hv] at hw
          cases b with
          | true =>
            obtain ⟨v, hvop, hw⟩ := hw
            exact InvT.advance pl rest (i :: pre) _ (h.float pl ho he (by rw [hv]; exact hvop) hw)
          | false => exact InvT.advance pl rest (i :: pre) _ (h.float pl ho he (by rw [hv]) hw)

theorem InvT.finish (pl : Plan N ops order F A) {pre rest : List Nat} {D : Array Bool} {σD σC : Fr} {s : S} (h : InvT P N ops order F A K pre rest D σD σC s) (hr : Region.ready .any ops D = []) : K σD s := by
  have hall := all_done pl h.size hr
  have hmem : ∀ i, i ∈ pre.reverse ++ rest → dn D i := fun i hi => hall i ((pl.all i).2 (by rw [h.split]; exact hi))
  cases hrest : rest with
  | cons i r =>
    exact (h.hrest i (by rw [hrest]; simp) (hmem i (by rw [hrest]; simp))).elim
  | nil =>
    have hw := h.walk
    rw [hrest] at hw
    have : σD = σC := funext fun d => h.agree d fun p hp hd => (hd (hmem p (by simp [hp]))).elim
    rw [this]
    exact hw

theorem VDw_any (pl : Plan N ops order F A) : ∀ (fuel : Nat) (D : Array Bool) (pre rest : List Nat) (σD σC : Fr) (s : S), InvT P N ops order F A K pre rest D σD σC s → left ops D ≤ fuel → VAny P N ops K fuel D σD s
  | 0, D, pre, rest, σD, σC, s, h, hf => by
    have hr : Region.ready .any ops D = [] := by
      cases hr : Region.ready .any ops D with
      | nil => rfl
      | cons i r =>
        have hi : i ∈ Region.ready .any ops D := by rw [hr]; simp
        have hlt := ready_lt hi
        have ho : ops[i]? = some ops[i] := Array.getElem?_eq_getElem hlt
        have := left_set h.size hlt ((ready_iff h.size ho).1 hi).1
        omega
    exact ⟨hr, h.finish pl hr⟩
  | fuel + 1, D, pre, rest, σD, σC, s, h, hf => by
    refine ⟨fun hr => h.finish pl hr, fun i hi => ?_⟩
    obtain ⟨pre, rest, σC, h, hadv⟩ := InvT.advance pl rest pre σC h
    have hlt := ready_lt hi
    have ho : ops[i]? = some ops[i] := Array.getElem?_eq_getElem hlt
    generalize ops[i] = o at ho
    obtain ⟨hnd, hedge⟩ := (ready_iff h.size ho).1 hi
    have hanc := pl.anc_done h.closed i o ho hedge
    have hsz : i < D.size := by rw [h.size]; exact hlt
    have hset : ∀ j, dn (D.setIfInBounds i true) j ↔ (j = i ∨ dn D j) := fun j => dn_set hsz
    have hleft : left ops (D.setIfInBounds i true) ≤ fuel := by have := left_set h.size hlt hnd; omega
    have hclosed : Closed ops (D.setIfInBounds i true) := by
      intro j o' ho' hj e he hb
      rcases (hset j).1 hj with rfl | hj
      · rw [ho] at ho'; cases ho'
        exact (hset _).2 (.inr (hedge e he hb))
      · exact (hset _).2 (.inr (h.closed j o' ho' hj e he hb))
    have hsame : SameAt σC σD (o.looksAt ops) := by
      intro t ht
      refine (h.agree t fun p hp hd o' ho' e => hd ?_).symm
      exact hanc p (pl.look p i o' o ho' ho (h.hpre p hp hd).1 t e ht)
    have hrel := h.rel pl
    unfold VStepAt
    rw [ho]
    simp only
    have hmem : i ∈ pre ∨ i ∈ rest := by
      have := (pl.all i).1 hlt
      rw [h.split] at this
      simpa using this
    -- in what is still to come only the head can be done now
    have hhead : i ∈ rest → ∃ t, rest = i :: t ∧ effOf F i = true := by
      intro hir
      rcases hadv with rfl | ⟨x, t, rfl, hx⟩
      · cases hir
      · rcases List.mem_cons.1 hir with rfl | hit
        · exact ⟨t, rfl, hx⟩
        · have := (List.pairwise_cons.1 hrel.2).1 i hit
          exact (h.hrest x (by simp) (hanc x (this.2 hx))).elim
    by_cases hip : i ∈ pre
    · obtain ⟨he, hst⟩ := h.hpre i hip hnd
      have hnr : i ∉ rest := fun hr => ((hrel.1 i hip i hr).2.2 rfl).elim
      have next : ∀ v, atO σC o.dst v → VAny P N ops K fuel (D.setIfInBounds i true) (putO σD o.dst v) s := by
        intro v hv
        refine VDw_any pl fuel _ pre rest _ σC s ⟨by simp [h.size], hclosed, h.split, fun j hj hd => ?_, fun p hp hd => h.hpre p hp fun hd' => hd ((hset p).2 (.inr hd')), fun d hd => ?_, h.walk⟩ hleft
        · rcases (hset j).1 hd with rfl | hd
          · exact hnr hj
          · exact h.hrest j hj hd
        · by_cases e : o.dst = some d
          · rw [e] at hv ⊢
            rw [putO_same]
            exact hv.symm
          · rw [putO_other e]
            refine h.agree d fun p hp hd' o' ho' => ?_
            by_cases epi : p = i
            · subst epi; rw [ho] at ho'; cases ho'; exact e
            · exact hd p hp (fun x => ((hset p).1 x).elim epi hd') o' ho'
      unfold VSt at hst
      rw [ho] at hst
      simp only at hst
      refine ⟨pl.dok i o ho, ?_⟩
      rw [← vwanted_congr hsame]
      split at hst
      · rename_i e; rw [e]
        obtain ⟨v, hv, hat⟩ := hst
        exact hv.congr hsame _ (next v hat)
      · rename_i e; rw [e]; exact next _ hst
      · exact hst.elim
    · have hir : i ∈ rest := hmem.resolve_left hip
      obtain ⟨t, rfl, he⟩ := hhead hir
      have hw := h.walk
      unfold VDw at hw
      rw [ho] at hw
      simp only [he] at hw
      refine VStep_congr hw hsame fun v s' hk => ?_
      obtain ⟨hk1, hk2⟩ := hk
      have hnt : i ∉ t := by
        have h2 := pl.nodup
        rw [h.split, List.nodup_append] at h2
        exact (List.nodup_cons.1 h2.2.1).1
      refine VDw_any pl fuel _ (i :: pre) t _ (putO σC o.dst v) s' ⟨by simp [h.size], hclosed, by rw [h.split]; simp, fun j hj hd => ?_, fun p hp hd => ?_, fun d hd => ?_, hk2⟩ hleft
      · rcases (hset j).1 hd with rfl | hd
        · exact hnt hj
        · exact h.hrest j (by simp [hj]) hd
      · rcases List.mem_cons.1 hp with rfl | hp
        · exact (hd ((hset p).2 (.inl rfl))).elim
        · have hd' : ¬ dn D p := fun x => hd ((hset p).2 (.inr x))
          have hpe := (h.hpre p hp hd').1
          refine ⟨hpe, hk1.get p ?_⟩
          unfold floats
          simp only [List.mem_filter, Bool.and_eq_true, Bool.not_eq_true', hpe, List.contains_eq_mem, decide_eq_false_iff_not, true_and]
          exact ⟨hp, fun x => hd' (hanc p x)⟩
      · by_cases e : o.dst = some d
        · rw [e, putO_same, putO_same]
        · rw [putO_other e, putO_other e]
          refine h.agree d fun p hp hd' o' ho' => hd p (by simp [hp]) (fun x => ((hset p).1 x).elim (fun y => hip (y ▸ hp)) hd') o' ho'
end

theorem VWp.drawnT {P : Program} {N id : Nat} {ops : Array Oper} {Q : Exit → Fr → S → Prop} {σ : Fr} {s : S} (order F : List Nat) (A : List (List Nat)) (hm : P.follows .mixedOrders = true) (hp : planB N ops order F A = true)
    (h : VDw P N ops F A (Q .normal) [] order σ s) : VWp P N (.region id ops true) Q σ s := by
  refine VWp.drawn hm (VDw_any (planB_spec hp) _ _ [] order σ σ s ⟨by simp, fun i o ho hd => ?_, by simp, fun i hi hd => ?_, by simp, fun d _ => rfl, h⟩ ?_)
  · unfold dn at hd
    by_cases hi : i < ops.size <;> simp [Array.getD_eq_getD_getElem?, hi] at hd
  · unfold dn at hd
    by_cases hi : i < ops.size <;> simp [Array.getD_eq_getD_getElem?, hi] at hd
  · unfold left
    exact Nat.le_trans (List.length_filter_le _ _) (by simp)


/-! ### With frames known at some slots -/
variable {P : Program} {N : Nat} {ops : Array Oper} {K : Kn → S → Prop} {L : Kn} {s : S} {xs ys : List Own} {tt : BT} {F : List Nat} {A : List (List Nat)} {pre rest : List Nat}
variable {d : Nat} {ty : TypeId} {p : String} {a : Array Edge}

structure LDr (P : Program) (N : Nat) (ops : Array Oper) (F : List Nat) (A : List (List Nat)) (K : Kn → S → Prop) (pre rest : List Nat) (L : Kn) (s : S) : Prop where
  run : ∀ σ, At L σ → VDw P N ops F A (fun σ' s' => ∃ L', At L' σ' ∧ K L' s') pre rest σ s

structure AnsL (P : Program) (op : Op) (L : Kn) (s : S) (v : V) : Prop where
  run : ∀ σ, At L σ → ∀ (dst : Option Nat) (ty : TypeId) (p : String) (a : Array Edge) (g : Option (Nat × Bool)), VAns P ⟨dst, op, ty, p, a, g⟩ σ s v

theorem AnsL.of {op : Op} {v : V} (h : ∀ σ, At L σ → ∀ (dst : Option Nat) (ty : TypeId) (p : String) (a : Array Edge) (g : Option (Nat × Bool)), vop P ⟨dst, op, ty, p, a, g⟩ σ s = some (v, s)) : AnsL P op L s v :=
  ⟨fun σ hσ dst ty p a g _ hk => VOp_of_vop (h σ hσ dst ty p a g) hk⟩

theorem AnsL.ev (ht : tt.ok P) {op : Op} {v : V} (h : Go.Proofs.Ytejdgmdebfkkeaa.ev tt L op = some v) : AnsL P op L s v := .of fun _ hσ dst ty p a g => ev_eq ht hσ h dst ty p a g s
theorem AnsL.loadP (ht : tt.ok P) {T : TypeId} {t : Ty} {x : Operand} {k off : Nat} {cs : List V} {v : V} (hx : opd L x = some (.ptr (s.next + k) off)) (hv : nthO xs k = some (.var cs)) (hT : tt.get T = some t)
    (hr : takeO cs off t.size t.agg = some v) : AnsL P (.load T x) L (s.ext xs) v :=
  .of fun σ hσ _ _ _ _ _ => by simp only [vop, opd_eq hσ hx, vload, ht.get hT, own_vars hv, takeO_eq hr, Option.bind_some, Option.map_some]
theorem AnsL.loadO (ht : tt.ok P) {T : TypeId} {t : Ty} {x : Operand} {k off : Nat} {cs : List V} {v : V} (hx : opd L x = some (.ptr k off)) (hlt : k < s.next) (hv : s.vars k = some cs) (hT : tt.get T = some t)
    (hr : takeO cs off t.size t.agg = some v) : AnsL P (.load T x) L (s.ext xs) v :=
  .of fun σ hσ _ _ _ _ _ => by simp only [vop, opd_eq hσ hx, vload, ht.get hT, ext_vars_lt _ _ hlt, hv, takeO_eq hr, Option.bind_some, Option.map_some]
theorem AnsL.idx (ht : tt.ok P) {T e : TypeId} {t te : Ty} {x i : Operand} {id j : Nat} {k : IntKind} {us : List V} {y : V} {cs : List V} (hx : opd L x = some (.sl id us)) (hi : opd L i = some (.int k (j : Int))) (hT : tt.get T = some t) (hkd : t.kd = .slice e)
    (hte : tt.get e = some te) (hj : us[j]? = some y) (hc : cellsO y = some cs) (hn : Nat.beq cs.length te.size = true) : AnsL P (.indexAddr T x i) L s (.eptr cs 0) :=
  .of fun σ hσ _ _ _ _ _ => by
    simp only [vop, opd_eq hσ hx, opd_eq hσ hi, vindexAddr, ht.get hT, hkd, ht.get hte, Option.bind_some]
    rw [if_pos (Int.natCast_nonneg j), Int.toNat_natCast, hj]
    simp only [Option.bind_some, cellsO_eq hc, Nat.eq_of_beq_eq_true hn, if_true, Option.map_some]
theorem AnsL.idxZ (ht : tt.ok P) {T e : TypeId} {t te : Ty} {x i : Operand} {id : Nat} {n : Int} {k : IntKind} {us : List V} {y : V} {cs : List V} (hx : opd L x = some (.sl id us)) (hi : opd L i = some (.int k n)) (hT : tt.get T = some t) (hkd : t.kd = .slice e)
    (hte : tt.get e = some te) (h0 : 0 ≤ n) (hj : us[n.toNat]? = some y) (hc : cellsO y = some cs) (hn : Nat.beq cs.length te.size = true) : AnsL P (.indexAddr T x i) L s (.eptr cs 0) :=
  .of fun σ hσ _ _ _ _ _ => by
    simp only [vop, opd_eq hσ hx, opd_eq hσ hi, vindexAddr, ht.get hT, hkd, ht.get hte, Option.bind_some]
    rw [if_pos h0, hj]
    simp only [Option.bind_some, cellsO_eq hc, Nat.eq_of_beq_eq_true hn, if_true, Option.map_some]
theorem AnsL.idxM (ht : tt.ok P) {T e : TypeId} {t te : Ty} {x i : Operand} {ex : Bool} {b off len j : Nat} {k : IntKind} (hx : opd L x = some (.slm ex b off len)) (hi : opd L i = some (.int k (j : Int))) (hT : tt.get T = some t) (hkd : t.kd = .slice e)
    (hte : tt.get e = some te) (hj : j < len) : AnsL P (.indexAddr T x i) L s (.ptr b (off + j * te.size)) :=
  .of fun σ hσ _ _ _ _ _ => by
    simp only [vop, opd_eq hσ hx, opd_eq hσ hi, vindexAddr, ht.get hT, hkd, ht.get hte, Option.bind_some]
    rw [if_pos ⟨Int.natCast_nonneg j, by omega⟩, Int.toNat_natCast]
    rfl
theorem AnsL.sidx (ht : tt.ok P) {T : TypeId} {t : Ty} {x i : Operand} {j : Nat} {k : IntKind} {u : List UInt8} {b : UInt8} (hx : opd L x = some (.str u)) (hi : opd L i = some (.int k (j : Int))) (hT : tt.get T = some t) (hkd : t.kd = .string) (hj : u[j]? = some b) :
    AnsL P (.index T x i) L s (.int .u8 b.toNat) :=
  .of fun σ hσ _ _ _ _ _ => by
    simp only [vop, opd_eq hσ hx, opd_eq hσ hi, vindex, ht.get hT, hkd, Option.bind_some]
    rw [if_pos (Int.natCast_nonneg j), Int.toNat_natCast, hj]
    rfl
theorem AnsL.slc {T : TypeId} {x : Operand} {lo hi mx : Option Operand} {xv v : V} {lo' hi' mx' : Option V} (hx : opd L x = some xv) (h1 : opdO L lo = some lo') (h2 : opdO L hi = some hi') (h3 : opdO L mx = some mx') (hv : vslice P T xv lo' hi' mx' = some v) :
    AnsL P (.slice T x lo hi mx) L s v :=
  .of fun σ hσ _ _ _ _ _ => by simp only [vop, opd_eq hσ hx, opdO_eq hσ h1, opdO_eq hσ h2, opdO_eq hσ h3, hv, Option.bind_some, Option.map_some]
theorem AnsL.cat {T U : TypeId} {x y : Operand} {u w : List UInt8} (hx : opd L x = some (.str u)) (hy : opd L y = some (.str w)) (hb : u.length + w.length ≤ maxLen) : AnsL P (.binOp .add T x y U) L s (.str (u ++ w)) :=
  .of fun σ hσ _ _ _ _ _ => by simp only [vop, opd_eq hσ hx, opd_eq hσ hy, vbin, vstrOp, Option.bind_some]; rw [if_pos hb]; rfl
theorem AnsL.callP {f : Operand} {g : FuncId} {args : Array Operand} {B : Array TypeId} {caps vs ws : List V} {v : V} (hf : opd L f = some (.fn g caps)) (ha : opdL L args.toList = some vs) (hap : appO vs caps = some ws) (hok : CallOk P g)
    (hc : VCalls P g ws s (fun r s' => r = v ∧ s' = s)) : AnsL P (.call ⟨.value f, args, B⟩) L s v := by
  refine ⟨fun σ hσ dst ty p a gd K hk => ?_⟩
  simp only [VOp, opd_eq hσ hf, opdL_eq hσ ha, VCall]
  refine ⟨hok.h, ?_⟩
  rw [← appO_eq hap]
  exact hc.mono fun r s' hr => by obtain ⟨rfl, rfl⟩ := hr; exact hk
theorem AnsL.callF {f : Operand} {g : FuncId} {args : Array Operand} {B : Array TypeId} {caps vs ws us : List V} {v : V} (hf : opd L f = some (.fn g caps)) (ha : opdL L args.toList = some vs) (hap : appO vs caps = some ws) (hok : CallOk P g)
    (hus : ws.map V.forget = us) (hc : VCalls P g us s (fun r s' => r = v ∧ s' = s)) : AnsL P (.call ⟨.value f, args, B⟩) L s v :=
  .callP hf ha hap hok (VCalls.forget (by rw [hus]; exact hc))

theorem WL.drawn {id : Nat} {Q : Exit → Kn → S → Prop} (order F : List Nat) (A : List (List Nat)) (hm : P.follows .mixedOrders = true) (hp : planB N ops order F A = true) (h : LDr P N ops F A (Q .normal) [] order L s) : WL P N (.region id ops true) Q L s :=
  ⟨fun σ hσ => VWp.drawnT order F A hm hp (h.run σ hσ)⟩

theorem LDr.nil (h : K L s) : LDr P N ops F A K pre [] L s := ⟨fun _ hσ => ⟨L, hσ, h⟩⟩

theorem nth_ops {i : Nat} {o : Oper} (h : nthO ops.toList i = some o) : ops[i]? = some o := by
  have := nthO_eq h
  rwa [Array.getElem?_toList] at this

theorem LDr.fl {i : Nat} {op : Op} {v : V} (ho : nthO ops.toList i = some ⟨some d, op, ty, p, a, none⟩) (he : effOf F i = false) (h : AnsL P op L s v) (hk : LDr P N ops F A K (i :: pre) rest ((d, v) :: L) s) : LDr P N ops F A K pre (i :: rest) L s := by
  refine ⟨fun σ hσ => ?_⟩
  simp only [VDw, nth_ops ho, he, vwanted]
  exact ⟨v, h.run σ hσ _ _ _ _ _, hk.run _ (hσ.cons d v)⟩
theorem LDr.gT {i j e : Nat} {w b : Bool} {op : Op} {v : V} (ho : nthO ops.toList i = some ⟨some d, op, ty, p, a, some (j, w)⟩) (he : effOf F i = false) (hj : gslot ops.toList j = some e) (hb : lk L e = some (.bool b)) (hw : (b == w) = true) (h : AnsL P op L s v)
    (hk : LDr P N ops F A K (i :: pre) rest ((d, v) :: L) s) : LDr P N ops F A K pre (i :: rest) L s := by
  refine ⟨fun σ hσ => ?_⟩
  simp only [VDw, nth_ops ho, he, vwanted, gslot_eq hj, hσ e _ hb, hw]
  exact ⟨v, h.run σ hσ _ _ _ _ _, hk.run _ (hσ.cons d v)⟩
theorem LDr.gF {i j e : Nat} {w b : Bool} {op : Op} (ho : nthO ops.toList i = some ⟨some d, op, ty, p, a, some (j, w)⟩) (he : effOf F i = false) (hj : gslot ops.toList j = some e) (hb : lk L e = some (.bool b)) (hw : (b == w) = false)
    (hk : LDr P N ops F A K (i :: pre) rest ((d, .und) :: L) s) : LDr P N ops F A K pre (i :: rest) L s := by
  refine ⟨fun σ hσ => ?_⟩
  simp only [VDw, nth_ops ho, he, vwanted, gslot_eq hj, hσ e _ hb, hw]
  exact hk.run _ (hσ.cons d .und)
theorem LDr.gU {i j e : Nat} {w : Bool} {op : Op} (ho : nthO ops.toList i = some ⟨some d, op, ty, p, a, some (j, w)⟩) (he : effOf F i = false) (hj : gslot ops.toList j = some e) (hb : lk L e = some .und)
    (hk : LDr P N ops F A K (i :: pre) rest ((d, .und) :: L) s) : LDr P N ops F A K pre (i :: rest) L s := by
  refine ⟨fun σ hσ => ?_⟩
  simp only [VDw, nth_ops ho, he, vwanted, gslot_eq hj, hσ e _ hb]
  exact hk.run _ (hσ.cons d .und)
theorem LDr.gC {i j e : Nat} {w b : Bool} {o : Oper} (_ : nthO ops.toList i = some o) (_ : o.guard = some (j, w)) (_ : gslot ops.toList j = some e) (hb : lk L e = some (.bool b))
    (hT : b = true → LDr P N ops F A K pre (i :: rest) ((e, .bool true) :: L) s) (hF : b = false → LDr P N ops F A K pre (i :: rest) ((e, .bool false) :: L) s) : LDr P N ops F A K pre (i :: rest) L s := by
  refine ⟨fun σ hσ => ?_⟩
  cases b
  · exact (hF rfl).run σ (hσ.shadow hb)
  · exact (hT rfl).run σ (hσ.shadow hb)

/-- What is asked of what floats past an effect. -/
structure StL (P : Program) (ops : Array Oper) (q : Nat) (L : Kn) (s : S) : Prop where
  run : ∀ σ, At L σ → VSt P ops q σ s
inductive StsL (P : Program) (ops : Array Oper) (L : Kn) (s : S) : List Nat → Prop
  | nil : StsL P ops L s []
  | cons {q : Nat} {l : List Nat} : StL P ops q L s → StsL P ops L s l → StsL P ops L s (q :: l)
theorem StsL.run {l : List Nat} (h : StsL P ops L s l) {σ : Fr} (hσ : At L σ) : VSts P ops σ s l := by
  induction h with
  | nil => trivial
  | cons h _ ih => exact ⟨h.run σ hσ, ih⟩
theorem StL.fl {q : Nat} {op : Op} {v : V} (ho : nthO ops.toList q = some ⟨some d, op, ty, p, a, none⟩) (hd : lk L d = some v) (h : AnsL P op L s v) : StL P ops q L s := by
  refine ⟨fun σ hσ => ?_⟩
  simp only [VSt, nth_ops ho, vwanted, atO]
  exact ⟨v, h.run σ hσ _ _ _ _ _, hσ d v hd⟩
theorem StL.gT {q j e : Nat} {w b : Bool} {op : Op} {v : V} (ho : nthO ops.toList q = some ⟨some d, op, ty, p, a, some (j, w)⟩) (hj : gslot ops.toList j = some e) (hb : lk L e = some (.bool b)) (hw : (b == w) = true) (hd : lk L d = some v) (h : AnsL P op L s v) : StL P ops q L s := by
  refine ⟨fun σ hσ => ?_⟩
  simp only [VSt, nth_ops ho, vwanted, gslot_eq hj, hσ e _ hb, hw, atO]
  exact ⟨v, h.run σ hσ _ _ _ _ _, hσ d v hd⟩
theorem StL.gF {q j e : Nat} {w b : Bool} {op : Op} (ho : nthO ops.toList q = some ⟨some d, op, ty, p, a, some (j, w)⟩) (hj : gslot ops.toList j = some e) (hb : lk L e = some (.bool b)) (hw : (b == w) = false) (hd : lk L d = some .und) : StL P ops q L s := by
  refine ⟨fun σ hσ => ?_⟩
  simp only [VSt, nth_ops ho, vwanted, gslot_eq hj, hσ e _ hb, hw, atO]
  exact hσ d _ hd

/-- An effect, in its turn. -/
theorem LDr.eff {i : Nat} {o : Oper} (ho : nthO ops.toList i = some o) (he : effOf F i = true) (hd : dstOk N o = true) (h : LOps P N ops [o] (fun L' s' => StsL P ops L' s' (floats F A pre i) ∧ LDr P N ops F A K (i :: pre) rest L' s') L s) : LDr P N ops F A K pre (i :: rest) L s := by
  refine ⟨fun σ hσ => ?_⟩
  simp only [VDw, nth_ops ho, he]
  have h1 := h.run (by simp only [List.all_cons, List.all_nil, hd, Bool.and_self]) σ hσ
  obtain ⟨h2, h3⟩ := h1
  refine ⟨h2, ?_⟩
  have key : ∀ σ' s', VOps P N ops [] (fun σ' s' => ∃ L', At L' σ' ∧ (StsL P ops L' s' (floats F A pre i) ∧ LDr P N ops F A K (i :: pre) rest L' s')) σ' s' → VSts P ops σ' s' (floats F A pre i) ∧ VDw P N ops F A (fun σ' s' => ∃ L', At L' σ' ∧ K L' s') (i :: pre) rest σ' s' := by
    rintro σ' s' ⟨L', hat, hst, hw⟩
    exact ⟨hst.run hat, hw.run _ hat⟩
  split at h3
  · rename_i e
    unfold VOp at h3 ⊢
    split at h3
    · rename_i e2
      unfold VCall at h3 ⊢
      split at h3
      · exact ⟨h3.1, h3.2.mono fun _ _ hk => key _ _ hk⟩
      · exact h3.elim
    · split at h3
      · exact key _ _ h3
      · exact h3.elim
  · exact key _ _ h3
  · exact h3.elim

end Go.Proofs.Ytejdgmdebfkkeaa
