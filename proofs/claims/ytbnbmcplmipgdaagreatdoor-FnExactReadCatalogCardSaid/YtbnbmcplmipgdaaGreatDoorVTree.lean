/-
  Drawn regions in which some effects may come in several orders: a tree of orders, walked. Own work; no condition.
-/
import Derived.Test.YtbnbmcplmipgdaaGreatDoorMg13
namespace Go.Proofs.YtbnbmcplmipgdaaGreatDoor
open Go

/-- Orders: 'fl': what floats; 'ef': an effect that may come now, then what may come in its stead; 'stop': nothing more in its stead. -/
inductive OT where
  | done
  | stop
  | fl (i : Nat) (t : OT)
  | ef (i : Nat) (t alt : OT)

def OT.heads : OT → List Nat
  | .ef i _ alt => i :: alt.heads
  | _ => []

def VDt (P : Program) (N : Nat) (ops : Array Oper) (F : List Nat) (A : List (List Nat)) (K : Fr → S → Prop) : List Nat → OT → Fr → S → Prop
  | _, .done, σ, s => K σ s
  | _, .stop, _, _ => True
  | pre, .fl i t, σ, s =>
    match ops[i]? with
    | none => False
    | some o => match vwanted ops σ o with
        | some true => ∃ v, VAns P o σ s v ∧ VDt P N ops F A K (i :: pre) t (putO σ o.dst v) s
        | some false => VDt P N ops F A K (i :: pre) t (putO σ o.dst .und) s
        | none => False
  | pre, .ef i t alt, σ, s =>
    (match ops[i]? with
    | none => False
    | some o => VStep P N ops o (fun σ' s' => VSts P ops σ' s' (floats F A pre i) ∧ VDt P N ops F A K (i :: pre) t σ' s') σ s) ∧ VDt P N ops F A K pre alt σ s

def subB (l m : List Nat) : Bool := l.all fun x => m.contains x
/-- Whatever is left comes behind one of these, or is one. -/
def fullB (n : Nat) (A : List (List Nat)) (pre hs : List Nat) : Bool := (List.range n).all fun r => pre.contains r || (hs.contains r || hs.any fun x => (ancOf A r).contains x)
def OT.okT (n : Nat) (F : List Nat) (A : List (List Nat)) : Bool → List Nat → OT → Bool
  | _, pre, .done => (List.range n).all fun i => pre.contains i
  | top, _, .stop => !top
  | top, pre, .fl i t => top && (!effOf F i && (decide (i < n) && (!pre.contains i && (subB (ancOf A i) pre && t.okT n F A true (i :: pre)))))
  | top, pre, .ef i t alt => (!top || fullB n A pre (i :: alt.heads)) && (effOf F i && (decide (i < n) && (!pre.contains i && (subB (ancOf A i) pre && (t.okT n F A true (i :: pre) && alt.okT n F A false pre)))))

/-- What is asked of the effects and what lies ahead of what. -/
structure PlanS (N : Nat) (ops : Array Oper) (F : List Nat) (A : List (List Nat)) : Prop where
  dok : ∀ (i : Nat) (o : Oper), ops[i]? = some o → dstOk N o = true
  anc : ∀ (i : Nat) (o : Oper), ops[i]? = some o → ∀ a ∈ ancOf A i, ∃ e ∈ o.after, Region.binds .any e = true ∧ (e.on = a ∨ a ∈ ancOf A e.on)
  lt : ∀ (i : Nat) (o : Oper), ops[i]? = some o → ∀ e ∈ o.after, Region.binds .any e = true → e.on < i
  irr : ∀ i, i ∉ ancOf A i
  dst : ∀ (i j : Nat) (o o' : Oper), ops[i]? = some o → ops[j]? = some o' → effOf F i = false → i ≠ j → ∀ d, o.dst = some d → o'.dst ≠ some d
  look : ∀ (i j : Nat) (o o' : Oper), ops[i]? = some o → ops[j]? = some o' → effOf F i = false → ∀ d, o.dst = some d → d ∈ o'.looksAt ops → i ∈ ancOf A j

theorem PlanS.anc_done {N : Nat} {ops : Array Oper} {F : List Nat} {A : List (List Nat)} (pl : PlanS N ops F A) {D : Array Bool} (hc : Closed ops D) : ∀ (i : Nat) (o : Oper), ops[i]? = some o →
    (∀ e ∈ o.after, Region.binds .any e = true → dn D e.on) → ∀ a ∈ ancOf A i, dn D a := by
  intro i
  induction i using Nat.strongRecOn with
  | ind i ih =>
    intro o ho he a ha
    obtain ⟨e, h1, h2, h3⟩ := pl.anc i o ho a ha
    have hd := he e h1 h2
    rcases h3 with rfl | h3
    · exact hd
    · have hlt := pl.lt i o ho e h1 h2
      have hs : i < ops.size := (Array.getElem?_eq_some_iff.1 ho).1
      have ho' : ops[e.on]? = some ops[e.on] := Array.getElem?_eq_getElem (by omega)
      exact ih e.on hlt _ ho' (hc _ _ ho' hd) a h3
theorem PlanS.all_done {N : Nat} {ops : Array Oper} {F : List Nat} {A : List (List Nat)} (pl : PlanS N ops F A) {D : Array Bool} (hs : D.size = ops.size) (hr : Region.ready .any ops D = []) : ∀ i, i < ops.size → dn D i := by
  intro i
  induction i using Nat.strongRecOn with
  | ind i ih =>
    intro hi
    have ho : ops[i]? = some ops[i] := Array.getElem?_eq_getElem hi
    by_cases hd : dn D i
    · exact hd
    · have : i ∈ Region.ready .any ops D := (ready_iff hs ho).2 ⟨hd, fun e he hb => by
        have := pl.lt i _ ho e he hb
        exact ih _ this (by omega)⟩
      rw [hr] at this
      cases this

structure InvO (P : Program) (N : Nat) (ops : Array Oper) (F : List Nat) (A : List (List Nat)) (K : Fr → S → Prop) (pre : List Nat) (t : OT) (D : Array Bool) (σD σC : Fr) (s : S) : Prop where
  size : D.size = ops.size
  closed : Closed ops D
  lt : ∀ p ∈ pre, p < ops.size
  ancs : ∀ p ∈ pre, ∀ a ∈ ancOf A p, a ∈ pre
  hrest : ∀ i, i < ops.size → i ∉ pre → ¬ dn D i
  hpre : ∀ p ∈ pre, ¬ dn D p → effOf F p = false ∧ VSt P ops p σC s
  agree : ∀ d, (∀ p ∈ pre, ¬ dn D p → ∀ o, ops[p]? = some o → o.dst ≠ some d) → σD d = σC d
  ok : t.okT ops.size F A true pre = true
  walk : VDt P N ops F A K pre t σC s

section
variable {P : Program} {N : Nat} {ops : Array Oper} {F : List Nat} {A : List (List Nat)} {K : Fr → S → Prop}

theorem subB_eq {l m : List Nat} (h : subB l m = true) : ∀ a ∈ l, a ∈ m := fun a ha => by
  have := List.all_eq_true.1 h a ha
  simpa using this
theorem okT_fl {n i : Nat} {pre : List Nat} {t : OT} (h : (OT.fl i t).okT n F A true pre = true) : effOf F i = false ∧ i < n ∧ i ∉ pre ∧ (∀ a ∈ ancOf A i, a ∈ pre) ∧ t.okT n F A true (i :: pre) = true := by
  simp only [OT.okT, Bool.true_and, Bool.and_eq_true, Bool.not_eq_true', decide_eq_true_eq] at h
  exact ⟨h.1, h.2.1, by have := h.2.2.1; simpa using this, subB_eq h.2.2.2.1, h.2.2.2.2⟩

theorem InvO.float {pre : List Nat} {i : Nat} {t : OT} {o : Oper} {v : V} {D : Array Bool} {σD σC : Fr} {s : S} (pl : PlanS N ops F A) (h : InvO P N ops F A K pre (.fl i t) D σD σC s) (ho : ops[i]? = some o)
    (hst : (match vwanted ops σC o with | some true => VAns P o σC s v | some false => v = .und | none => False)) (hw : VDt P N ops F A K (i :: pre) t (putO σC o.dst v) s) : InvO P N ops F A K (i :: pre) t D σD (putO σC o.dst v) s := by
  obtain ⟨he, hi, hip, hia, hok⟩ := okT_fl h.ok
  have hnd : ¬ dn D i := h.hrest i hi hip
  have hsame : ∀ p o', ops[p]? = some o' → i ∉ ancOf A p → SameAt σC (putO σC o.dst v) (o'.looksAt ops) := by
    intro p o' hp' hn t ht
    refine (putO_other fun e => hn ?_).symm
    exact pl.look i p o o' ho hp' he t e ht
  refine ⟨h.size, h.closed, fun p hp => ?_, fun p hp a ha => ?_, fun j hj hjp => h.hrest j hj fun x => hjp (by simp [x]), fun p hp hd => ?_, fun d hd => ?_, hok, hw⟩
  · rcases List.mem_cons.1 hp with rfl | hp
    · exact hi
    · exact h.lt p hp
  · rcases List.mem_cons.1 hp with rfl | hp
    · exact List.mem_cons_of_mem _ (hia a ha)
    · exact List.mem_cons_of_mem _ (h.ancs p hp a ha)
  · rcases List.mem_cons.1 hp with rfl | hp
    · refine ⟨he, ?_⟩
      have hs := hsame p o ho (pl.irr p)
      unfold VSt
      rw [ho]
      simp only
      rw [← vwanted_congr hs]
      have hat : atO (putO σC o.dst v) o.dst v := by
        cases e : o.dst with
        | none => trivial
        | some d => exact putO_same
      split at hst
      · rename_i e; rw [e]; exact ⟨v, hst.congr hs, hat⟩
      · rename_i e; rw [e]; subst hst; exact hat
      · exact hst.elim
    · obtain ⟨k1, k2⟩ := h.hpre p hp hd
      refine ⟨k1, ?_⟩
      have hpi : i ∉ ancOf A p := fun x => hip (h.ancs p hp i x)
      have hpo : ∃ o', ops[p]? = some o' := ⟨_, Array.getElem?_eq_getElem (h.lt p hp)⟩
      obtain ⟨o', ho'⟩ := hpo
      refine st_congr k2 ho' (hsame p o' ho' hpi) fun d hd' => putO_other fun e => ?_
      exact pl.dst i p o o' ho ho' he (fun x => hip (x ▸ hp)) d e hd'
  · rw [putO_other (hd i (by simp) hnd o ho)]
    exact h.agree d fun p hp => hd p (by simp [hp])

theorem InvO.advance (pl : PlanS N ops F A) {D : Array Bool} {σD : Fr} {s : S} : ∀ (t : OT) (pre : List Nat) (σC : Fr), InvO P N ops F A K pre t D σD σC s →
    ∃ pre' t' σC', InvO P N ops F A K pre' t' D σD σC' s ∧ (t' = .done ∨ ∃ i u alt, t' = .ef i u alt)
  | .done, pre, σC, h => ⟨pre, .done, σC, h, .inl rfl⟩
  | .stop, pre, σC, h => by have := h.ok; simp [OT.okT] at this
  | .ef i u alt, pre, σC, h => ⟨pre, _, σC, h, .inr ⟨i, u, alt, rfl⟩⟩
  | .fl i t, pre, σC, h => by
    have hw := h.walk
    unfold VDt at hw
    cases ho : ops[i]? with
    | none => rw [ho] at hw; exact hw.elim
    | some o =>
      rw [ho] at hw
      simp only at hw
      cases hv : vwanted ops σC o with
      | none => rw [hv] at hw; exact hw.elim
      | some b =>
        rw [hv] at hw
        cases b with
        | true =>
          obtain ⟨v, hvop, hw⟩ := hw
          exact InvO.advance pl t (i :: pre) _ (h.float pl ho (by rw [hv]; exact hvop) hw)
        | false => exact InvO.advance pl t (i :: pre) _ (h.float pl ho (by rw [hv]) hw)

theorem InvO.finish (pl : PlanS N ops F A) {pre : List Nat} {t : OT} {D : Array Bool} {σD σC : Fr} {s : S} (h : InvO P N ops F A K pre t D σD σC s) (hr : Region.ready .any ops D = []) : K σD s := by
  have hall := pl.all_done h.size hr
  have hin : ∀ i, i < ops.size → i ∈ pre := fun i hi => by
    rcases Classical.em (i ∈ pre) with hp | hp
    · exact hp
    · exact (h.hrest i hi hp (hall i hi)).elim
  obtain ⟨pre2, t2, σ2, h2, hadv⟩ := InvO.advance pl t pre σC h
  have hin2 : ∀ i, i < ops.size → i ∈ pre2 := fun i hi => by
    rcases Classical.em (i ∈ pre2) with hp | hp
    · exact hp
    · exact (h2.hrest i hi hp (hall i hi)).elim
  rcases hadv with rfl | ⟨i, u, alt, rfl⟩
  · have hw := h2.walk
    have : σD = σ2 := funext fun d => h2.agree d fun p hp hd => (hd (hall p (h2.lt p hp))).elim
    rw [this]
    exact hw
  · have := h2.ok
    simp only [OT.okT, Bool.and_eq_true, Bool.not_eq_true', decide_eq_true_eq] at this
    have h3 := this.2.2.2.1
    have h4 := hin2 i this.2.2.1
    simp [h4] at h3

/-- One of what may come now. -/
theorem VDt.pick {pre : List Nat} {n : Nat} {i : Nat} : ∀ {t : OT} {b : Bool} {σ : Fr} {s : S}, VDt P N ops F A K pre t σ s → t.okT n F A b pre = true → i ∈ t.heads →
    ∃ u, (match ops[i]? with | none => False | some o => VStep P N ops o (fun σ' s' => VSts P ops σ' s' (floats F A pre i) ∧ VDt P N ops F A K (i :: pre) u σ' s') σ s) ∧ effOf F i = true ∧ u.okT n F A true (i :: pre) = true ∧ ∀ a ∈ ancOf A i, a ∈ pre
  | .ef j u alt, b, σ, s, h, hok, hi => by
    unfold VDt at h
    simp only [OT.okT, Bool.and_eq_true, Bool.not_eq_true', decide_eq_true_eq] at hok
    obtain ⟨k0, k1, k2, k3, k4, k5, k6⟩ := hok
    simp only [OT.heads] at hi
    by_cases e : i = j
    · subst e
      exact ⟨u, h.1, k1, k5, subB_eq k4⟩
    · exact VDt.pick h.2 k6 ((List.mem_cons.1 hi).resolve_left e)
  | .done, _, _, _, _, _, hi => by cases hi
  | .stop, _, _, _, _, _, hi => by cases hi
  | .fl _ _, _, _, _, _, _, hi => by cases hi

theorem VDt_any (pl : PlanS N ops F A) : ∀ (fuel : Nat) (D : Array Bool) (pre : List Nat) (t : OT) (σD σC : Fr) (s : S), InvO P N ops F A K pre t D σD σC s → left ops D ≤ fuel → VAny P N ops K fuel D σD s
  | 0, D, pre, t, σD, σC, s, h, hf => by
    have hr : Region.ready .any ops D = [] := by
      cases hr : Region.ready .any ops D with
      | nil => rfl
      | cons i r =>
        have hi : i ∈ Region.ready .any ops D := by rw [hr]; simp
        have hlt := ready_lt hi
        have ho : ops[i]? = some ops[i] := Array.getElem?_eq_getElem hlt
        have := left_set h.size hlt ((ready_iff h.size ho).1 hi).1
        omega
    exact ⟨hr, h.finish pl hr⟩
  | fuel + 1, D, pre, t, σD, σC, s, h, hf => by
    refine ⟨fun hr => h.finish pl hr, fun i hi => ?_⟩
    obtain ⟨pre, t, σC, h, hadv⟩ := InvO.advance pl t pre σC h
    have hlt := ready_lt hi
    have ho : ops[i]? = some ops[i] := Array.getElem?_eq_getElem hlt
    generalize ops[i] = o at ho
    obtain ⟨hnd, hedge⟩ := (ready_iff h.size ho).1 hi
    have hanc := pl.anc_done h.closed i o ho hedge
    have hsz : i < D.size := by rw [h.size]; exact hlt
    have hset : ∀ j, dn (D.setIfInBounds i true) j ↔ (j = i ∨ dn D j) := fun j => dn_set hsz
    have hleft : left ops (D.setIfInBounds i true) ≤ fuel := by have := left_set h.size hlt hnd; omega
    have hclosed : Closed ops (D.setIfInBounds i true) := by
      intro j o' ho' hj e he hb
      rcases (hset j).1 hj with rfl | hj
      · rw [ho] at ho'; cases ho'
        exact (hset _).2 (.inr (hedge e he hb))
      · exact (hset _).2 (.inr (h.closed j o' ho' hj e he hb))
    have hsame : SameAt σC σD (o.looksAt ops) := by
      intro t ht
      refine (h.agree t fun p hp hd o' ho' e => hd ?_).symm
      exact hanc p (pl.look p i o' o ho' ho (h.hpre p hp hd).1 t e ht)
    unfold VStepAt
    rw [ho]
    simp only
    by_cases hip : i ∈ pre
    · obtain ⟨he, hst⟩ := h.hpre i hip hnd
      have next : ∀ v, atO σC o.dst v → VAny P N ops K fuel (D.setIfInBounds i true) (putO σD o.dst v) s := by
        intro v hv
        refine VDt_any pl fuel _ pre t _ σC s ⟨by simp [h.size], hclosed, h.lt, h.ancs, fun j hj hjp hd => ?_, fun p hp hd => h.hpre p hp fun hd' => hd ((hset p).2 (.inr hd')), fun d hd => ?_, h.ok, h.walk⟩ hleft
        · rcases (hset j).1 hd with rfl | hd
          · exact hjp hip
          · exact h.hrest j hj hjp hd
        · by_cases e : o.dst = some d
          · rw [e] at hv ⊢
            rw [putO_same]
            exact hv.symm
          · rw [putO_other e]
            refine h.agree d fun p hp hd' o' ho' => ?_
            by_cases epi : p = i
            · subst epi; rw [ho] at ho'; cases ho'; exact e
            · exact hd p hp (fun x => ((hset p).1 x).elim epi hd') o' ho'
      unfold VSt at hst
      rw [ho] at hst
      simp only at hst
      refine ⟨pl.dok i o ho, ?_⟩
      rw [← vwanted_congr hsame]
      split at hst
      · rename_i e; rw [e]
        obtain ⟨v, hv, hat⟩ := hst
        exact hv.congr hsame _ (next v hat)
      · rename_i e; rw [e]; exact next _ hst
      · exact hst.elim
    · have hih : i ∈ t.heads := by
        rcases hadv with rfl | ⟨j, u, alt, rfl⟩
        · have := h.ok
          simp only [OT.okT, List.all_eq_true, List.mem_range] at this
          exact (hip (by have := this i hlt; simpa using this)).elim
        · have := h.ok
          simp only [OT.okT, Bool.not_true, Bool.false_or, Bool.and_eq_true, fullB, List.all_eq_true, List.mem_range, Bool.or_eq_true] at this
          rcases this.1 i hlt with k | k | k
          · exact (hip (by simpa using k)).elim
          · simpa [OT.heads] using k
          · obtain ⟨x, hx1, hx2⟩ := List.any_eq_true.1 k
            have hx3 : x ∈ ancOf A i := by simpa using hx2
            obtain ⟨_, hxo, hxe, _, hxa⟩ := VDt.pick h.walk h.ok (i := x) (by simpa [OT.heads] using hx1)
            have hxn : x < ops.size := by
              cases hox : ops[x]? with
              | none => rw [hox] at hxo; exact hxo.elim
              | some _ => exact (Array.getElem?_eq_some_iff.1 hox).1
            have hxd := hanc x hx3
            rcases Classical.em (x ∈ pre) with hp | hp
            · exfalso
              have hok := h.ok
              -- a head is not done already
              have hno : ∀ {t : OT} {b : Bool}, t.okT ops.size F A b pre = true → x ∈ t.heads → x ∉ pre := by
                intro t
                induction t with
                | ef j u alt _ ih2 =>
                  intro b hok hx
                  simp only [OT.okT, Bool.and_eq_true, Bool.not_eq_true', decide_eq_true_eq] at hok
                  simp only [OT.heads] at hx
                  rcases List.mem_cons.1 hx with rfl | hx
                  · have := hok.2.2.2.1; simpa using this
                  · exact ih2 hok.2.2.2.2.2.2 hx
                | _ => intro b _ hx; cases hx
              exact hno hok (by simpa [OT.heads] using hx1) hp
            · exact (h.hrest x hxn hp hxd).elim
      obtain ⟨u, hw, he, hok, hia⟩ := VDt.pick h.walk h.ok hih
      rw [ho] at hw
      simp only at hw
      refine VStep_congr hw hsame fun v s' hk => ?_
      obtain ⟨hk1, hk2⟩ := hk
      refine VDt_any pl fuel _ (i :: pre) u _ (putO σC o.dst v) s' ⟨by simp [h.size], hclosed, fun p hp => ?_, fun p hp a ha => ?_, fun j hj hjp hd => ?_, fun p hp hd => ?_, fun d hd => ?_, hok, hk2⟩ hleft
      · rcases List.mem_cons.1 hp with rfl | hp
        · exact hlt
        · exact h.lt p hp
      · rcases List.mem_cons.1 hp with rfl | hp
        · exact List.mem_cons_of_mem _ (hia a ha)
        · exact List.mem_cons_of_mem _ (h.ancs p hp a ha)
      · rcases (hset j).1 hd with rfl | hd
        · exact hjp (by simp)
        · exact h.hrest j hj (fun x => hjp (by simp [x])) hd
      · rcases List.mem_cons.1 hp with rfl | hp
        · exact (hd ((hset p).2 (.inl rfl))).elim
        · have hd' : ¬ dn D p := fun x => hd ((hset p).2 (.inr x))
          have hpe := (h.hpre p hp hd').1
          refine ⟨hpe, hk1.get p ?_⟩
          unfold floats
          simp only [List.mem_filter, Bool.and_eq_true, Bool.not_eq_true', hpe, List.contains_eq_mem, decide_eq_false_iff_not, true_and]
          exact ⟨hp, fun x => hd' (hanc p x)⟩
      · by_cases e : o.dst = some d
        · rw [e, putO_same, putO_same]
        · rw [putO_other e, putO_other e]
          refine h.agree d fun p hp hd' o' ho' => hd p (by simp [hp]) (fun x => ((hset p).1 x).elim (fun y => hip (y ▸ hp)) hd') o' ho'
end

def planS (N : Nat) (ops : Array Oper) (F : List Nat) (A : List (List Nat)) : Bool :=
  eachOp ops (fun i o => dstOk N o && ((ancOf A i).all (fun a => o.after.toList.any fun e => Region.binds .any e && (e.on == a || (ancOf A e.on).contains a)) &&
    (o.after.toList.all (fun e => !Region.binds .any e || decide (e.on < i)) &&
    (effOf F i || eachOp ops (fun j o' => match o.dst with | none => true | some d => (i == j || o'.dst != some d) && (!(o'.looksAt ops).contains d || (ancOf A j).contains i)))))) &&
  (List.range A.length).all fun i => !(ancOf A i).contains i

theorem planS_spec {N : Nat} {ops : Array Oper} {F : List Nat} {A : List (List Nat)} (h : planS N ops F A = true) : PlanS N ops F A := by
  simp only [planS, Bool.and_eq_true] at h
  obtain ⟨h4, h5⟩ := h
  have each : ∀ {i : Nat} {o : Oper}, ops[i]? = some o → _ := fun {i o} ho => eachOp_spec h4 ho
  simp only [Bool.and_eq_true] at each
  refine ⟨fun i o ho => (each ho).1, fun i o ho a ha => ?_, fun i o ho e he hb => ?_, fun i hi => ?_, fun i j o o' ho ho' he hij d hd => ?_, fun i j o o' ho ho' he d hd hl => ?_⟩
  · have := List.all_eq_true.1 (each ho).2.1 a ha
    simp only [List.any_eq_true, Bool.and_eq_true, Bool.or_eq_true, beq_iff_eq, List.contains_eq_mem, decide_eq_true_eq] at this
    obtain ⟨e, h1, h2, h3⟩ := this
    exact ⟨e, by simpa using h1, h2, h3⟩
  · have := List.all_eq_true.1 (each ho).2.2.1 e (by simpa using he)
    simpa [hb] using this
  · by_cases hlt : i < A.length
    · have := List.all_eq_true.1 h5 i (List.mem_range.2 hlt)
      simp at this
      exact this hi
    · unfold ancOf at hi
      rw [List.getD_eq_getElem?_getD, List.getElem?_eq_none (by omega)] at hi
      cases hi
  · have h6 := (each ho).2.2.2
    rw [he, Bool.false_or] at h6
    have := eachOp_spec h6 ho'
    rw [hd] at this
    simp only [Bool.and_eq_true, Bool.or_eq_true, beq_iff_eq, bne_iff_ne] at this
    exact this.1.resolve_left hij
  · have h6 := (each ho).2.2.2
    rw [he, Bool.false_or] at h6
    have := eachOp_spec h6 ho'
    rw [hd] at this
    simp only [Bool.and_eq_true, Bool.or_eq_true, Bool.not_eq_true', List.contains_eq_mem, decide_eq_false_iff_not, decide_eq_true_eq] at this
    exact this.2.resolve_left (fun x => x hl)

theorem VWp.drawnO {P : Program} {N id : Nat} {ops : Array Oper} {Q : Exit → Fr → S → Prop} {σ : Fr} {s : S} (t : OT) (F : List Nat) (A : List (List Nat)) (hm : P.follows .mixedOrders = true) (hp : (planS N ops F A && t.okT ops.size F A true []) = true)
    (h : VDt P N ops F A (Q .normal) [] t σ s) : VWp P N (.region id ops true) Q σ s := by
  rw [Bool.and_eq_true] at hp
  refine VWp.drawn hm (VDt_any (planS_spec hp.1) _ _ [] t σ σ s ⟨by simp, fun i o ho hd => ?_, fun p hp => (nomatch hp), fun p hp => (nomatch hp), fun i hi _ hd => ?_, fun p hp => (nomatch hp), fun d _ => rfl, hp.2, h⟩ ?_)
  · unfold dn at hd
    by_cases hi : i < ops.size <;> simp [Array.getD_eq_getD_getElem?, hi] at hd
  · unfold dn at hd
    by_cases hi : i < ops.size <;> simp [Array.getD_eq_getD_getElem?, hi] at hd
  · unfold left
    exact Nat.le_trans (List.length_filter_le _ _) (by simp)

/-! ### With frames known at some slots -/
section
variable {P : Program} {N : Nat} {ops : Array Oper} {K : Kn → S → Prop} {L : Kn} {s : S} {F : List Nat} {A : List (List Nat)} {pre : List Nat} {t alt : OT}
variable {d : Nat} {ty : TypeId} {p : String} {a : Array Edge}

structure LDt (P : Program) (N : Nat) (ops : Array Oper) (F : List Nat) (A : List (List Nat)) (K : Kn → S → Prop) (pre : List Nat) (t : OT) (L : Kn) (s : S) : Prop where
  run : ∀ σ, At L σ → VDt P N ops F A (fun σ' s' => ∃ L', At L' σ' ∧ K L' s') pre t σ s
theorem kDt (h : LDt P N ops F A K pre t L s) : LDt P N ops F A K pre t L s := h
theorem WL.drawnO {id : Nat} {Q : Exit → Kn → S → Prop} (t : OT) (F : List Nat) (A : List (List Nat)) (hm : P.follows .mixedOrders = true) (hp : (planS N ops F A && t.okT ops.size F A true []) = true) (h : LDt P N ops F A (Q .normal) [] t L s) : WL P N (.region id ops true) Q L s :=
  ⟨fun σ hσ => VWp.drawnO t F A hm hp (h.run σ hσ)⟩
theorem LDt.done (h : K L s) : LDt P N ops F A K pre .done L s := ⟨fun _ hσ => ⟨L, hσ, h⟩⟩
theorem LDt.stop : LDt P N ops F A K pre .stop L s := ⟨fun _ _ => trivial⟩
theorem LDt.fl {i : Nat} {op : Op} {v : V} (ho : nthO ops.toList i = some ⟨some d, op, ty, p, a, none⟩) (h : AnsL P op L s v) (hk : LDt P N ops F A K (i :: pre) t ((d, v) :: L) s) : LDt P N ops F A K pre (.fl i t) L s := by
  refine ⟨fun σ hσ => ?_⟩
  simp only [VDt, nth_ops ho, vwanted]
  exact ⟨v, h.run σ hσ _ _ _ _ _, hk.run _ (hσ.cons d v)⟩
theorem LDt.ef {i : Nat} {o : Oper} (ho : nthO ops.toList i = some o) (hd : dstOk N o = true) (h : LOps P N ops [o] (fun L' s' => StsL P ops L' s' (floats F A pre i) ∧ LDt P N ops F A K (i :: pre) t L' s') L s) (h2 : LDt P N ops F A K pre alt L s) : LDt P N ops F A K pre (.ef i t alt) L s := by
  refine ⟨fun σ hσ => ?_⟩
  simp only [VDt, nth_ops ho]
  refine ⟨?_, h2.run σ hσ⟩
  have h1 := h.run (by simp only [List.all_cons, List.all_nil, hd, Bool.and_self]) σ hσ
  obtain ⟨h2, h3⟩ := h1
  refine ⟨h2, ?_⟩
  have key : ∀ σ' s', VOps P N ops [] (fun σ' s' => ∃ L', At L' σ' ∧ (StsL P ops L' s' (floats F A pre i) ∧ LDt P N ops F A K (i :: pre) t L' s')) σ' s' → VSts P ops σ' s' (floats F A pre i) ∧ VDt P N ops F A (fun σ' s' => ∃ L', At L' σ' ∧ K L' s') (i :: pre) t σ' s' := by
    rintro σ' s' ⟨L', hat, hst, hw⟩
    exact ⟨hst.run hat, hw.run _ hat⟩
  split at h3
  · rename_i e
    rcases h3 with h3 | ⟨vs, R, hvs, hdo, hkk⟩
    case inr => exact .inr ⟨vs, R, hvs, hdo, fun v s' hR => key _ _ (hkk v s' hR)⟩
    refine .inl ?_
    unfold VOp0 at h3 ⊢
    split at h3
    · rename_i e2
      unfold VCall at h3 ⊢
      split at h3
      · exact ⟨h3.1, h3.2.mono fun _ _ hk => key _ _ hk⟩
      · exact h3.elim
    · rcases h3 with ⟨v, s', hv, hk⟩ | ⟨ps, v, hps, hv, hk⟩
      · exact .inl ⟨v, s', hv, key _ _ hk⟩
      · exact .inr ⟨ps, v, hps, hv, key _ _ hk⟩
    · rcases h3 with ⟨v, s', hv, hk⟩ | ⟨x, y, v, hx, hy, hv, hk⟩
      · exact .inl ⟨v, s', hv, key _ _ hk⟩
      · exact .inr ⟨x, y, v, hx, hy, hv, key _ _ hk⟩
    · split at h3
      · exact key _ _ h3
      · exact h3.elim
  · exact key _ _ h3
  · exact h3.elim

/-- A region walked by itself: behind it the books alone are known. -/
structure CutH {α : Type} (LI : α → Kn) (HI : α → List BE) (I : α → Prop) (e : Exit) (L' : Kn) (s' : S) : Prop where
  h : e = .normal ∧ ∃ x t, I x ∧ SubL (LI x) L' ∧ s' = t.ext [] ∧ Hold t t.next (HI x)
theorem CutH.of {α : Type} {LI : α → Kn} {HI : α → List BE} {I : α → Prop} {H : List BE} (x : α) (hL : SubL (LI x) L) (hh : Hold s s.next H) (hS : Sel H (HI x)) (hI : I x) : CutH LI HI I .normal L (s.ext []) := ⟨rfl, x, s, hI, hL, rfl, hh.sel hS⟩
theorem WL.cutH {α : Type} {c : Code} {Q : Exit → Kn → S → Prop} (LI : α → Kn) (HI : α → List BE) (I : α → Prop) (h : WL P N c (CutH LI HI I) L s) (k : ∀ (x : α) (t : S), I x → Hold t t.next (HI x) → Q .normal (LI x) (t.ext [])) : WL P N c Q L s := by
  refine ⟨fun σ hσ => (h.run σ hσ).mono ?_⟩
  rintro e σ' s' ⟨L', hat', ⟨⟨rfl, x, t, hI, hsub, rfl, hh⟩⟩⟩
  exact ⟨LI x, hsub.at hat', k x t hI hh⟩
end

end Go.Proofs.YtbnbmcplmipgdaaGreatDoor
