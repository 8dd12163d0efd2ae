/-
  The rule for drawn regions: its proof. Own work; no condition.
-/
import Derived.Test.YtejdgmdebfkkeaaVDrawn2
namespace Go.Proofs.Ytejdgmdebfkkeaa
open Go

theorem putO_other {σ : Fr} {dst : Option Nat} {v : V} {d : Nat} (h : dst ≠ some d) : putO σ dst v d = σ d := by
  cases dst with
  | none => rfl
  | some e =>
    have : d ≠ e := fun x => h (by rw [x])
    simp [putO, put, this]

theorem putO_same {σ : Fr} {d : Nat} {v : V} : putO σ (some d) v d = v := by simp [putO, put]

theorem stable_congr {P : Program} {ops : Array Oper} {p : Nat} {o : Oper} {σ σ' : Fr} {s : S} (h : VStable P ops p σ s) (ho : ops[p]? = some o) (hs : SameAt σ σ' (o.looksAt ops)) (hd : ∀ d, o.dst = some d → σ' d = σ d) : VStable P ops p σ' s := by
  have ha : ∀ v, atO σ o.dst v → atO σ' o.dst v := by
    intro v hv
    cases e : o.dst with
    | none => trivial
    | some d => rw [e] at hv; exact (hd d e).trans hv
  unfold VStable at h ⊢
  rw [ho] at h ⊢
  simp only at h ⊢
  rw [← vwanted_congr hs, ← vop_congr (vev_looks hs)]
  split at h
  · split at h
    · exact ⟨h.1, ha _ h.2⟩
    · exact h.elim
  · exact ha _ h
  · exact h.elim

structure Inv (P : Program) (N : Nat) (ops : Array Oper) (order F : List Nat) (A : List (List Nat)) (K : Fr → S → Prop) (pre rest : List Nat) (D : Array Bool) (σD σC : Fr) (s : S) : Prop where
  size : D.size = ops.size
  closed : Closed ops D
  split : order = pre.reverse ++ rest
  hrest : ∀ i ∈ rest, ¬ dn D i
  hpre : ∀ p ∈ pre, ¬ dn D p → effOf F p = false ∧ VStable P ops p σC s
  agree : ∀ d, (∀ p ∈ pre, ¬ dn D p → ∀ o, ops[p]? = some o → o.dst ≠ some d) → σD d = σC d
  walk : VDr P N ops F A K pre rest σC s

section
variable {P : Program} {N : Nat} {ops : Array Oper} {order F : List Nat} {A : List (List Nat)} {K : Fr → S → Prop}

theorem Inv.rel {pre rest : List Nat} {D : Array Bool} {σD σC : Fr} {s : S} (pl : Plan N ops order F A) (h : Inv P N ops order F A K pre rest D σD σC s) :
    (∀ p ∈ pre, ∀ r ∈ rest, r ∉ ancOf A p ∧ (effOf F p = true → p ∈ ancOf A r) ∧ p ≠ r) ∧ rest.Pairwise fun x y => y ∉ ancOf A x ∧ (effOf F x = true → x ∈ ancOf A y) := by
  have h1 := pl.pair
  have h2 := pl.nodup
  rw [h.split] at h1 h2
  rw [List.pairwise_append] at h1
  rw [List.nodup_append] at h2
  exact ⟨fun p hp r hr => ⟨(h1.2.2 p (by simpa using hp) r hr).1, (h1.2.2 p (by simpa using hp) r hr).2, h2.2.2 p (by simpa using hp) r hr⟩, h1.2.1⟩

/-- What floats, done in the one order's turn. -/
theorem Inv.float {pre rest : List Nat} {i : Nat} {o : Oper} {v : V} {D : Array Bool} {σD σC : Fr} {s : S} (pl : Plan N ops order F A) (h : Inv P N ops order F A K pre (i :: rest) D σD σC s) (ho : ops[i]? = some o) (he : effOf F i = false)
    (hst : (match vwanted ops σC o with | some true => vop P o σC s = some (v, s) | some false => v = .und | none => False)) (hw : VDr P N ops F A K (i :: pre) rest (putO σC o.dst v) s) : Inv P N ops order F A K (i :: pre) rest D σD (putO σC o.dst v) s := by
  have hrel := (h.rel pl).1
  have hnd : ¬ dn D i := h.hrest i (by simp)
  have hsame : ∀ p o', ops[p]? = some o' → i ∉ ancOf A p → SameAt σC (putO σC o.dst v) (o'.looksAt ops) := by
    intro p o' hp' hn t ht
    refine (putO_other fun e => hn ?_).symm
    exact pl.look i p o o' ho hp' he t e ht
  refine ⟨h.size, h.closed, by rw [h.split]; simp, fun j hj => h.hrest j (by simp [hj]), fun p hp hd => ?_, fun d hd => ?_, hw⟩
  · rcases List.mem_cons.1 hp with rfl | hp
    · refine ⟨he, ?_⟩
      have hs := hsame p o ho (pl.irr p)
      unfold VStable
      rw [ho]
      simp only
      rw [← vwanted_congr hs, ← vop_congr (vev_looks hs)]
      have hat : atO (putO σC o.dst v) o.dst v := by
        cases e : o.dst with
        | none => trivial
        | some d => exact putO_same
      split at hst
      · rename_i e; rw [e, hst]; exact ⟨rfl, hat⟩
      · rename_i e; rw [e]; subst hst; exact hat
      · exact hst.elim
    · obtain ⟨k1, k2⟩ := h.hpre p hp hd
      refine ⟨k1, ?_⟩
      have hpi := hrel p hp i (by simp)
      have hpo : ∃ o', ops[p]? = some o' := by
        have hps : p < ops.size := (pl.all p).2 (by rw [h.split]; simp [hp])
        exact ⟨_, Array.getElem?_eq_getElem hps⟩
      obtain ⟨o', ho'⟩ := hpo
      refine stable_congr k2 ho' (hsame p o' ho' hpi.1) fun d hd' => putO_other fun e => ?_
      exact pl.dst i p o o' ho ho' he (fun x => hpi.2.2 x.symm) d e hd'
  · rw [putO_other (hd i (by simp) hnd o ho)]
    exact h.agree d fun p hp => hd p (by simp [hp])

theorem Inv.advance (pl : Plan N ops order F A) {D : Array Bool} {σD : Fr} {s : S} : ∀ (rest pre : List Nat) (σC : Fr), Inv P N ops order F A K pre rest D σD σC s →
    ∃ pre' rest' σC', Inv P N ops order F A K pre' rest' D σD σC' s ∧ (rest' = [] ∨ ∃ h t, rest' = h :: t ∧ effOf F h = true)
  | [], pre, σC, h => ⟨pre, [], σC, h, .inl rfl⟩
  | i :: rest, pre, σC, h => by
    cases he : effOf F i with
    | true => exact ⟨pre, i :: rest, σC, h, .inr ⟨i, rest, rfl, he⟩⟩
    | false =>
      have hw := h.walk
      unfold VDr at hw
      cases ho : ops[i]? with
      | none => rw [ho] at hw; exact hw.elim
      | some o =>
        rw [ho] at hw
        simp only [he] at hw
        cases hv : vwanted ops σC o with
        | none => rw [hv] at hw; exact hw.elim
        | some b =>
          rw [hv] at hw
          cases b with
          | true =>
            simp only at hw
            split at hw
            case h_2 => exact hw.elim
            rename_i v s' hvop
            obtain ⟨rfl, hw⟩ := hw
            exact Inv.advance pl rest (i :: pre) _ (h.float pl ho he (by rw [hv]; exact hvop) hw)
          | false => exact Inv.advance pl rest (i :: pre) _ (h.float pl ho he (by rw [hv]) hw)

theorem Inv.finish (pl : Plan N ops order F A) {pre rest : List Nat} {D : Array Bool} {σD σC : Fr} {s : S} (h : Inv P N ops order F A K pre rest D σD σC s) (hr : Region.ready .any ops D = []) : K σD s := by
  have hall := all_done pl h.size hr
  have hmem : ∀ i, i ∈ pre.reverse ++ rest → dn D i := fun i hi => hall i ((pl.all i).2 (by rw [h.split]; exact hi))
  cases hrest : rest with
  | cons i r =>
    exact (h.hrest i (by rw [hrest]; simp) (hmem i (by rw [hrest]; simp))).elim
  | nil =>
    have hw := h.walk
    rw [hrest] at hw
    have : σD = σC := funext fun d => h.agree d fun p hp hd => (hd (hmem p (by simp [hp]))).elim
    rw [this]
    exact hw

theorem VDr_any (pl : Plan N ops order F A) : ∀ (fuel : Nat) (D : Array Bool) (pre rest : List Nat) (σD σC : Fr) (s : S), Inv P N ops order F A K pre rest D σD σC s → left ops D ≤ fuel → VAny P N ops K fuel D σD s
  | 0, D, pre, rest, σD, σC, s, h, hf => by
    have hr : Region.ready .any ops D = [] := by
      cases hr : Region.ready .any ops D with
      | nil => rfl
      | cons i r =>
        have hi : i ∈ Region.ready .any ops D := by rw [hr]; simp
        have hlt := ready_lt hi
        have ho : ops[i]? = some ops[i] := Array.getElem?_eq_getElem hlt
        have := left_set h.size hlt ((ready_iff h.size ho).1 hi).1
        omega
    exact ⟨hr, h.finish pl hr⟩
  | fuel + 1, D, pre, rest, σD, σC, s, h, hf => by
    refine ⟨fun hr => h.finish pl hr, fun i hi => ?_⟩
    obtain ⟨pre, rest, σC, h, hadv⟩ := Inv.advance pl rest pre σC h
    have hlt := ready_lt hi
    have ho : ops[i]? = some ops[i] := Array.getElem?_eq_getElem hlt
    generalize ops[i] = o at ho
    obtain ⟨hnd, hedge⟩ := (ready_iff h.size ho).1 hi
    have hanc := pl.anc_done h.closed i o ho hedge
    have hsz : i < D.size := by rw [h.size]; exact hlt
    have hset : ∀ j, dn (D.setIfInBounds i true) j ↔ (j = i ∨ dn D j) := fun j => dn_set hsz
    have hleft : left ops (D.setIfInBounds i true) ≤ fuel := by have := left_set h.size hlt hnd; omega
    have hclosed : Closed ops (D.setIfInBounds i true) := by
      intro j o' ho' hj e he hb
      rcases (hset j).1 hj with rfl | hj
      · rw [ho] at ho'; cases ho'
        exact (hset _).2 (.inr (hedge e he hb))
      · exact (hset _).2 (.inr (h.closed j o' ho' hj e he hb))
    have hsame : SameAt σC σD (o.looksAt ops) := by
      intro t ht
      refine (h.agree t fun p hp hd o' ho' e => hd ?_).symm
      exact hanc p (pl.look p i o' o ho' ho (h.hpre p hp hd).1 t e ht)
    have hrel := h.rel pl
    unfold VStepAt
    rw [ho]
    simp only
    have hmem : i ∈ pre ∨ i ∈ rest := by
      have := (pl.all i).1 hlt
      rw [h.split] at this
      simpa using this
    -- in what is still to come only the head can be done now
    have hhead : i ∈ rest → ∃ t, rest = i :: t ∧ effOf F i = true := by
      intro hir
      rcases hadv with rfl | ⟨x, t, rfl, hx⟩
      · cases hir
      · rcases List.mem_cons.1 hir with rfl | hit
        · exact ⟨t, rfl, hx⟩
        · have := (List.pairwise_cons.1 hrel.2).1 i hit
          exact (h.hrest x (by simp) (hanc x (this.2 hx))).elim
    by_cases hip : i ∈ pre
    · obtain ⟨he, hst⟩ := h.hpre i hip hnd
      have hnr : i ∉ rest := fun hr => ((hrel.1 i hip i hr).2.2 rfl).elim
      have next : ∀ v, atO σC o.dst v → VAny P N ops K fuel (D.setIfInBounds i true) (putO σD o.dst v) s := by
        intro v hv
        refine VDr_any pl fuel _ pre rest _ σC s ⟨by simp [h.size], hclosed, h.split, fun j hj hd => ?_, fun p hp hd => h.hpre p hp fun hd' => hd ((hset p).2 (.inr hd')), fun d hd => ?_, h.walk⟩ hleft
        · rcases (hset j).1 hd with rfl | hd
          · exact hnr hj
          · exact h.hrest j hj hd
        · by_cases e : o.dst = some d
          · rw [e] at hv ⊢
            rw [putO_same]
            exact hv.symm
          · rw [putO_other e]
            refine h.agree d fun p hp hd' o' ho' => ?_
            by_cases epi : p = i
            · subst epi; rw [ho] at ho'; cases ho'; exact e
            · exact hd p hp (fun x => ((hset p).1 x).elim epi hd') o' ho'
      unfold VStable at hst
      rw [ho] at hst
      simp only at hst
      refine ⟨pl.dok i o ho, ?_⟩
      rw [← vwanted_congr hsame]
      split at hst
      · rename_i e; rw [e]
        split at hst
        case h_2 => exact hst.elim
        rename_i v s' hv
        obtain ⟨rfl, hat⟩ := hst
        exact VOp_of_vop (by rw [← vop_congr (vev_looks hsame)]; exact hv) (next v hat)
      · rename_i e; rw [e]; exact next _ hst
      · exact hst.elim
    · have hir : i ∈ rest := hmem.resolve_left hip
      obtain ⟨t, rfl, he⟩ := hhead hir
      have hw := h.walk
      unfold VDr at hw
      rw [ho] at hw
      simp only [he] at hw
      refine VStep_congr hw hsame fun v s' hk => ?_
      obtain ⟨hk1, hk2⟩ := hk
      have hnt : i ∉ t := by
        have h2 := pl.nodup
        rw [h.split, List.nodup_append] at h2
        exact (List.nodup_cons.1 h2.2.1).1
      refine VDr_any pl fuel _ (i :: pre) t _ (putO σC o.dst v) s' ⟨by simp [h.size], hclosed, by rw [h.split]; simp, fun j hj hd => ?_, fun p hp hd => ?_, fun d hd => ?_, hk2⟩ hleft
      · rcases (hset j).1 hd with rfl | hd
        · exact hnt hj
        · exact h.hrest j (by simp [hj]) hd
      · rcases List.mem_cons.1 hp with rfl | hp
        · exact (hd ((hset p).2 (.inl rfl))).elim
        · have hd' : ¬ dn D p := fun x => hd ((hset p).2 (.inr x))
          have hpe := (h.hpre p hp hd').1
          refine ⟨hpe, hk1.get p ?_⟩
          unfold floats
          simp only [List.mem_filter, Bool.and_eq_true, Bool.not_eq_true', hpe, List.contains_eq_mem, decide_eq_false_iff_not, true_and]
          exact ⟨hp, fun x => hd' (hanc p x)⟩
      · by_cases e : o.dst = some d
        · rw [e, putO_same, putO_same]
        · rw [putO_other e, putO_other e]
          refine h.agree d fun p hp hd' o' ho' => hd p (by simp [hp]) (fun x => ((hset p).1 x).elim (fun y => hip (y ▸ hp)) hd') o' ho'
end

end Go.Proofs.Ytejdgmdebfkkeaa
