/-
 Typed plans drawn from a string of bytes. Own work; no condition.
-/
import Derived.Test.YtolhegocbkckdaaDTd4
import Derived.Test.YtolhegocbkckdaaDDb
namespace Go.Proofs.Ytolhegocbkckdaa
open Go
set_option linter.unusedSimpArgs false
set_option linter.unusedVariables false
theorem VCalls.pureLendT {P : Program} {f : FuncId} {vs ds us : List V} {s : S} {H : List BE} (hh : Hold s s.next H) (hrd : RdH H vs ds) (hd : V.plainL us = true) (h : ∀ t, VCalls P f ds t (fun v t' => Own2 (.tup us) v t')) : VCalls P f vs (s.ext []) (fun v s' => v = .tup us ∧ s' = s.ext []) := by
 have hdat : V.dat (.tup us) = true := by
   have := plain_dat (.agg us) hd
   simpa [V.dat] using this
 have hfg : V.forget (.tup us) = .tup us := by
   have := plain_forget (.agg us) hd
   simp only [V.forget, V.agg.injEq] at this
   simp only [V.forget, this]
 refine VCalls.pure hdat (VCalls.turn (VCalls.lend2 (hrd.rd hh) h) ?_)
 rintro v s' _ ⟨rfl, rfl⟩
 have k := VTurn.thaw (s.ext []) (d := .agg us) hd
 exact ⟨.tup us, _, k.tup, hfg, fun l hl => ext_vars_lt _ _ hl, fun l hl => ext_fams_lt _ _ hl⟩
theorem rwV_eq (r : List Int) : rwV r = ints r := rfl
theorem specl20Env_w (row : List Int) (env : List (List Int)) (h : env.length ≤ 16777216) (s : S) : VCalls Try.prog 120 [ints row, envW env] s (fun v s' => v = envW (row :: env) ∧ s' = s) := by
 refine LCalls.pure Try.func120 rfl (by kernel_rfl) (by simp [rwV]) ?_
 repeat' first | (refine kOps ?_; first | (refine LOps.nil ?_) | (refine LOps.ev tT_ok rfl ?_) | (refine kBsl ?_; first | (refine LOps.bsl tT_ok rfl rfl rfl rfl rfl rfl rfl rfl rfl rfl rfl ?_)) | (refine kApp ?_; first | (refine LOps.app tT_ok rfl rfl rfl rfl rfl rfl rfl rfl rfl rfl rfl ?_ ?_ (AppB.of ?_ rfl) ?_; (focus (first | rfl)); (focus (first | exact Elems.of rfl | exact Elems.map fun _ => rfl | exact PE.els _ (fun _ => rfl) _)); (focus (first | omega | (simp; omega)))))) | (refine kWL ?_; first | (refine WL.seq ?_) | (refine WL.region (by kernel_rfl) ?_) | (refine WL.ret ?_)) | (refine lthen_n ?_) | (refine LPost.r1 (r := .tmp 4) (.inl rfl) (Res1.tmp rfl) ?_) | (refine PureR.mk ?_)
 simp [V.forget, V.forgetL_eq, List.map_map, Function.comp_def, rwV, iV, ints]
theorem rowsOf_small (c : Cat) (h : ∀ t ∈ c.tables, t.small) (ts : List Int) : (rowsOf c ts).length ≤ 3 * ts.length := by
 induction ts with
 | nil => simp [rowsOf]
 | cons k ts ih =>
   have e : rowsOf c (k :: ts) = (c.tables[k.toNat]?.map Tab.types).getD [] ++ rowsOf c ts := by simp [rowsOf]
   have e2 : ((c.tables[k.toNat]?.map Tab.types).getD []).length ≤ 3 := by
     cases hk : c.tables[k.toNat]? with
     | none => simp
     | some t =>
       have := (h t (List.mem_of_getElem? hk)).2.1
       simpa [Tab.types] using this
   rw [e, List.length_append, List.length_cons]
   omega
theorem rowTy_small (c : Cat) (h : ∀ t ∈ c.tables, t.small) (ts : List Int) : (rowTy c ts).1.length ≤ 3 * ts.length := by
 unfold rowTy
 split
 · exact rowsOf_small c h ts
 · simp
theorem EnvS.cons {row : List Int} {env : List (List Int)} {n : Nat} (h : env.length ≤ n) (hn : n + 1 ≤ 1000) (he : ∀ r ∈ env, r.length ≤ 1000) (hr : row.length ≤ 1000) : EnvS (row :: env) := by
 refine ⟨by simp only [List.length_cons]; omega, fun r hm => ?_⟩
 rcases List.mem_cons.1 hm with rfl | hm
 · exact hr
 · exact he r hm
theorem Cat.small_wt {c : Cat} (h1 : c.tables.length ≤ 3) (h : ∀ t ∈ c.tables, t.small) : c.wt ≤ 100 := by
 have e : ∀ l : List Tab, (∀ t ∈ l, t.small) → slW Tab.wt l ≤ l.length * 23 := by
   intro l hl
   induction l with
   | nil => exact Nat.le_refl _
   | cons t l ih =>
     have a1 := Tab.small_wt (hl t (by simp))
     have a2 := ih fun x hx => hl x (by simp [hx])
     have a3 : slW Tab.wt (t :: l) = l.length + 1 + (t.wt + sumW Tab.wt l) := by simp [slW, sumW]
     have a4 : slW Tab.wt l = l.length + sumW Tab.wt l := rfl
     simp only [List.length_cons]
     omega
 have a := e c.tables h
 have m : c.tables.length * 23 ≤ 3 * 23 := Nat.mul_le_mul_right _ h1
 show slW Tab.wt c.tables ≤ 100
 omega
end Go.Proofs.Ytolhegocbkckdaa
