/-
  Matches, StarOf and Find, of the program and of the reference. Own work; no condition.
-/
import Derived.Test.YtoagpmhdgllchaaDScope
namespace Go.Proofs.Ytoagpmhdgllchaa
open Go
set_option linter.unusedSimpArgs false
set_option linter.unusedVariables false


theorem implStarOf_v (c : Scope) (qual : List UInt8) (h : c.wt ≤ 1048576) (s : S) : VCalls Try.prog 12 [c.toV, .str qual] s (fun v s' => v = ints (c.star qual) ∧ s' = s) := by
  simp only [Scope.wt] at h
  have hl := len_slW Named.wt c.names
  refine LCalls.pure Try.func12 rfl (by kernel_rfl) (by simp) ?_
  repeat' first
    | (refine kOps ?_; first | (refine LOps.nil ?_) | (refine LOps.ev tT_ok rfl ?_) | (refine kBox ?_; refine LOps.box rfl rfl rfl rfl ?_) | (refine kBsl ?_; first | (refine LOps.bsl0 tT_ok rfl rfl rfl rfl rfl ?_)) | (refine kLoad ?_; first | (refine LOps.ans (AnsL.loadP tT_ok rfl rfl rfl rfl) ?_)) | (refine kLen ?_; first | (refine LOps.ans (AnsL.lenM tT_ok rfl rfl rfl) ?_)))
    | (refine kWL ?_; first | (refine WL.seq ?_) | (refine WL.region (by kernel_rfl) ?_) | (refine WL.block ?_))
    | (refine lthen_n ?_)
  refine WL.zfam (t := 5) 1 rfl rfl rfl rfl ?_
  refine WL.loopD (fun i : Nat => c.names.length - i) (fun i => [(1, .str qual), (10, .sl 0 (c.names.map Named.toV)), (11, .int .i64 c.names.length), (5, .sl (s.next + 1) ((hits (starP qual) c.names i).map iV)), (12, .int .i64 (i : Int))])
    (fun i => [.var [.sl 0 (c.names.map Named.toV)], .fam (hits (starP qual) c.names i).length 1])
    (fun i => i ≤ c.names.length) 2 0 (by simp) (fun _ => rfl) ⟨rfl, rfl, rfl, rfl, rfl, trivial⟩ rfl (fun i hi => ?_) (fun i hi => ?_)
  · simp [UnderK, UnderX, Own.under, V.under, V.underL]
  have hh := hits_len (starP qual) c.names i
  rcases Nat.lt_or_ge i c.names.length with hlt | hge
  · skip
    repeat' first
      | (refine kOps ?_; first | (refine LOps.nil ?_) | (refine kG ?_; first | (refine LOps.gT rfl rfl rfl ?_) | (refine LOps.gF rfl rfl rfl ?_) | (refine LOps.gC rfl rfl rfl (fun h => ?_) (fun h => ?_))) | (refine kStore ?_; refine LOps.storeP tT_ok rfl rfl rfl rfl rfl rfl rfl rfl rfl ?_) | (refine LOps.ev tT_ok rfl ?_) | (refine kAlloc ?_; refine LOps.alloc tT_ok rfl rfl rfl rfl ?_) | (refine kBsl ?_; first | (refine LOps.bsl tT_ok rfl rfl rfl rfl rfl rfl rfl rfl rfl rfl rfl ?_)) | (refine kApp ?_; first | (refine LOps.app tT_ok rfl rfl rfl rfl rfl rfl rfl rfl rfl rfl rfl ?_ ?_ (AppB.of ?_ rfl) ?_; (focus (first | rfl | (simp <;> fail))); (focus (first | exact Elems.of rfl | exact Elems.map fun _ => rfl | exact PE.els _ (fun _ => rfl) _)); (focus (first | omega | (simp; omega))))) | (refine kLoad ?_; first | (refine LOps.ans (AnsL.loadP tT_ok rfl rfl rfl rfl) ?_)) | (refine kBin ?_; first | (refine LOps.ans (AnsL.add rfl rfl ?_) ?_; (focus (constructor <;> omega)))) | (refine kIdx ?_; first | (refine LOps.ans (AnsL.idxA tT_ok rfl rfl rfl rfl rfl (by omega) rfl rfl) ?_)))
      | (refine kWL ?_; first | (refine WL.seq ?_) | (refine WL.region (by kernel_rfl) ?_) | (refine WL.block ?_) | (refine WL.skip ?_) | (refine kCond ?_; first | (refine WL.condT rfl ?_) | (refine WL.condT' rfl ?_ ?_; (focus (first | (simp only [decide_eq_true_eq, decide_eq_false_iff_not, Bool.not_eq_true', Bool.not_eq_false', Int.ofNat_lt, Int.ofNat_le, Int.ofNat_inj, not_true_eq_false, not_false_eq_true]; omega)))) | (refine WL.cond rfl (fun h => ?_) (fun h => ?_))))
      | (refine lthen_n ?_)
      | (refine lblock_n ?_)
    all_goals
      refine lbackD.of (i + 1) ?_ ?_ ?_ ?_
      · first | omega | (refine ⟨?_, ?_⟩; (focus (first | omega | (simp; omega))); (first | omega | (simp_all [hits_succ hlt, starP, iV] <;> fail) | (simp_all [hits_succ hlt, starP, iV]; omega))) | (simp_all [hits_succ hlt, starP, iV] <;> fail) | (simp_all [hits_succ hlt, starP, iV]; omega)
      · first | omega | (simp; omega) | simp_all
      · repeat' first
          | exact SubL.nil
          | (refine SubL.mk rfl ?_ ?_)
          | rfl
          | (simp [hits_succ hlt, starP, iV, *] <;> fail)
          | (simp [hits_succ hlt, starP, iV, *]; omega)
      · first | rfl | (simp [hits_succ hlt, starP, iV, *] <;> fail) | (simp [hits_succ hlt, starP, iV, *]; omega)
  · skip
    repeat' first
      | (refine kOps ?_; first | (refine LOps.nil ?_) | (refine LOps.ev tT_ok rfl ?_))
      | (refine kWL ?_; first | (refine WL.seq ?_) | (refine WL.region (by kernel_rfl) ?_) | (refine WL.exit ?_) | (refine WL.ret ?_) | (refine kCond ?_; first | (refine WL.condF' rfl ?_ ?_; (focus (first | (simp only [decide_eq_true_eq, decide_eq_false_iff_not, Bool.not_eq_true', Bool.not_eq_false', Int.ofNat_lt, Int.ofNat_le, Int.ofNat_inj, not_true_eq_false, not_false_eq_true]; omega))))))
      | (refine lthen_n ?_)
      | (refine lthen_e ?_)
      | (refine lblock_e ?_)
      | (refine lbackD_e ?_)
      | (refine LPost.r1 (r := .tmp 4) (.inl rfl) (Res1.tmp rfl) ?_)
      | (refine PureR.mk ?_)
    simp [ints, Scope.star, show i = c.names.length by omega]


theorem implMatches_v (c : Scope) (qual name : List UInt8) (h : c.wt ≤ 1048576) (s : S) : VCalls Try.prog 38 [c.toV, .str qual, .str name] s (fun v s' => v = ints (c.matches qual name) ∧ s' = s) := by
  simp only [Scope.wt] at h
  have hl := len_slW Named.wt c.names
  refine LCalls.pure Try.func38 rfl (by kernel_rfl) (by simp) ?_
  repeat' first
    | (refine kOps ?_; first | (refine LOps.nil ?_) | (refine LOps.ev tT_ok rfl ?_) | (refine kBox ?_; refine LOps.box rfl rfl rfl rfl ?_) | (refine kBsl ?_; first | (refine LOps.bsl0 tT_ok rfl rfl rfl rfl rfl ?_)) | (refine kLoad ?_; first | (refine LOps.ans (AnsL.loadP tT_ok rfl rfl rfl rfl) ?_)) | (refine kLen ?_; first | (refine LOps.ans (AnsL.lenM tT_ok rfl rfl rfl) ?_)))
    | (refine kWL ?_; first | (refine WL.seq ?_) | (refine WL.region (by kernel_rfl) ?_) | (refine WL.block ?_))
    | (refine lthen_n ?_)
  refine WL.zfam (t := 7) 1 rfl rfl rfl rfl ?_
  refine WL.loopD (fun i : Nat => c.names.length - i) (fun i => [(1, .str qual), (2, .str name), (12, .sl 0 (c.names.map Named.toV)), (13, .int .i64 c.names.length), (7, .sl (s.next + 1) ((hits (matchP qual name) c.names i).map iV)), (14, .int .i64 (i : Int))])
    (fun i => [.var [.sl 0 (c.names.map Named.toV)], .fam (hits (matchP qual name) c.names i).length 1])
    (fun i => i ≤ c.names.length) 2 0 (by simp) (fun _ => rfl) ⟨rfl, rfl, rfl, rfl, rfl, rfl, trivial⟩ rfl (fun i hi => ?_) (fun i hi => ?_)
  · simp [UnderK, UnderX, Own.under, V.under, V.underL]
  have hh := hits_len (matchP qual name) c.names i
  rcases Nat.lt_or_ge i c.names.length with hlt | hge
  · skip
    repeat' first
      | (refine kOps ?_; first | (refine LOps.nil ?_) | (refine kG ?_; first | (refine LOps.gT rfl rfl rfl ?_) | (refine LOps.gF rfl rfl rfl ?_) | (refine LOps.gU rfl rfl ?_) | (refine LOps.gC rfl rfl rfl (fun h => ?_) (fun h => ?_))) | (refine kStore ?_; refine LOps.storeP tT_ok rfl rfl rfl rfl rfl rfl rfl rfl rfl ?_) | (refine LOps.ev tT_ok rfl ?_) | (refine kAlloc ?_; refine LOps.alloc tT_ok rfl rfl rfl rfl ?_) | (refine kBsl ?_; first | (refine LOps.bsl tT_ok rfl rfl rfl rfl rfl rfl rfl rfl rfl rfl rfl ?_)) | (refine kApp ?_; first | (refine LOps.app tT_ok rfl rfl rfl rfl rfl rfl rfl rfl rfl rfl rfl ?_ ?_ (AppB.of ?_ rfl) ?_; (focus (first | rfl | (simp <;> fail))); (focus (first | exact Elems.of rfl | exact Elems.map fun _ => rfl | exact PE.els _ (fun _ => rfl) _)); (focus (first | omega | (simp; omega))))) | (refine kLoad ?_; first | (refine LOps.ans (AnsL.loadP tT_ok rfl rfl rfl rfl) ?_)) | (refine kBin ?_; first | (refine LOps.ans (AnsL.add rfl rfl ?_) ?_; (focus (constructor <;> omega)))) | (refine kIdx ?_; first | (refine LOps.ans (AnsL.idxA tT_ok rfl rfl rfl rfl rfl (by omega) rfl rfl) ?_)))
      | (refine kWL ?_; first | (refine WL.seq ?_) | (refine WL.region (by kernel_rfl) ?_) | (refine WL.block ?_) | (refine WL.skip ?_) | (refine kCond ?_; first | (refine WL.condT rfl ?_) | (refine WL.condF rfl ?_) | (refine WL.condT' rfl ?_ ?_; (focus (first | (simp only [decide_eq_true_eq, decide_eq_false_iff_not, Bool.not_eq_true', Bool.not_eq_false', Int.ofNat_lt, Int.ofNat_le, Int.ofNat_inj, not_true_eq_false, not_false_eq_true]; omega)))) | (refine WL.cond rfl (fun h => ?_) (fun h => ?_))))
      | (refine lthen_n ?_)
      | (refine lblock_n ?_)
    all_goals
      refine lbackD.of (i + 1) ?_ ?_ ?_ ?_
      · first | omega | (refine ⟨?_, ?_⟩; (focus (first | omega | (simp; omega))); (first | omega | (simp_all [hits_succ hlt, matchP, starP, iV] <;> fail) | (simp_all [hits_succ hlt, matchP, starP, iV]; omega))) | (simp_all [hits_succ hlt, matchP, starP, iV] <;> fail) | (simp_all [hits_succ hlt, matchP, starP, iV]; omega)
      · first | omega | (simp; omega) | simp_all
      · repeat' first
          | exact SubL.nil
          | (refine SubL.mk rfl ?_ ?_)
          | rfl
          | (simp [hits_succ hlt, matchP, starP, iV, *] <;> fail)
          | (simp [hits_succ hlt, matchP, starP, iV, *]; omega)
      · first | rfl | (simp [hits_succ hlt, matchP, starP, iV, *] <;> fail) | (simp [hits_succ hlt, matchP, starP, iV, *]; omega)
  · skip
    repeat' first
      | (refine kOps ?_; first | (refine LOps.nil ?_) | (refine LOps.ev tT_ok rfl ?_))
      | (refine kWL ?_; first | (refine WL.seq ?_) | (refine WL.region (by kernel_rfl) ?_) | (refine WL.exit ?_) | (refine WL.ret ?_) | (refine kCond ?_; first | (refine WL.condF' rfl ?_ ?_; (focus (first | (simp only [decide_eq_true_eq, decide_eq_false_iff_not, Bool.not_eq_true', Bool.not_eq_false', Int.ofNat_lt, Int.ofNat_le, Int.ofNat_inj, not_true_eq_false, not_false_eq_true]; omega))))))
      | (refine lthen_n ?_)
      | (refine lthen_e ?_)
      | (refine lblock_e ?_)
      | (refine lbackD_e ?_)
      | (refine LPost.r1 (r := .tmp 6) (.inl rfl) (Res1.tmp rfl) ?_)
      | (refine PureR.mk ?_)
    simp [ints, Scope.matches, show i = c.names.length by omega]

/-- What is found: which scope, which column of it; and how it went. -/
def findFrom (qual name : List UInt8) : List Scope → Nat → Bind × Int
  | [], _ => (⟨0, 0, 0⟩, 3)
  | s :: env, up => match s.matches qual name with
    | [] => findFrom qual name env (up + 1)
    | [a] => (⟨up, a, (s.names[a.toNat]?.map Named.type).getD 0⟩, 0)
    | _ => (⟨0, 0, 0⟩, 4)
theorem hits_lt {α : Type} {p : α → Bool} {xs : List α} : ∀ {i : Nat} {a : Int}, a ∈ hits p xs i → 0 ≤ a ∧ a < i ∧ a < xs.length
  | 0, a, h => by cases h
  | i + 1, a, h => by
    unfold hits at h
    rcases List.mem_append.1 h with h | h
    · have := hits_lt h; omega
    · split at h
      · rename_i x hx
        have hl := (List.getElem?_eq_some_iff.1 hx).1
        split at h
        · simp at h; omega
        · cases h
      · cases h
def findV (r : Bind × Int) : V := .tup [r.1.toV, .int .i64 r.2]
@[simp] theorem findV_dat (r : Bind × Int) : (findV r).dat = true := by simp [findV]
theorem find_drop {qual name : List UInt8} {env : List Scope} {i : Nat} (h : i < env.length) : findFrom qual name (env.drop i) i = match env[i].matches qual name with
    | [] => findFrom qual name (env.drop (i + 1)) (i + 1)
    | [a] => (⟨i, a, (env[i].names[a.toNat]?.map Named.type).getD 0⟩, 0)
    | _ => (⟨0, 0, 0⟩, 4) := by
  rw [List.drop_eq_getElem_cons h, findFrom]


theorem implFind_v (env : List Scope) (qual name : List UInt8) (h : slW Scope.wt env ≤ 1048576) (s : S) : VCalls Try.prog 11 [.sl 0 (env.map Scope.toV), .str qual, .str name] s (fun v s' => v = findV (findFrom qual name env 0) ∧ s' = s) := by
  have hl := len_slW Scope.wt env
  refine LCalls.pure Try.func11 rfl (by kernel_rfl) (by simp) ?_
  repeat' first
    | (refine kOps ?_; first | (refine LOps.nil ?_) | (refine LOps.ev tT_ok rfl ?_) | (refine kAlloc ?_; refine LOps.alloc tT_ok rfl rfl rfl rfl ?_) | (refine kLen ?_; first | (refine LOps.ans (AnsL.lenM tT_ok rfl rfl rfl) ?_)))
    | (refine kWL ?_; first | (refine WL.seq ?_) | (refine WL.region (by kernel_rfl) ?_) | (refine WL.block ?_))
    | (refine lthen_n ?_)
  refine WL.loopD (fun i : Nat => env.length - i) (fun i => [(1, .str qual), (2, .str name), (6, .ptr (s.next + 0) 0), (11, .sl 0 (env.map Scope.toV)), (12, .int .i64 env.length), (13, .int .i64 (i : Int))])
    (fun i => [.var [.int .i64 0, .int .i64 0, .int .i64 0]])
    (fun i => i ≤ env.length ∧ findFrom qual name env 0 = findFrom qual name (env.drop i) i) 1 0 (by simp) (fun _ => rfl) ⟨rfl, rfl, rfl, rfl, rfl, rfl, trivial⟩ rfl (fun i hi => ?_) (fun i hi => ?_)
  · simp [UnderK, UnderX, Own.under, V.under, V.underL]
  obtain ⟨hi, hc⟩ := hi
  rcases Nat.lt_or_ge i env.length with hlt | hge
  · rw [find_drop hlt] at hc
    have hm := mem_slW (f := Scope.wt) hlt
    cases hr : env[i].matches qual name with
    | nil =>
      simp only [hr] at hc
      have hM : ∀ t, VCalls Try.prog 38 [env[i].toV, .str qual, .str name] t (fun v s' => v = ints [] ∧ s' = t) := fun t => by rw [← hr]; exact implMatches_v _ _ _ (by omega) t
      repeat' first
        | (refine kOps ?_; first | (refine LOps.nil ?_) | (refine kStore ?_; refine LOps.storeP tT_ok rfl rfl rfl rfl rfl rfl rfl rfl rfl ?_) | (refine LOps.ev tT_ok rfl ?_) | (refine kAlloc ?_; refine LOps.alloc tT_ok rfl rfl rfl rfl ?_) | (refine kLoad ?_; first | (refine LOps.ans (AnsL.loadP tT_ok rfl rfl rfl rfl) ?_)) | (refine kLen ?_; first | (refine LOps.ans (AnsL.lenM tT_ok rfl rfl rfl) ?_)) | (refine kBin ?_; first | (refine LOps.ans (AnsL.add rfl rfl ?_) ?_; (focus (constructor <;> omega)))) | (refine kIdx ?_; first | (refine LOps.ans (AnsL.idxA tT_ok rfl rfl rfl rfl rfl (by omega) rfl rfl) ?_)) | (refine kCallN 38 ?_; first | (refine LOps.ans (AnsL.callP rfl rfl rfl (ok38) (hM _)) ?_)))
        | (refine kWL ?_; first | (refine WL.seq ?_) | (refine WL.region (by kernel_rfl) ?_) | (refine WL.block ?_) | (refine WL.skip ?_) | (refine kCond ?_; first | (refine WL.condT rfl ?_) | (refine WL.condT' rfl ?_ ?_; (focus (first | (simp only [decide_eq_true_eq, decide_eq_false_iff_not, Bool.not_eq_true', Bool.not_eq_false', Int.ofNat_lt, Int.ofNat_le, Int.ofNat_inj, not_true_eq_false, not_false_eq_true]; omega))))))
        | (refine lthen_n ?_)
        | (refine lblock_n ?_)
      all_goals
        refine lbackD.of (i + 1) ?_ ?_ ?_ ?_
        · first | omega | (refine ⟨?_, ?_⟩; (focus (first | omega | (simp; omega))); (first | omega | (simp_all [hc] <;> fail) | (simp_all [hc]; omega))) | (simp_all [hc] <;> fail) | (simp_all [hc]; omega)
        · first | omega | (simp; omega) | simp_all
        · repeat' first
            | exact SubL.nil
            | (refine SubL.mk rfl ?_ ?_)
            | rfl
            | (simp [hc] <;> fail)
            | (simp [hc]; omega)
        · first | rfl | (simp [hc] <;> fail) | (simp [hc]; omega)
    | cons a r =>
      cases r with
      | nil =>
        simp only [hr] at hc
        have hM : ∀ t, VCalls Try.prog 38 [env[i].toV, .str qual, .str name] t (fun v s' => v = ints [a] ∧ s' = t) := fun t => by rw [← hr]; exact implMatches_v _ _ _ (by omega) t
        obtain ⟨h1, h2, h3⟩ := hits_lt (p := matchP qual name) (xs := env[i].names) (i := env[i].names.length) (a := a) (by have hr' := hr; unfold Scope.matches at hr'; rw [hr']; simp)
        obtain ⟨k, rfl⟩ := Int.eq_ofNat_of_zero_le h1
        repeat' first
          | (refine kOps ?_; first | (refine LOps.nil ?_) | (refine kStore ?_; refine LOps.storeP tT_ok rfl rfl rfl rfl rfl rfl rfl rfl rfl ?_) | (refine LOps.ev tT_ok rfl ?_) | (refine kAlloc ?_; refine LOps.alloc tT_ok rfl rfl rfl rfl ?_) | (refine kLoad ?_; first | (refine LOps.ans (AnsL.loadP tT_ok rfl rfl rfl rfl) ?_)) | (refine kLen ?_; first | (refine LOps.ans (AnsL.lenM tT_ok rfl rfl rfl) ?_)) | (refine kIdx ?_; first | (refine LOps.ans (AnsL.idxA tT_ok rfl rfl rfl rfl rfl (by omega) rfl rfl) ?_)) | (refine kCallN 38 ?_; first | (refine LOps.ans (AnsL.callP rfl rfl rfl (ok38) (hM _)) ?_)))
          | (refine kWL ?_; first | (refine WL.seq ?_) | (refine WL.region (by kernel_rfl) ?_) | (refine WL.drawn (id := 9) [0, 1, 2, 3, 4, 5, 6, 7, 8, 9, 10, 11, 12, 13, 14] [13] [[], [], [1], [1, 2], [], [4], [], [6], [6, 7], [4, 5, 6, 7, 8], [4, 5, 6, 7, 8, 9], [4, 5, 6, 7, 8, 9, 10], [0, 1, 2, 3, 4, 5, 6, 7, 8, 9, 10, 11], [0, 1, 2, 3, 4, 5, 6, 7, 8, 9, 10, 11, 12], [0, 1, 2, 3, 4, 5, 6, 7, 8, 9, 10, 11, 12, 13]] (by kernel_rfl) (by kernel_rfl) ?_) | (refine WL.block ?_) | (refine WL.skip ?_) | (refine WL.ret ?_) | (refine kCond ?_; first | (refine WL.condT rfl ?_) | (refine WL.condF rfl ?_) | (refine WL.condT' rfl ?_ ?_; (focus (first | (simp only [decide_eq_true_eq, decide_eq_false_iff_not, Bool.not_eq_true', Bool.not_eq_false', Int.ofNat_lt, Int.ofNat_le, Int.ofNat_inj, not_true_eq_false, not_false_eq_true]; omega))))))
          | (refine kDr ?_; first | (refine LDr.nil ?_) | (refine LDr.fl rfl rfl (.ev tT_ok rfl) ?_) | (refine kDLoad rfl ?_; first | (refine LDr.fl rfl rfl (AnsL.loadP tT_ok rfl rfl rfl rfl) ?_)) | (refine kDIdx rfl ?_; first | (refine LDr.fl rfl rfl (AnsL.idxA tT_ok rfl rfl rfl rfl rfl (by omega) rfl rfl) ?_) | (refine LDr.fl rfl rfl (AnsL.idxZ tT_ok rfl rfl rfl rfl rfl ?_ rfl rfl rfl) ?_; (focus (decide)))) | (refine LDr.eff rfl rfl rfl ?_))
          | (refine lthen_n ?_)
          | (refine lthen_r ?_)
          | (refine lblock_r ?_)
          | (refine lbackD_r ?_)
          | (refine LPost.r2 (r := .cell 6 37) (r' := .tmp 7) (.inl rfl) (Res1.cell tT_ok rfl rfl rfl rfl) (Res1.tmp rfl) ?_)
          | (refine PureR.mk ?_)
          | (refine And.intro ?_ ?_)
          | (exact StsL.nil)
        simp [hc, findV, Bind.toV, show k < env[i].names.length by omega]
      | cons b r =>
        simp only [hr] at hc
        have hM : ∀ t, VCalls Try.prog 38 [env[i].toV, .str qual, .str name] t (fun v s' => v = ints (a :: b :: r) ∧ s' = t) := fun t => by rw [← hr]; exact implMatches_v _ _ _ (by omega) t
        have e0 : ¬ ((r.length : Int) + 1 + 1 = 0) := by omega
        have e1 : ¬ ((r.length : Int) + 1 + 1 = 1) := by omega
        have e2 : (1 : Int) < (r.length : Int) + 1 + 1 := by omega
        repeat' first
          | (refine kOps ?_; first | (refine LOps.nil ?_) | (refine kStore ?_; refine LOps.storeP tT_ok rfl rfl rfl rfl rfl rfl rfl rfl rfl ?_) | (refine LOps.ev tT_ok rfl ?_) | (refine kAlloc ?_; refine LOps.alloc tT_ok rfl rfl rfl rfl ?_) | (refine kLoad ?_; first | (refine LOps.ans (AnsL.loadP tT_ok rfl rfl rfl rfl) ?_)) | (refine kLen ?_; first | (refine LOps.ans (AnsL.lenM tT_ok rfl rfl rfl) ?_)) | (refine kIdx ?_; first | (refine LOps.ans (AnsL.idxA tT_ok rfl rfl rfl rfl rfl (by omega) rfl rfl) ?_)) | (refine kCallN 38 ?_; first | (refine LOps.ans (AnsL.callP rfl rfl rfl (ok38) (hM _)) ?_)))
          | (refine kWL ?_; first | (refine WL.seq ?_) | (refine WL.region (by kernel_rfl) ?_) | (refine WL.block ?_) | (refine WL.skip ?_) | (refine WL.ret ?_) | (refine kCond ?_; first | (refine WL.condF rfl ?_) | (refine WL.condT' rfl ?_ ?_; (focus (first | (simp only [decide_eq_true_eq, decide_eq_false_iff_not, Bool.not_eq_true', Bool.not_eq_false', Int.ofNat_lt, Int.ofNat_le, Int.ofNat_inj, not_true_eq_false, not_false_eq_true]; omega))))))
          | (refine lthen_n ?_)
          | (refine lthen_r ?_)
          | (refine lblock_r ?_)
          | (refine lbackD_r ?_)
          | (refine LPost.r2 (r := .cell 6 37) (r' := .tmp 7) (.inl rfl) (Res1.cell tT_ok rfl rfl rfl rfl) (Res1.tmp rfl) ?_)
          | (refine PureR.mk ?_)
        simp [hc, findV, Bind.toV]
  · rw [List.drop_of_length_le hge] at hc
    repeat' first
      | (refine kOps ?_; first | (refine LOps.nil ?_) | (refine kStore ?_; refine LOps.storeP tT_ok rfl rfl rfl rfl rfl rfl rfl rfl rfl ?_) | (refine LOps.ev tT_ok rfl ?_))
      | (refine kWL ?_; first | (refine WL.seq ?_) | (refine WL.region (by kernel_rfl) ?_) | (refine WL.exit ?_) | (refine WL.ret ?_) | (refine kCond ?_; first | (refine WL.condF' rfl ?_ ?_; (focus (first | (simp only [decide_eq_true_eq, decide_eq_false_iff_not, Bool.not_eq_true', Bool.not_eq_false', Int.ofNat_lt, Int.ofNat_le, Int.ofNat_inj, not_true_eq_false, not_false_eq_true]; omega))))))
      | (refine lthen_n ?_)
      | (refine lthen_e ?_)
      | (refine lblock_e ?_)
      | (refine lbackD_e ?_)
      | (refine LPost.r2 (r := .cell 6 37) (r' := .tmp 7) (.inl rfl) (Res1.cell tT_ok rfl rfl rfl rfl) (Res1.tmp rfl) ?_)
      | (refine PureR.mk ?_)
    simp [hc, findV, findFrom, Bind.toV]


end Go.Proofs.Ytoagpmhdgllchaa
