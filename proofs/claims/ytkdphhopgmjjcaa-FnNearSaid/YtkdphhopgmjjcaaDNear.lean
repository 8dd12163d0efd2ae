/-
  Lists of scopes drawn, and the law of near scopes. Own work; no condition.
-/
import Derived.Test.YtkdphhopgmjjcaaDStars
namespace Go.Proofs.Ytkdphhopgmjjcaa
open Go
set_option linter.unusedSimpArgs false
set_option linter.unusedVariables false

def strLe (n : Nat) : V → Bool
  | .str x => decide (x.length ≤ n)
  | _ => false
theorem pick_len {x : List UInt8} {vs : List V} {n : Nat} (h : V.str x ∈ vs) (ha : vs.all (strLe n) = true) : x.length ≤ n := by
  have := List.all_eq_true.1 ha _ h
  simpa [strLe] using this
theorem Hold.extM {s : S} {H : List BE} (h : Hold s s.next H) (xs : List Own) : Hold (s.ext xs) (s.ext xs).next H := by
  obtain ⟨ls, h1, h2, h3⟩ := h.ex
  exact ⟨ls, h1.congr (by rw [ext_next]; omega) fun p hp => .lt (h3 p hp), h2, fun p hp => by rw [ext_next]; have := h3 p hp; omega⟩
theorem LOps.rebM {P : Program} {N : Nat} {ops : Array Oper} {l : List Oper} {K : Kn → S → Prop} {L : Kn} {s : S} {H : List BE} {xs : List Own} (hh : Hold s s.next H) (hk : ∀ s1 : S, Hold s1 s1.next H → LOps P N ops l K L (s1.ext [])) : LOps P N ops l K L (s.ext xs) := by
  rw [← ext_ext_nil]
  exact hk _ (hh.extM xs)
theorem WL.rebM {P : Program} {N : Nat} {c : Code} {Q : Exit → Kn → S → Prop} {L : Kn} {s : S} {H : List BE} {xs : List Own} (hh : Hold s s.next H) (hk : ∀ s1 : S, Hold s1 s1.next H → WL P N c Q L (s1.ext [])) : WL P N c Q L (s.ext xs) := by
  rw [← ext_ext_nil]
  exact hk _ (hh.extM xs)

theorem slW_appN {α : Type} (f : α → Nat) (a b : List α) : slW f (a ++ b) = slW f a + slW f b := by simp [slW, sumW]; omega
theorem slW_consN {α : Type} (f : α → Nat) (a : α) (b : List α) : slW f (a :: b) = 1 + f a + slW f b := by simp [slW, sumW]; omega
theorem specl18Env_d {b : V} (hb : Bytes b) : Drw Try.prog 16 b [] (fun r : List Scope => .sl 0 (r.map Scope.toV)) (fun r => slW Scope.wt r ≤ 400) := by
  intro s H l i h hi hh
  refine VCalls.forgetR ?_
  refine LCalls.body0 Try.func16 rfl (by kernel_rfl) ?_
  repeat' first
    | (refine kCallN 31 ?_ ; first | (refine LOps.drawH 0 rfl rfl ok31 hh rfl rfl ?_ (specl1Below_d hb (by omega)) ?_ ; (focus (first | assumption | omega)) ; intro s x i h hq hi hh ; try dsimp only))
    | (refine kOps ?_; first | (refine LOps.nil ?_) | (refine LOps.ev tT_ok rfl ?_) | (refine kBsl ?_; first | (refine LOps.bsl0 tT_ok rfl rfl rfl rfl rfl ?_)))
    | (refine kWL ?_; first | (refine WL.seq ?_) | (refine WL.region (by kernel_rfl) ?_) | (refine WL.block ?_))
    | (refine lthen_n ?_)
  refine WL.zfamH (t := 3) 1 rfl rfl hh (fun s id hh => ?_)
  replace hh := hh.toFac (i := 0) rfl rfl
  refine WL.loopH (fun y : List Scope × Int × Int => (x - y.1.length).toNat) (fun y => [(0, .ptr l 0), (3, .sl id (y.1.map Scope.toV)), (4, .int .i64 x), (5, .int .i64 (y.1.length : Int))])
    (fun y => .fac id 1 (y.1.map Scope.toV) :: .cell l (curC b y.2.1 y.2.2) :: H)
    (fun y => ((y.1.length : Int) ≤ x ∧ slW Scope.wt y.1 ≤ 61 * y.1.length) ∧ 0 ≤ y.2.1) ([], i, h) ⟨⟨by simp; omega, by simp [slW, sumW]⟩, hi⟩ ⟨rfl, rfl, rfl, rfl, trivial⟩ hh (Sel.refl _) (fun y s hI hh => ?_)
  obtain ⟨rs, i, h⟩ := y
  obtain ⟨⟨hI, hwI⟩, hi⟩ := hI
  dsimp only at hI hwI hi hh ⊢
  by_cases hlt : (rs.length : Int) < x
  · skip
    repeat' first
      | (refine kBsl ?_ ; refine LOps.ans (AnsL.bslF tT_ok rfl rfl rfl rfl rfl rfl rfl rfl rfl) ?_)
      | (refine kApp ?_ ; first | (refine' LOps.appF tT_ok 1 rfl rfl rfl rfl rfl rfl rfl rfl rfl rfl rfl hh ?_ (AppB.of ?_ rfl) ?_ ; (focus ((repeat' first | (exact Elems.of rfl)); done)) ; (focus (first | omega | (simp ; omega))) ; intro s hh))
      | (refine kCallN 32 ?_ ; first | (refine LOps.drawH 1 rfl rfl ok32 hh rfl rfl ?_ (specl18Scope_d hb) ?_ ; (focus (first | assumption | omega)) ; intro s x i h hq hi hh ; try dsimp only))
      | (refine kOps ?_; first | (refine LOps.nil ?_) | (refine LOps.ev tT_ok rfl ?_) | (refine kBin ?_; first | (refine LOps.ans (AnsL.add rfl rfl ?_) ?_; (focus (constructor <;> omega)))))
      | (refine kWL ?_; first | (refine WL.seq ?_) | (refine WL.region (by kernel_rfl) ?_) | (refine WL.block ?_) | (refine WL.skip ?_) | (refine kCond ?_; first | (refine WL.condT' rfl ?_ ?_; (focus (first | (exact decide_eq_true (by assumption)))))))
      | (refine lthen_n ?_)
      | (refine lblock_n ?_)
    rename Scope => sc
    have q1 : sc.wt ≤ 60 := by assumption
    have hi : 0 ≤ i := by assumption
    have hY : rs.map Scope.toV ++ [sc.toV] = (rs ++ [sc]).map Scope.toV := by simp
    rw [hY] at hh
    have hw : slW Scope.wt (rs ++ [sc]) ≤ 61 * (rs ++ [sc]).length := by
      rw [slW_appN, slW_consN]
      simp only [slW, sumW, List.map_nil, List.sum_nil, List.length_cons, List.length_nil, List.length_append] at hwI ⊢
      omega
    refine lbackH.of (rs ++ [sc], i, h) ?_ hh ?_ ⟨⟨by simp; omega, hw⟩, hi⟩ (by simp; omega)
    · dsimp only
      rw [← hY]
      repeat' first | exact SubL.nil | (refine SubL.mk rfl ?_ ?_) | rfl | (simp; omega) | (simp <;> fail)
    · dsimp only
      (repeat' first | (exact Sel.refl _) | (refine Sel.cons 0 rfl rfl ?_) | (refine Sel.cons 1 rfl rfl ?_) | (refine Sel.cons 2 rfl rfl ?_) | (refine Sel.cons 3 rfl rfl ?_) | (refine Sel.drop ?_))
  · skip
    repeat' first
      | (refine kOps ?_; first | (refine LOps.nil ?_) | (refine LOps.ev tT_ok rfl ?_))
      | (refine kWL ?_; first | (refine WL.seq ?_) | (refine WL.region (by kernel_rfl) ?_) | (refine WL.exit ?_) | (refine WL.ret ?_) | (refine kCond ?_; first | (refine WL.condF' rfl ?_ ?_; (focus (first | (exact decide_eq_false (by assumption)))))))
      | (refine lthen_n ?_)
      | (refine lthen_e ?_)
      | (refine lblock_e ?_)
      | (refine lbackH_e ?_)
      | (refine LPost.r1 (r := .tmp 2) (.inl rfl) (Res1.tmp rfl) ?_)
    apply Drw.fin (x := rs) (hh := hh)
    case hv => simp [V.forget, V.forgetL_eq, List.map_map, Function.comp_def]
    case hp => show slW Scope.wt rs ≤ 400; omega
    case hi => exact hi
    case hs => (first | (refine Sel.cons 0 rfl rfl ?_) | (refine Sel.cons 1 rfl rfl ?_) | (refine Sel.cons 2 rfl rfl ?_)); (repeat' first | (exact Sel.refl _) | (refine Sel.drop ?_))
theorem specl18Qual_n {b : V} (hb : Bytes b) : Drw Try.prog 17 b [] V.str (fun x => x.length ≤ 8) := by
  intro s H l i h hi hh
  refine LCalls.body0 Try.func17 rfl (by kernel_rfl) ?_
  repeat' first
    | (refine kBsl ?_ ; refine' LOps.bslH tT_ok rfl rfl rfl rfl rfl rfl rfl rfl hh ?_ ?_ ?_ ; rotate_left 2 ; (focus ((repeat' first | (exact ConsL.pls rfl rfl)); done)) ; (focus ((repeat' first | (exact ElsH.of rfl)); done)) ; intro s n hh)
    | (refine kCallN 18 ?_ ; first | (refine LOps.drawH 1 rfl rfl ok18 hh rfl rfl ?_ (specl1Pick_d hb rfl (by simp)) ?_ ; (focus (first | assumption | omega)) ; intro s x i h hq hi hh ; try dsimp only))
    | (refine kOps ?_; first | (refine LOps.nil ?_) | (refine LOps.ev tT_ok rfl ?_))
    | (refine kWL ?_; first | (refine WL.seq ?_) | (refine WL.region (by kernel_rfl) ?_) | (refine WL.ret ?_))
    | (refine lthen_n ?_)
    | (refine LPost.r1 (r := .tmp 2) (.inl rfl) (Res1.tmp rfl) ?_)
  all_goals
    apply Drw.fin (hh := hh)
    case hv => first | exact Val.agg_eq _ _ _ | rfl
    case hs => (first | (refine Sel.cons 0 rfl rfl ?_) | (refine Sel.cons 1 rfl rfl ?_) | (refine Sel.cons 2 rfl rfl ?_) | (refine Sel.cons 3 rfl rfl ?_) | (refine Sel.cons 4 rfl rfl ?_) | (refine Sel.cons 5 rfl rfl ?_) | (refine Sel.cons 6 rfl rfl ?_) | (refine Sel.cons 7 rfl rfl ?_)); (repeat' first | (exact Sel.refl _) | (refine Sel.drop ?_))
    case hi => first | assumption | omega | (simp; omega)
    case hp => exact pick_len (n := 8) (by assumption) rfl
theorem specDrawFind_d {b : V} (hb : Bytes b) : DrwAll Try.prog 6 b (fun x : List Scope × List UInt8 × List UInt8 => V.tup [.sl 0 (x.1.map Scope.toV), .str x.2.1, .str x.2.2]) (fun x => slW Scope.wt x.1 ≤ 400 ∧ x.2.1.length ≤ 8 ∧ x.2.2.length ≤ 8) := by
  intro s H hh
  refine LCalls.body0 Try.func6 rfl (by kernel_rfl) ?_
  repeat' first
    | (refine kBsl ?_ ; refine' LOps.bslH tT_ok rfl rfl rfl rfl rfl rfl rfl rfl hh ?_ ?_ ?_ ; rotate_left 2 ; (focus ((repeat' first | (exact ConsL.pls rfl rfl)); done)) ; (focus ((repeat' first | (exact ElsH.of rfl)); done)) ; intro s n hh)
    | (refine kCallN 15 ?_ ; refine LOps.drawNew rfl rfl ok15 hh (specl1New_d hb) ?_ ; intro s m h hh)
    | (refine kCallN 16 ?_ ; first | (refine LOps.drawH 0 rfl rfl ok16 hh rfl rfl ?_ (specl18Env_d hb) ?_ ; (focus (first | assumption | omega)) ; intro s x i h hq hi hh ; try dsimp only))
    | (refine kCallN 17 ?_ ; first | (refine LOps.drawH 0 rfl rfl ok17 hh rfl rfl ?_ (specl18Qual_n hb) ?_ ; (focus (first | assumption | omega)) ; intro s x i h hq hi hh ; try dsimp only))
    | (refine kCallN 18 ?_ ; first | (refine LOps.drawH 1 rfl rfl ok18 hh rfl rfl ?_ (specl1Pick_d hb rfl (by simp)) ?_ ; (focus (first | assumption | omega)) ; intro s x i h hq hi hh ; try dsimp only))
    | (refine kOps ?_; first | (refine LOps.nil ?_) | (refine LOps.ev tT_ok rfl ?_))
    | (refine kWL ?_; first | (refine WL.seq ?_) | (refine WL.region (by kernel_rfl) ?_) | (refine WL.ret ?_))
    | (refine lthen_n ?_)
    | (refine LPost.r3 (r := .tmp 2) (r' := .tmp 3) (r'' := .tmp 4) (.inl rfl) (Res1.tmp rfl) (Res1.tmp rfl) (Res1.tmp rfl) ?_)
  rename_i s1 en i1 h1 q1 p1 g1 s2 qu i2 h2 q2 p2 g2 s3 g3
  exact DrwAll.fin (x := (en, qu, x)) ⟨q1, q2, pick_len (n := 8) (by assumption) rfl⟩ rfl hh (by repeat' first | (exact Sel.refl _) | (refine Sel.drop ?_))

theorem VCalls.lookF {P : Program} {f : FuncId} {vs ds : List V} {a b c d : Int} {s : S} (hrd : RdL s vs ds) (h : ∀ t, VCalls P f ds t (fun v t' => v = .tup [.agg [.int .i64 a, .int .i64 b, .int .i64 c], .int .i64 d] ∧ t' = t)) : VCalls P f vs s (fun v s' => v = .tup [.agg [.int .i64 a, .int .i64 b, .int .i64 c], .int .i64 d] ∧ s' = s) := by
  have e1 : ∀ n, thw n (.tup [.agg [.int .i64 a, .int .i64 b, .int .i64 c], .int .i64 d]) = (.tup [.agg [.int .i64 a, .int .i64 b, .int .i64 c], .int .i64 d], []) := fun n => rfl
  have := VCalls.lend2 (d := .tup [.agg [.int .i64 a, .int .i64 b, .int .i64 c], .int .i64 d]) hrd fun t => (h t).mono fun v t' hv => by
    obtain ⟨rfl, rfl⟩ := hv
    exact ⟨[], .tup (.cons (.agg (.cons (.scal rfl) (.cons (.scal rfl) (.cons (.scal rfl) .nil)))) (.cons (.scal rfl) .nil)), List.nodup_nil⟩
  intro E vals h1 h2
  have e2 : s.ext [] = s := ext_nil h1
  refine (this.mono fun v s' hv => ?_) E vals h1 h2
  obtain ⟨rfl, rfl⟩ := hv
  rw [thawed, e1]
  exact ⟨rfl, e2⟩
theorem find_up (qual name : List UInt8) : ∀ (env : List Scope) (k : Nat), 0 ≤ (findFrom qual name env k).1.up ∧ (findFrom qual name env k).1.up ≤ k + env.length
  | [], k => by simp [findFrom]
  | s :: env, k => by
    have ih := find_up qual name env (k + 1)
    unfold findFrom
    split
    · simp only [List.length_cons]; omega
    · simp only [List.length_cons]; omega
    · simp only [List.length_cons]; omega
theorem find_shift (qual name : List UInt8) : ∀ (env : List Scope) (k : Nat), findFrom qual name env (k + 1) = if (findFrom qual name env k).2 = 0 then (⟨(findFrom qual name env k).1.up + 1, (findFrom qual name env k).1.pos, (findFrom qual name env k).1.type⟩, 0) else findFrom qual name env k
  | [], k => by simp [findFrom]
  | s :: env, k => by
    have ih := find_shift qual name env (k + 1)
    unfold findFrom
    split
    · exact ih
    · simp
    · simp
theorem find_more (qual name : List UInt8) (env : List Scope) : findFrom qual name (⟨[]⟩ :: env) 0 = findFrom qual name env 1 := by
  rw [findFrom]
  rfl
theorem find_own (qual name : List UInt8) (env : List Scope) : findFrom qual name (⟨[⟨qual, name, 2⟩]⟩ :: env) 0 = (⟨0, 0, 2⟩, 0) := by
  have h : Scope.matches ⟨[⟨qual, name, 2⟩]⟩ qual name = [0] := by
    simp [Scope.matches, hits, matchP, starP]
  rw [findFrom, h]
  simp
theorem lawNearL_v {b : V} (hb : Bytes b) (s : S) : VCalls Try.prog 3 [b] s (fun v _ => v = .bool true) := by
  obtain ⟨c, hbig⟩ := big_v hb
  have hh : Hold s s.next [] := .start _ _
  refine LCalls.body Try.func3 rfl (by kernel_rfl) ?_
  cases c
  · skip
    repeat' first
      | (refine kCallN 6 ?_ ; refine LOps.drawAll rfl rfl ok6 hh (specDrawFind_d hb) ?_ ; intro s x hq hh)
      | (refine kOps ?_; first | (refine LOps.nil ?_) | (refine LOps.ev tT_ok rfl ?_) | (refine kCallN 5 ?_; first | (refine LOps.ans (AnsL.callP rfl rfl rfl (ok5) (hbig _)) ?_)))
      | (refine kWL ?_; first | (refine WL.seq ?_) | (refine WL.region (by kernel_rfl) ?_) | (refine WL.skip ?_) | (refine kCond ?_; first | (refine WL.condF rfl ?_)))
      | (refine lthen_n ?_)
    obtain ⟨env, q, n⟩ := x
    obtain ⟨hw, hq1, hq2⟩ := hq
    have hl := len_slW Scope.wt env
    try dsimp only at hw hq1 hq2 hh ⊢
    have hF := fun t => implFind_v env q n (by omega) t
    have hS := fun t => specFind_v env q n (by omega) t
    have hM := fun t => implFind_v (⟨[]⟩ :: env) q n (by rw [slW_consN]; simp only [Scope.wt, slW, sumW, List.map_nil, List.sum_nil, List.length_nil] at hw ⊢; omega) t
    have hO := fun t => implFind_v (⟨[⟨q, n, 2⟩]⟩ :: env) q n (by rw [slW_consN]; simp only [Scope.wt, Named.wt, slW, sumW, List.map_cons, List.map_nil, List.sum_cons, List.sum_nil, List.length_cons, List.length_nil] at hw ⊢; omega) t
    rw [find_own] at hO
    rw [find_more, find_shift] at hM
    have hup := find_up q n env 0
    generalize findFrom q n env 0 = r at hF hS hM hup
    obtain ⟨⟨u, a, ty⟩, w⟩ := r
    dsimp only at hM hup
    have hpE : V.plainL (env.map Scope.toV) = true := by
      have := plain_ScopeS env
      simp only [V.plain, Bool.and_eq_true] at this
      exact this.2
    have hR1 : ∀ (i : Nat) (t : S), RdL t [.sl i (.agg [.nilsl] :: env.map Scope.toV), .str q, .str n] [.sl 0 ((⟨[]⟩ : Scope).toV :: env.map Scope.toV), .str q, .str n] := fun i t =>
      .cons (.sl (.cons (.agg (.cons .nilsl .nil)) (RdL.plain _ hpE))) (.cons (.scal rfl) (.cons (.scal rfl) .nil))
    have hR2 : ∀ (i j : Nat) (t : S), RdL t [.sl i (.agg [.sl j [.agg [.str q, .str n, .int .i64 2]]] :: env.map Scope.toV), .str q, .str n] [.sl 0 ((⟨[⟨q, n, 2⟩]⟩ : Scope).toV :: env.map Scope.toV), .str q, .str n] := fun i j t =>
      .cons (.sl (.cons (.agg (.cons (.sl (.cons (.agg (.cons (.scal rfl) (.cons (.scal rfl) (.cons (.scal rfl) .nil)))) .nil)) .nil)) (RdL.plain _ hpE))) (.cons (.scal rfl) (.cons (.scal rfl) .nil))
    by_cases hw0 : w = 0
    · subst hw0
      rw [if_pos rfl] at hM
      replace hF : ∀ s, VCalls Try.prog 7 [.sl 0 (env.map Scope.toV), .str q, .str n] s (fun v s' => v = .tup [.agg [.int .i64 (u), .int .i64 (a), .int .i64 (ty)], .int .i64 (0)] ∧ s' = s) := hF
      replace hS : ∀ s, VCalls Try.prog 8 [.sl 0 (env.map Scope.toV), .str q, .str n] s (fun v s' => v = .tup [.agg [.int .i64 (u), .int .i64 (a), .int .i64 (ty)], .int .i64 (0)] ∧ s' = s) := hS
      replace hM : ∀ s, VCalls Try.prog 7 [.sl 0 ((⟨[]⟩ : Scope).toV :: env.map Scope.toV), .str q, .str n] s (fun v s' => v = .tup [.agg [.int .i64 (u + 1), .int .i64 (a), .int .i64 (ty)], .int .i64 (0)] ∧ s' = s) := hM
      replace hO : ∀ s, VCalls Try.prog 7 [.sl 0 ((⟨[⟨q, n, 2⟩]⟩ : Scope).toV :: env.map Scope.toV), .str q, .str n] s (fun v s' => v = .tup [.agg [.int .i64 (0), .int .i64 (0), .int .i64 (2)], .int .i64 (0)] ∧ s' = s) := hO
      repeat' first
        | (refine kAlloc ?_ ; refine LOps.allocH tT_ok hh rfl rfl ?_ ; intro s n hh)
        | (refine kStore ?_ ; first | (refine LOps.storeH tT_ok 0 hh rfl rfl rfl rfl rfl rfl rfl rfl rfl ?_ ; intro s hh))
        | (refine kOps ?_; first | (refine LOps.nil ?_) | (refine LOps.ev tT_ok rfl ?_) | (refine kBsl ?_; first | (refine LOps.bsl tT_ok rfl rfl rfl rfl rfl rfl rfl rfl rfl rfl rfl ?_)) | (refine kApp ?_; first | (refine LOps.app tT_ok rfl rfl rfl rfl rfl rfl rfl rfl rfl rfl rfl ?_ ?_ (AppB.of ?_ rfl) ?_; (focus (first | rfl)); (focus (first | exact Elems.of rfl | exact Elems.map fun _ => rfl | exact PE.els _ (fun _ => rfl) _)); (focus (first | omega | (simp; omega))))) | (refine kCall ?_; first | (refine LOps.ans (AnsL.callP rfl rfl rfl ok7 (hF _)) ?_) | (refine LOps.ans (AnsL.callP rfl rfl rfl ok8 (hS _)) ?_)))
        | (refine kWL ?_; first | (refine WL.seq ?_) | (refine WL.region (by kernel_rfl) ?_) | (refine WL.skip ?_) | (refine kCond ?_; first | (refine WL.condF rfl ?_)))
        | (refine lthen_n ?_)
      refine LOps.rebM hh fun s hh => ?_
      repeat' first
        | (refine kAlloc ?_ ; refine LOps.allocH tT_ok hh rfl rfl ?_ ; intro s n hh)
        | (refine kStore ?_ ; first | (refine LOps.storeH tT_ok 0 hh rfl rfl rfl rfl rfl rfl rfl rfl rfl ?_ ; intro s hh))
        | (refine kOps ?_; first | (refine LOps.nil ?_) | (refine kG ?_; first | (refine LOps.gT rfl rfl rfl ?_) | (refine LOps.gD false rfl rfl rfl ?_ ?_; (focus (first | (simp <;> fail))))) | (refine LOps.ev tT_ok rfl ?_) | (refine kBsl ?_; first | (refine LOps.bsl tT_ok rfl rfl rfl rfl rfl rfl rfl rfl rfl rfl rfl ?_)) | (refine kApp ?_; first | (refine LOps.app tT_ok rfl rfl rfl rfl rfl rfl rfl rfl rfl rfl rfl ?_ ?_ (AppB.of ?_ rfl) ?_; (focus (first | rfl)); (focus (first | exact Elems.of rfl | exact Elems.map fun _ => rfl | exact PE.els _ (fun _ => rfl) _)); (focus (first | omega | (simp; omega))))) | (refine kLoad ?_; first | (refine LOps.ans (AnsL.loadH tT_ok 0 hh rfl rfl rfl rfl) ?_) | (refine LOps.ans (AnsL.loadH tT_ok 2 hh rfl rfl rfl rfl) ?_)) | (refine kBin ?_; first | (refine LOps.ans (AnsL.add rfl rfl ?_) ?_; (focus (constructor <;> omega)))) | (refine kCall ?_; first | (refine LOps.ans (AnsL.callP rfl rfl rfl ok7 (VCalls.lookF (hR1 _ _) hM)) ?_)))
        | (refine kWL ?_; first | (refine WL.seq ?_) | (refine WL.region (by kernel_rfl) ?_) | (refine WL.skip ?_) | (refine kCond ?_; first | (refine WL.condF' rfl ?_ ?_; (focus (first | (simp <;> fail))))))
        | (refine lthen_n ?_)
      refine LOps.rebM hh fun s hh => ?_
      repeat' first
        | (refine kAlloc ?_ ; refine LOps.allocH tT_ok hh rfl rfl ?_ ; intro s n hh)
        | (refine kStore ?_ ; first | (refine LOps.storeH tT_ok 0 hh rfl rfl rfl rfl rfl rfl rfl rfl rfl ?_ ; intro s hh))
        | (refine kOps ?_; first | (refine LOps.nil ?_) | (refine kG ?_; first | (refine LOps.gT rfl rfl rfl ?_)) | (refine LOps.ev tT_ok rfl ?_) | (refine kLoad ?_; first | (refine LOps.ans (AnsL.loadH tT_ok 0 hh rfl rfl rfl rfl) ?_)) | (refine kCall ?_; first | (refine LOps.ans (AnsL.callP rfl rfl rfl ok7 (VCalls.lookF (hR2 _ _ _) hO)) ?_)))
        | (refine kWL ?_; first | (refine WL.seq ?_) | (refine WL.region (by kernel_rfl) ?_) | (refine WL.ret ?_))
        | (refine lthen_n ?_)
        | (refine LPost.r1 (r := .tmp 2) (.inl rfl) (Res1.tmp rfl) ?_)
      all_goals simp
    · rw [if_neg hw0] at hM
      replace hF : ∀ s, VCalls Try.prog 7 [.sl 0 (env.map Scope.toV), .str q, .str n] s (fun v s' => v = .tup [.agg [.int .i64 (u), .int .i64 (a), .int .i64 (ty)], .int .i64 (w)] ∧ s' = s) := hF
      replace hS : ∀ s, VCalls Try.prog 8 [.sl 0 (env.map Scope.toV), .str q, .str n] s (fun v s' => v = .tup [.agg [.int .i64 (u), .int .i64 (a), .int .i64 (ty)], .int .i64 (w)] ∧ s' = s) := hS
      replace hM : ∀ s, VCalls Try.prog 7 [.sl 0 ((⟨[]⟩ : Scope).toV :: env.map Scope.toV), .str q, .str n] s (fun v s' => v = .tup [.agg [.int .i64 (u), .int .i64 (a), .int .i64 (ty)], .int .i64 (w)] ∧ s' = s) := hM
      replace hO : ∀ s, VCalls Try.prog 7 [.sl 0 ((⟨[⟨q, n, 2⟩]⟩ : Scope).toV :: env.map Scope.toV), .str q, .str n] s (fun v s' => v = .tup [.agg [.int .i64 (0), .int .i64 (0), .int .i64 (2)], .int .i64 (0)] ∧ s' = s) := hO
      repeat' first
        | (refine kAlloc ?_ ; refine LOps.allocH tT_ok hh rfl rfl ?_ ; intro s n hh)
        | (refine kStore ?_ ; first | (refine LOps.storeH tT_ok 0 hh rfl rfl rfl rfl rfl rfl rfl rfl rfl ?_ ; intro s hh))
        | (refine kOps ?_; first | (refine LOps.nil ?_) | (refine LOps.ev tT_ok rfl ?_) | (refine kBsl ?_; first | (refine LOps.bsl tT_ok rfl rfl rfl rfl rfl rfl rfl rfl rfl rfl rfl ?_)) | (refine kApp ?_; first | (refine LOps.app tT_ok rfl rfl rfl rfl rfl rfl rfl rfl rfl rfl rfl ?_ ?_ (AppB.of ?_ rfl) ?_; (focus (first | rfl)); (focus (first | exact Elems.of rfl | exact Elems.map fun _ => rfl | exact PE.els _ (fun _ => rfl) _)); (focus (first | omega | (simp; omega))))) | (refine kCall ?_; first | (refine LOps.ans (AnsL.callP rfl rfl rfl ok7 (hF _)) ?_) | (refine LOps.ans (AnsL.callP rfl rfl rfl ok8 (hS _)) ?_)))
        | (refine kWL ?_; first | (refine WL.seq ?_) | (refine WL.region (by kernel_rfl) ?_) | (refine WL.skip ?_) | (refine kCond ?_; first | (refine WL.condF' rfl ?_ ?_; (focus (first | (simp <;> fail))))))
        | (refine lthen_n ?_)
      refine LOps.rebM hh fun s hh => ?_
      repeat' first
        | (refine kAlloc ?_ ; refine LOps.allocH tT_ok hh rfl rfl ?_ ; intro s n hh)
        | (refine kStore ?_ ; first | (refine LOps.storeH tT_ok 0 hh rfl rfl rfl rfl rfl rfl rfl rfl rfl ?_ ; intro s hh))
        | (refine kOps ?_; first | (refine LOps.nil ?_) | (refine kG ?_; first | (refine LOps.gT rfl rfl rfl ?_) | (refine LOps.gF rfl rfl rfl ?_) | (refine LOps.gU rfl rfl ?_) | (refine LOps.gD false rfl rfl rfl ?_ ?_; (focus (first | (exact decide_eq_false (by assumption)) | (simp <;> fail))))) | (refine LOps.ev tT_ok rfl ?_) | (refine kBsl ?_; first | (refine LOps.bsl tT_ok rfl rfl rfl rfl rfl rfl rfl rfl rfl rfl rfl ?_)) | (refine kApp ?_; first | (refine LOps.app tT_ok rfl rfl rfl rfl rfl rfl rfl rfl rfl rfl rfl ?_ ?_ (AppB.of ?_ rfl) ?_; (focus (first | rfl)); (focus (first | exact Elems.of rfl | exact Elems.map fun _ => rfl | exact PE.els _ (fun _ => rfl) _)); (focus (first | omega | (simp; omega))))) | (refine kCall ?_; first | (refine LOps.ans (AnsL.callP rfl rfl rfl ok7 (VCalls.lookF (hR1 _ _) hM)) ?_)))
        | (refine kWL ?_; first | (refine WL.seq ?_) | (refine WL.region (by kernel_rfl) ?_) | (refine WL.skip ?_) | (refine kCond ?_; first | (refine WL.condF rfl ?_)))
        | (refine lthen_n ?_)
      refine LOps.rebM hh fun s hh => ?_
      repeat' first
        | (refine kAlloc ?_ ; refine LOps.allocH tT_ok hh rfl rfl ?_ ; intro s n hh)
        | (refine kStore ?_ ; first | (refine LOps.storeH tT_ok 0 hh rfl rfl rfl rfl rfl rfl rfl rfl rfl ?_ ; intro s hh))
        | (refine kOps ?_; first | (refine LOps.nil ?_) | (refine kG ?_; first | (refine LOps.gT rfl rfl rfl ?_)) | (refine LOps.ev tT_ok rfl ?_) | (refine kLoad ?_; first | (refine LOps.ans (AnsL.loadH tT_ok 0 hh rfl rfl rfl rfl) ?_)) | (refine kCall ?_; first | (refine LOps.ans (AnsL.callP rfl rfl rfl ok7 (VCalls.lookF (hR2 _ _ _) hO)) ?_)))
        | (refine kWL ?_; first | (refine WL.seq ?_) | (refine WL.region (by kernel_rfl) ?_) | (refine WL.ret ?_))
        | (refine lthen_n ?_)
        | (refine LPost.r1 (r := .tmp 2) (.inl rfl) (Res1.tmp rfl) ?_)
      all_goals simp
  · skip
    repeat' first
      | (refine kOps ?_; first | (refine LOps.nil ?_) | (refine LOps.ev tT_ok rfl ?_) | (refine kCallN 5 ?_; first | (refine LOps.ans (AnsL.callP rfl rfl rfl (ok5) (hbig _)) ?_)))
      | (refine kWL ?_; first | (refine WL.seq ?_) | (refine WL.region (by kernel_rfl) ?_) | (refine WL.ret ?_) | (refine kCond ?_; first | (refine WL.condT rfl ?_)))
      | (refine lthen_n ?_)
      | (refine lthen_r ?_)
      | (refine LPost.r1 (r := .tmp 2) (.inl rfl) (Res1.tmp rfl) ?_)
    rfl

end Go.Proofs.Ytkdphhopgmjjcaa
