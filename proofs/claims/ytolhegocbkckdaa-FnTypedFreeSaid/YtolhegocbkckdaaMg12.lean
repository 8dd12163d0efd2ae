/-
  The plain types of the laws, continued. Printed by a program of our own; no condition.
  Tables, columns and scopes looked up by name, of the program and of the reference.
  What marks data and what finds it marked.
  Own work; no condition.
-/
import Derived.Test.YtolhegocbkckdaaMg11
import Derived.Test.YtolhegocbkckdaaMg10
namespace Go.Proofs.Ytolhegocbkckdaa
open Go
set_option linter.unusedSimpArgs false
set_option linter.unusedVariables false
end Go.Proofs.Ytolhegocbkckdaa

namespace Go.Proofs.Ytolhegocbkckdaa
open Go
set_option linter.unusedSimpArgs false
set_option linter.unusedVariables false
def ints (l : List Int) : V := .sl 0 (l.map iV)
@[simp] theorem ints_dat (l : List Int) : (ints l).dat = true := by simp [ints]
@[simp] theorem ints_forget (l : List Int) : (ints l).forget = ints l := by simp [ints]
def findI {α : Type} (p : α → Bool) : List α → Int → Int
 | [], _ => -1
 | x :: xs, i => if p x then i else findI p xs (i + 1)
theorem findI_drop {α : Type} {p : α → Bool} {xs : List α} {i : Nat} (h : i < xs.length) : findI p (xs.drop i) i = if p xs[i] then (i : Int) else findI p (xs.drop (i + 1)) ((i + 1 : Nat) : Int) := by
 rw [List.drop_eq_getElem_cons h, findI]; rfl
theorem findI_end {α : Type} {p : α → Bool} {xs : List α} {i : Nat} (h : xs.length ≤ i) (n : Int) : findI p (xs.drop i) n = -1 := by rw [List.drop_of_length_le h]; rfl
def hits {α : Type} (p : α → Bool) (xs : List α) : Nat → List Int
 | 0 => []
 | i + 1 => hits p xs i ++ (match xs[i]? with | some x => if p x then [(i : Int)] else [] | none => [])
theorem hits_succ {α : Type} {p : α → Bool} {xs : List α} {i : Nat} (h : i < xs.length) : hits p xs (i + 1) = hits p xs i ++ (if p xs[i] then [(i : Int)] else []) := by
 rw [hits, List.getElem?_eq_getElem h]
def tableP (name : List UInt8) (t : Tab) : Bool := decide (t.name = name)
def colP (name : List UInt8) (t : Col) : Bool := decide (t.name = name)
def Cat.at (c : Cat) (name : List UInt8) : Int := findI (tableP name) c.tables 0
def Tab.at (t : Tab) (name : List UInt8) : Int := findI (colP name) t.cols 0
def starP (qual : List UInt8) (x : Named) : Bool := decide (qual = []) || decide (x.qual = qual)
def matchP (qual name : List UInt8) (x : Named) : Bool := decide (x.name = name) && starP qual x
def Scope.star (s : Scope) (qual : List UInt8) : List Int := hits (starP qual) s.names s.names.length
def Scope.matches (s : Scope) (qual name : List UInt8) : List Int := hits (matchP qual name) s.names s.names.length
theorem specColAt_v (c : Tab) (name : List UInt8) (h : c.wt ≤ 1048576) (s : S) : VCalls Try.prog 94 [c.toV, .str name] s (fun v s' => v = .int .i64 (c.at name) ∧ s' = s) := by
 simp only [Tab.wt] at h
 have hl := len_slW Col.wt c.cols
 refine LCalls.pure Try.func94 rfl (by kernel_rfl) (by simp) ?_
 repeat' first | (refine kOps ?_; first | (refine LOps.nil ?_) | (refine LOps.ev tT_ok rfl ?_) | (refine kBox ?_; refine LOps.box rfl rfl rfl rfl ?_)) | (refine kWL ?_; first | (refine WL.seq ?_) | (refine WL.region (by kernel_rfl) ?_) | (refine WL.block ?_)) | (refine lthen_n ?_)
 refine WL.loopD (fun i : Nat => c.cols.length - i) (fun i => [(1, .str name), (2, .ptr (s.next + 0) 0), (5, .int .i64 (i : Int))]) (fun i => [.var [.str c.name, .sl 0 (c.cols.map Col.toV)]])
   (fun i => i ≤ c.cols.length ∧ c.at name = findI (colP name) (c.cols.drop i) i) 1 0 ⟨by simp, rfl⟩ (fun _ => rfl) ⟨rfl, rfl, rfl, trivial⟩ rfl (fun i hi => ?_) (fun i hi => ?_)
 · simp [UnderK, UnderX, Own.under, V.under, V.underL]
 obtain ⟨hi, hc⟩ := hi
 rcases Nat.lt_or_ge i c.cols.length with hlt | hge
 · rw [findI_drop hlt] at hc
   by_cases hp : c.cols[i].name = name
   · skip
     repeat' first | (refine kOps ?_; first | (refine LOps.nil ?_) | (refine LOps.ev tT_ok rfl ?_) | (refine kLoad ?_; first | (refine LOps.ans (AnsL.loadP tT_ok rfl rfl rfl rfl) ?_)) | (refine kLen ?_; first | (refine LOps.ans (AnsL.lenM tT_ok rfl rfl rfl) ?_)) | (refine kIdx ?_; first | (refine LOps.ans (AnsL.idxA tT_ok rfl rfl rfl rfl rfl (by omega) rfl rfl) ?_))) | (refine kWL ?_; first | (refine WL.seq ?_) | (refine WL.region (by kernel_rfl) ?_) | (refine WL.block ?_) | (refine WL.skip ?_) | (refine WL.ret ?_) | (refine kCond ?_; first | (refine WL.condT' rfl ?_ ?_; (focus (first | (exact decide_eq_true (by assumption)) | (simp <;> omega)))))) | (refine lthen_n ?_) | (refine lthen_r ?_) | (refine lblock_r ?_) | (refine lbackD_r ?_) | (refine LPost.r1 (r := .tmp 4) (.inl rfl) (Res1.tmp rfl) ?_) | (refine PureR.mk ?_)
     simp [hc, colP, hp]
   · skip
     repeat' first | (refine kOps ?_; first | (refine LOps.nil ?_) | (refine LOps.ev tT_ok rfl ?_) | (refine kLoad ?_; first | (refine LOps.ans (AnsL.loadP tT_ok rfl rfl rfl rfl) ?_)) | (refine kLen ?_; first | (refine LOps.ans (AnsL.lenM tT_ok rfl rfl rfl) ?_)) | (refine kBin ?_; first | (refine LOps.ans (AnsL.add rfl rfl ?_) ?_; (focus (constructor <;> omega)))) | (refine kIdx ?_; first | (refine LOps.ans (AnsL.idxA tT_ok rfl rfl rfl rfl rfl (by omega) rfl rfl) ?_))) | (refine kWL ?_; first | (refine WL.seq ?_) | (refine WL.region (by kernel_rfl) ?_) | (refine WL.block ?_) | (refine WL.skip ?_) | (refine kCond ?_; first | (refine WL.condT' rfl ?_ ?_; (focus (first | (simp <;> omega)))) | (refine WL.condF' rfl ?_ ?_; (focus (first | (exact decide_eq_false (by assumption))))))) | (refine lthen_n ?_) | (refine lblock_n ?_)
     all_goals
       refine lbackD.of (i + 1) ?_ ?_ ?_ ?_
       · first | omega | (refine ⟨?_, ?_⟩; (focus (first | omega | (simp; omega))); (first | omega | (simp_all [hc, colP, hp] <;> fail) | (simp_all [hc, colP, hp]; omega))) | (simp_all [hc, colP, hp] <;> fail) | (simp_all [hc, colP, hp]; omega)
       · first | omega | (simp; omega) | simp_all
       · repeat' first
           | exact SubL.nil
           | (refine SubL.mk rfl ?_ ?_)
           | rfl
           | (simp [hc, colP, hp] <;> fail)
           | (simp [hc, colP, hp]; omega)
       · first | rfl | (simp [hc, colP, hp] <;> fail) | (simp [hc, colP, hp]; omega)
 · rw [findI_end hge] at hc
   repeat' first | (refine kOps ?_; first | (refine LOps.nil ?_) | (refine LOps.ev tT_ok rfl ?_) | (refine kLoad ?_; first | (refine LOps.ans (AnsL.loadP tT_ok rfl rfl rfl rfl) ?_)) | (refine kLen ?_; first | (refine LOps.ans (AnsL.lenM tT_ok rfl rfl rfl) ?_))) | (refine kWL ?_; first | (refine WL.seq ?_) | (refine WL.region (by kernel_rfl) ?_) | (refine WL.exit ?_) | (refine WL.ret ?_) | (refine kCond ?_; first | (refine WL.condF' rfl ?_ ?_; (focus (first | (simp <;> omega)))))) | (refine lthen_n ?_) | (refine lthen_e ?_) | (refine lblock_e ?_) | (refine lbackD_e ?_) | (refine LPost.r1 (r := .tmp 4) (.inl rfl) (Res1.tmp rfl) ?_) | (refine PureR.mk ?_)
   simp [hc]
end Go.Proofs.Ytolhegocbkckdaa

namespace Go.Proofs.Ytolhegocbkckdaa
open Go
set_option linter.unusedSimpArgs false
set_option linter.unusedVariables false
@[simp] theorem nk_int' (i : IntKind) (n k : Int) : nk (.int i n) k = k + 1 := by simp only [nk]
@[simp] theorem nk_bool' (b : Bool) (k : Int) : nk (.bool b) k = k + 1 := by simp only [nk]
@[simp] theorem nk_str' (b : List UInt8) (k : Int) : nk (.str b) k = k + 1 := by simp only [nk]
section
variable {P : Program} {L : Kn} {s : S} {tt : BT}
end
theorem map_ne {α : Type} {f : α → V} {l : List α} (h : ¬ l = []) : (l.map f).isEmpty = false := by cases l <;> simp_all
theorem thw_sl_cells (n i : Nat) (xs : List V) : (thw n (.sl i xs)).1.cells = [(thw n (.sl i xs)).1] := by
 unfold thw
 cases xs.isEmpty <;> rfl
theorem plainL_cons {v : V} {vs : List V} (h1 : v.plain = true) (h2 : V.plainL vs = true) : V.plainL (v :: vs) = true := by simp only [V.plainL, h1, h2, Bool.and_self]
theorem plain_IntS (l : List Int) : V.plain (.sl 0 (l.map iV)) = true := plain_map (f := iV) 1 (fun _ => rfl) (fun _ => rfl) l
theorem plain_StringS (l : List (List UInt8)) : V.plain (.sl 0 (l.map sV)) = true := plain_map (f := sV) 1 (fun _ => rfl) (fun _ => rfl) l
theorem plain_ValueS (l : List Val) : V.plain (.sl 0 (l.map Val.toV)) = true := plain_map (f := Val.toV) 3 (fun x => (plainL_cons rfl (plainL_cons rfl (plainL_cons rfl rfl)))) (fun _ => rfl) l
theorem plain_ColS (l : List Col) : V.plain (.sl 0 (l.map Col.toV)) = true := plain_map (f := Col.toV) 2 (fun x => (plainL_cons rfl (plainL_cons rfl rfl))) (fun _ => rfl) l
theorem plain_NamedS (l : List Named) : V.plain (.sl 0 (l.map Named.toV)) = true := plain_map (f := Named.toV) 3 (fun x => (plainL_cons rfl (plainL_cons rfl (plainL_cons rfl rfl)))) (fun _ => rfl) l
theorem plain_BindS (l : List Bind) : V.plain (.sl 0 (l.map Bind.toV)) = true := plain_map (f := Bind.toV) 3 (fun x => (plainL_cons rfl (plainL_cons rfl (plainL_cons rfl rfl)))) (fun _ => rfl) l
theorem plain_TokenS (l : List Token) : V.plain (.sl 0 (l.map Token.toV)) = true := plain_map (f := Token.toV) 3 (fun x => (plainL_cons rfl (plainL_cons rfl (plainL_cons rfl rfl)))) (fun _ => rfl) l
theorem plain_IntSS (l : List (List Int)) : V.plain (.sl 0 (l.map ints)) = true := plain_map (f := ints) 1 (fun x => plain_IntS x) (fun _ => rfl) l
theorem plain_ValueSS (l : List (List Val)) : V.plain (.sl 0 (l.map Val.toVS)) = true := plain_map (f := Val.toVS) 1 (fun x => plain_ValueS x) (fun _ => rfl) l
theorem plain_TableS (l : List Tab) : V.plain (.sl 0 (l.map Tab.toV)) = true := plain_map (f := Tab.toV) 2 (fun x => (plainL_cons rfl (plainL_cons (plain_ColS x.cols) rfl))) (fun _ => rfl) l
theorem plain_DataS (l : List Data) : V.plain (.sl 0 (l.map Data.toV)) = true := plain_map (f := Data.toV) 1 (fun x => (plainL_cons (plain_ValueSS x.rows) rfl)) (fun _ => rfl) l
theorem plain_ScopeS (l : List Scope) : V.plain (.sl 0 (l.map Scope.toV)) = true := plain_map (f := Scope.toV) 1 (fun x => (plainL_cons (plain_NamedS x.names) rfl)) (fun _ => rfl) l
end Go.Proofs.Ytolhegocbkckdaa
