/-
  All tokens of a source, of the reference.
  strings.IndexByte, HasPrefix and Index by the library's contracts.
  Own work; no condition.
-/
import Derived.Test.YtbnbmcplmipgdaaGreatDoorDLexV
import Derived.Test.YtbnbmcplmipgdaaGreatDoorMg17
import Derived.Shelf.Small.Strs
import Derived.Shelf.Strings.Search3
import Derived.Shelf.Strings.Prefix
import Derived.Lib.IndexMore
namespace Go.Proofs.YtbnbmcplmipgdaaGreatDoor
open Go
set_option linter.unusedSimpArgs false
set_option linter.unusedVariables false

abbrev tkV (l : List Token) : List V := l.map Token.toV
theorem plainTk (l : List Token) : V.plain (.sl 0 (tkV l)) = true := plain_map (f := Token.toV) 3 (fun _ => rfl) (fun _ => rfl) l
abbrev lexU (r : List Token × Int) : List V := [.sl 0 (tkV r.1), .int .i64 r.2]
theorem lexU_plain (r : List Token × Int) : V.plainL (lexU r) = true := by
  rw [V.plainL, plainTk]; rfl
set_option maxHeartbeats 4000000 in
theorem specLex_v (l : List UInt8) (s : S) : VCalls Tryz.prog 9 [.str l] s (fun v s' => v = .tup (lexU (lexT numS l)) ∧ s' = s) := by
  refine VCalls.pureT rfl (lexU_plain _) (fun s => ?_) s
  have hh : Hold s s.next [] := .start _ _
  by_cases h0 : (l.length : Int) > 2000
  · have e : lexT numS l = ([], 2000) := if_pos (by omega)
    rw [e]
    refine LCalls.body Tryz.func9 rfl (by kernel_rfl) ?_
    repeat' first
      | (refine kOps ?_; first | (refine LOps.nil ?_) | (refine LOps.ev tT_ok rfl ?_) | (refine kBsl ?_; first | (refine LOps.bsl0 tT_ok rfl rfl rfl rfl rfl ?_)))
      | (refine kWL ?_; first | (refine WL.seq ?_) | (refine WL.region (by kernel_rfl) ?_) | (refine WL.ret ?_) | (refine kCond ?_; first | (refine WL.condT' rfl ?_ ?_; (focus (first | (exact decide_eq_true (by assumption)))))))
      | (refine lthen_n ?_)
      | (refine lthen_r ?_)
      | (refine LPost.r2 (r := .tmp 2) (r' := .tmp 3) (.inl rfl) (Res1.tmp rfl) (Res1.tmp rfl) ?_)
    exact ⟨[], .tup (.cons .zsl (.cons (.scal rfl) .nil)), List.nodup_nil⟩
  have hl : l.length ≤ 2000 := by omega
  have e : lexT numS l = lexP numS l (l.length + 1) 0 [] := if_neg (by omega)
  rw [e]
  clear e
  generalize hF : lexP numS l (l.length + 1) 0 [] = R
  refine LCalls.body Tryz.func9 rfl (by kernel_rfl) ?_
  repeat' first
    | (refine kOps ?_; first | (refine LOps.nil ?_) | (refine LOps.ev tT_ok rfl ?_) | (refine kBsl ?_; first | (refine LOps.bsl0 tT_ok rfl rfl rfl rfl rfl ?_)))
    | (refine kWL ?_; first | (refine WL.seq ?_) | (refine WL.region (by kernel_rfl) ?_) | (refine WL.block ?_) | (refine WL.skip ?_) | (refine kCond ?_; first | (refine WL.condF' rfl ?_ ?_; (focus (first | (exact decide_eq_false (by assumption)))))))
    | (refine lthen_n ?_)
  refine WL.zfamH (t := 4) 3 rfl rfl hh (fun s id hh => ?_)
  refine WL.loopH (fun y : Nat × List Token × Nat => l.length - y.1) (fun y => [(0, .str l), (4, .sl id (tkV y.2.1)), (5, .int .i64 (y.1 : Int))]) (fun y => [.acc id 3 (tkV y.2.1) (tkV y.2.1)])
    (fun y => y.1 ≤ l.length ∧ y.2.1.length ≤ y.1 ∧ l.length < y.2.2 + y.1 ∧ lexP numS l y.2.2 y.1 y.2.1 = R) (0, [], l.length + 1) ⟨Nat.zero_le _, Nat.zero_le _, by dsimp only; omega, hF⟩ ⟨rfl, rfl, rfl, trivial⟩ hh (Sel.refl _) (fun y s hI hh => ?_)
  obtain ⟨i, ts, f⟩ := y
  obtain ⟨g1, g2, g3, g4⟩ := hI
  dsimp only at g1 g2 g3 g4 hh ⊢
  cases f with
  | zero => omega
  | succ f =>
    have hP := fun u => specl3Pass_v l (by omega) i g1 u
    obtain ⟨b1, b2, b3⟩ := pass_bnd l _ i (Nat.le_refl _) g1
    unfold lexP at g4
    generalize pass l i = p at hP b1 b2 b3 g4
    by_cases c1 : p < 0
    · rw [if_pos c1] at g4
      have w1 : IntKind.i64.wrap (0 - p) = -p := by rw [wrap_in (by constructor <;> omega)]; omega
      repeat' first
        | (refine kOps ?_; first | (refine LOps.nil ?_) | (refine LOps.ev tT_ok rfl ?_) | (refine kBsl ?_; first | (refine LOps.bsl0 tT_ok rfl rfl rfl rfl rfl ?_)) | (refine kBin ?_; first | (refine LOps.ans (AnsL.sub rfl rfl ?_) ?_; (focus (constructor <;> omega)))) | (refine kCallN 27 ?_; first | (refine LOps.ans (AnsL.callP rfl rfl rfl (ok27) (hP _)) ?_)))
        | (refine kWL ?_; first | (refine WL.seq ?_) | (refine WL.region (by kernel_rfl) ?_) | (refine WL.block ?_) | (refine WL.ret ?_) | (refine kCond ?_; first | (refine WL.condT' rfl ?_ ?_; (focus (first | (exact decide_eq_true (by assumption)))))))
        | (refine lthen_n ?_)
        | (refine lthen_r ?_)
        | (refine lblock_r ?_)
        | (refine lbackH_r ?_)
        | (refine LPost.r2 (r := .tmp 2) (r' := .tmp 3) (.inl rfl) (Res1.tmp rfl) (Res1.tmp rfl) ?_)
      rw [← g4, w1]
      exact ⟨[], .tup (.cons .zsl (.cons (.scal rfl) .nil)), List.nodup_nil⟩
    rw [if_neg c1] at g4
    by_cases c2 : (l.length : Int) ≤ p
    · rw [if_pos c2] at g4
      have c2' : p ≥ (l.length : Int) := c2
      repeat' first
        | (refine kOps ?_; first | (refine LOps.nil ?_) | (refine LOps.ev tT_ok rfl ?_) | (refine kCallN 27 ?_; first | (refine LOps.ans (AnsL.callP rfl rfl rfl (ok27) (hP _)) ?_)))
        | (refine kWL ?_; first | (refine WL.seq ?_) | (refine WL.region (by kernel_rfl) ?_) | (refine WL.block ?_) | (refine WL.skip ?_) | (refine WL.ret ?_) | (refine kCond ?_; first | (refine WL.condT' rfl ?_ ?_; (focus (first | (exact decide_eq_true (by assumption))))) | (refine WL.condF' rfl ?_ ?_; (focus (first | (exact decide_eq_false (by assumption)))))))
        | (refine lthen_n ?_)
        | (refine lthen_r ?_)
        | (refine lblock_r ?_)
        | (refine lbackH_r ?_)
        | (refine LPost.r2 (r := .tmp 2) (r' := .tmp 3) (.inl rfl) (Res1.tmp rfl) (Res1.tmp rfl) ?_)
      rw [← g4]
      exact (Own2.ofH hh (by ((repeat' first | (exact ConsL.nil) | (exact ConsL.pls rfl rfl) | (exact Cons.pl rfl rfl) | (exact Cons.zsl) | (exact Cons.nilsl) | (refine' Cons.bp ?_; ((repeat' first | (exact Pick.here) | (refine' Pick.there ?_)); done)) | (refine' Cons.ap ?_; ((repeat' first | (exact Pick.here) | (refine' Pick.there ?_)); done)) | (exact Cons.blk 0 rfl rfl rfl) | (exact Cons.blk 1 rfl rfl rfl) | (exact Cons.blk 2 rfl rfl rfl) | (exact Cons.blk 3 rfl rfl rfl) | (exact Cons.pl (by assumption) (by assumption)) | (exact ConsL.pls (by assumption) (by assumption)) | (refine' ConsL.cons ?_ ?_) | (refine' Cons.agg ?_)); done))).tup1 rfl
    rw [if_neg c2] at g4
    have c2' : ¬ p ≥ (l.length : Int) := c2
    obtain ⟨n, rfl⟩ : ∃ n : Nat, p = n := ⟨p.toNat, by omega⟩
    rw [Int.toNat_natCast] at g4
    have hn : n < l.length := by omega
    have hO := fun u => specl3One_v l (by omega) n hn u
    have hP1 : oneP numS l n = oneB numS l n l[n] := by unfold oneP; rw [List.getElem?_eq_getElem hn]
    rw [hP1] at g4
    have hE : ∀ x : Token × Nat, oneB numS l n l[n] = some x → n < x.2 ∧ x.2 ≤ l.length := fun x hx => oneP_end (num := numS) (hP1.trans hx)
    generalize (oneC l n l[n]).1 = c at hO
    generalize oneB numS l n l[n] = o at hO g4 hE
    cases o with
    | none =>
      dsimp only [oneW] at hO g4
      repeat' first
        | (refine kAlloc ?_ ; refine LOps.allocH tT_ok hh rfl rfl ?_ ; intro s n hh)
        | (refine kStore ?_ ; first | (refine LOps.storeH tT_ok 0 hh rfl rfl rfl rfl rfl rfl rfl rfl rfl ?_ ; intro s hh))
        | (refine kOps ?_; first | (refine LOps.nil ?_) | (refine LOps.ev tT_ok rfl ?_) | (refine kBsl ?_; first | (refine LOps.bsl0 tT_ok rfl rfl rfl rfl rfl ?_)) | (refine kCallN 27 ?_; first | (refine LOps.ans (AnsL.callP rfl rfl rfl (ok27) (hP _)) ?_)) | (refine kCallN 28 ?_; first | (refine LOps.ans (AnsL.callP rfl rfl rfl (ok28) (hO _)) ?_)))
        | (refine kWL ?_; first | (refine WL.seq ?_) | (refine WL.region (by kernel_rfl) ?_) | (refine WL.block ?_) | (refine WL.skip ?_) | (refine WL.ret ?_) | (refine kCond ?_; first | (refine WL.condT rfl ?_) | (refine WL.condF rfl ?_) | (refine WL.condF' rfl ?_ ?_; (focus (first | (exact decide_eq_false (by assumption)))))))
        | (refine lthen_n ?_)
        | (refine lthen_r ?_)
        | (refine lblock_r ?_)
        | (refine lbackH_r ?_)
        | (refine LPost.r2 (r := .tmp 2) (r' := .tmp 3) (.inl rfl) (Res1.tmp rfl) (Res1.tmp rfl) ?_)
      rw [← g4]
      exact ⟨[], .tup (.cons .zsl (.cons (.scal rfl) .nil)), List.nodup_nil⟩
    | some x =>
      obtain ⟨t, e⟩ := x
      obtain ⟨hE1, hE2⟩ := hE _ rfl
      dsimp only [oneW] at hO g4 hE1 hE2
      have hB : (tkV ts).length ≤ 1048576 := by rw [List.length_map]; omega
      repeat' first
        | (refine kAlloc ?_ ; refine LOps.allocH tT_ok hh rfl rfl ?_ ; intro s n hh)
        | (refine kStore ?_ ; first | (refine LOps.storeH tT_ok 0 hh rfl rfl rfl rfl rfl rfl rfl rfl rfl ?_ ; intro s hh))
        | (refine kBsl ?_ ; refine' LOps.bslH tT_ok rfl rfl rfl rfl rfl rfl rfl rfl hh ?_ ?_ ?_ ; rotate_left 2 ; (focus ((repeat' first | (exact ConsL.pls rfl rfl)); done)) ; (focus ((repeat' first | (exact ElsH.of rfl)); done)) ; intro s n hh)
        | (refine kApp ?_ ; first | (refine' LOps.appH tT_ok 2 rfl rfl rfl rfl rfl rfl rfl rfl rfl rfl hh ?_ ?_ (AppB.of ?_ rfl) ?_ ; rotate_left 3 ; (focus (first | (refine' ConsSp.ap ?_; ((repeat' first | (exact Pick.here)); done)))) ; (focus ((repeat' first | (exact Elems.of rfl)); done)) ; (focus (first | omega | (simp ; omega))) ; intro s hh))
        | (refine kOps ?_; first | (refine LOps.nil ?_) | (refine LOps.ev tT_ok rfl ?_) | (refine kLoad ?_; first | (refine LOps.ans (AnsL.loadH tT_ok 0 hh rfl rfl rfl rfl) ?_)) | (refine kCallN 27 ?_; first | (refine LOps.ans (AnsL.callP rfl rfl rfl (ok27) (hP _)) ?_)) | (refine kCallN 28 ?_; first | (refine LOps.ans (AnsL.callP rfl rfl rfl (ok28) (hO _)) ?_)))
        | (refine kWL ?_; first | (refine WL.seq ?_) | (refine WL.region (by kernel_rfl) ?_) | (refine WL.block ?_) | (refine WL.skip ?_) | (refine kCond ?_; first | (refine WL.condF rfl ?_) | (refine WL.condF' rfl ?_ ?_; (focus (first | (exact decide_eq_false (by assumption)))))))
        | (refine lthen_n ?_)
        | (refine lblock_n ?_)
      all_goals
        refine' lbackH.of ((e, ts ++ [t], f)) ?_ hh ?_ ?_ ?_
        · repeat' first | exact SubL.nil | (refine SubL.mk rfl ?_ ?_) | rfl | (simp [Token.toV] <;> fail) | (simp [Token.toV]; omega)
        · first | ((repeat' first | (exact Sel.nil) | (exact Sel.refl _) | (refine' Sel.p ?_ ?_; rotate_left 1; (focus (((repeat' first | (exact Pick.here) | (refine' Pick.there ?_)); done))))); done) | (dsimp only; simp only [List.map_append, List.map_cons, List.map_nil]; (repeat' first | (exact Sel.nil) | (exact Sel.refl _) | (refine' Sel.p ?_ ?_; rotate_left 1; (focus (((repeat' first | (exact Pick.here) | (refine' Pick.there ?_)); done))))); done) | (dsimp only; simp only [List.map_append, List.map_cons, List.map_nil, Token.toV]; (repeat' first | (exact Sel.nil) | (exact Sel.refl _) | (refine' Sel.p ?_ ?_; rotate_left 1; (focus (((repeat' first | (exact Pick.here) | (refine' Pick.there ?_)); done))))); done)
        · dsimp only; repeat' first | omega | assumption | (refine And.intro ?_ ?_) | rfl | (simp [Token.toV] <;> fail) | (simp [Token.toV]; omega) | (simp_all [Token.toV] <;> fail) | (simp_all [Token.toV]; omega)
        · dsimp only; first | omega | (simp; omega) | (simp_all; omega)

end Go.Proofs.YtbnbmcplmipgdaaGreatDoor

namespace Go.Proofs
open Go.Shelf
def Tryz.laysIxb_ren : Go.Shelf.Ren := ⟨fun | 137 => 65 | 217 => 84 | 266 => 95 | n => n, fun | 9 => 9 | 5 => 5 | 3 => 3 | n => n, fun | n => n⟩
theorem Tryz.laysIxb : Go.Proofs.Lays.n137 Tryz.prog Tryz.laysIxb_ren := {
  mixed := by kernel_rfl
  f137 := Tryz.func65.trans (congrArg some (by kernel_rfl))
  f217 := Tryz.func84.trans (congrArg some (by kernel_rfl))
  f266 := Tryz.func95.trans (congrArg some (by kernel_rfl))
  t3 := Tryz.underlying3
  a3 := Tryz.isAgg3
  z3 := Tryz.sizeOf3
  v3 := Tryz.zeroValue3
  t5 := Tryz.underlying5
  a5 := Tryz.isAgg5
  z5 := Tryz.sizeOf5
  v5 := Tryz.zeroValue5
  t9 := Tryz.underlying9
  a9 := Tryz.isAgg9
  z9 := Tryz.sizeOf9
  v9 := Tryz.zeroValue9 }
def Tryz.laysHpx_ren : Go.Shelf.Ren := ⟨fun | 99 => 66 | 206 => 85 | n => n, fun | 9 => 9 | 4 => 4 | 3 => 3 | n => n, fun | n => n⟩
theorem Tryz.laysHpx : Go.Proofs.Lays.n99 Tryz.prog Tryz.laysHpx_ren := {
  mixed := by kernel_rfl
  f99 := Tryz.func66.trans (congrArg some (by kernel_rfl))
  f206 := Tryz.func85.trans (congrArg some (by kernel_rfl))
  t3 := Tryz.underlying3
  a3 := Tryz.isAgg3
  z3 := Tryz.sizeOf3
  v3 := Tryz.zeroValue3
  t4 := Tryz.underlying4
  a4 := Tryz.isAgg4
  z4 := Tryz.sizeOf4
  v4 := Tryz.zeroValue4
  t9 := Tryz.underlying9
  a9 := Tryz.isAgg9
  z9 := Tryz.sizeOf9
  v9 := Tryz.zeroValue9 }
def Tryz.laysIdx_ren : Go.Shelf.Ren := ⟨fun | 143 => 67 | 219 => 86 | 217 => 84 | 225 => 96 | 224 => 97 | 267 => 98 | 266 => 95 | 314 => 103 | n => n, fun | 9 => 9 | 3 => 3 | 4 => 4 | 5 => 5 | 46 => 105 | 146 => 113 | 51 => 112 | n => n, fun | 1 => 0 | n => n⟩
theorem Tryz.laysIdx : Go.Proofs.Lays.n143 Tryz.prog Tryz.laysIdx_ren := {
  mixed := by kernel_rfl
  f143 := Tryz.func67.trans (congrArg some (by kernel_rfl))
  f217 := Tryz.func84.trans (congrArg some (by kernel_rfl))
  f219 := Tryz.func86.trans (congrArg some (by kernel_rfl))
  f224 := Tryz.func97.trans (congrArg some (by kernel_rfl))
  f225 := Tryz.func96.trans (congrArg some (by kernel_rfl))
  f266 := Tryz.func95.trans (congrArg some (by kernel_rfl))
  f267 := Tryz.func98.trans (congrArg some (by kernel_rfl))
  f314 := Tryz.func103.trans (congrArg some (by kernel_rfl))
  t3 := Tryz.underlying3
  a3 := Tryz.isAgg3
  z3 := Tryz.sizeOf3
  v3 := Tryz.zeroValue3
  t4 := Tryz.underlying4
  a4 := Tryz.isAgg4
  z4 := Tryz.sizeOf4
  v4 := Tryz.zeroValue4
  t5 := Tryz.underlying5
  a5 := Tryz.isAgg5
  z5 := Tryz.sizeOf5
  v5 := Tryz.zeroValue5
  t9 := Tryz.underlying9
  a9 := Tryz.isAgg9
  z9 := Tryz.sizeOf9
  v9 := Tryz.zeroValue9
  t46 := Tryz.underlying105
  a46 := Tryz.isAgg105
  z46 := Tryz.sizeOf105
  v46 := Tryz.zeroValue105
  t51 := Tryz.underlying112
  a51 := Tryz.isAgg112
  z51 := Tryz.sizeOf112
  v51 := Tryz.zeroValue112
  t146 := Tryz.underlying113
  a146 := Tryz.isAgg113
  z146 := Tryz.sizeOf113
  v146 := Tryz.zeroValue113
  g1 := by kernel_rfl }
end Go.Proofs
namespace Go.Proofs.YtbnbmcplmipgdaaGreatDoor
open Go Go.RowKit
set_option linter.unusedSimpArgs false
set_option linter.unusedVariables false

theorem indexByte_le : ∀ (l : List UInt8) (c : UInt8), Lib.indexByte l c ≤ l.length
  | [], c => by simp [Lib.indexByte]
  | b :: l, c => by
    have := indexByte_le l c
    have h2 := Lib.indexByte_ge l c
    unfold Lib.indexByte
    simp only [List.length_cons]
    split
    · omega
    · split
      · omega
      · omega
theorem stringsIndexByte_v (l : List UInt8) (hl : l.length ≤ 1048576) (c : UInt8) (s : S) : VCalls Tryz.prog 65 [.str l, .int .u8 (c.toNat : Int)] s (fun v s' => v = .int .i64 (Lib.indexByte l c) ∧ s' = s) := by
  intro E vals h1 h2
  cases h2 with
  | cons hv ht =>
    cases ht with
    | cons hv2 ht =>
      cases ht
      cases hv
      cases hv2
      have h3 := indexByte_le l c
      have h4 := Lib.indexByte_ge l c
      have hc : ((c.toNat : Int)).toNat.toUInt8 = c := by simp
      refine (Any.strings_IndexByte Tryz.laysIxb ⟨l.toArray⟩ (c.toNat : Int) E.w).mono ?_
      rintro e w' ⟨rfl, rfl⟩
      refine ⟨E, _, _, s, rfl, rfl, ⟨rfl, rfl⟩, h1, ?_, .refl E s⟩
      change RepV _ (.int .i64 (Lib.indexByte l c)) (.int .i64 (Lib.indexByte l (((c.toNat : Int)).toNat.toUInt8)))
      rw [hc]
      exact .int (by show (-9223372036854775808 : Int) ≤ _; omega) (by show _ ≤ (9223372036854775807 : Int); omega)
theorem stringsHasPrefix_v (a b : List UInt8) (s : S) : VCalls Tryz.prog 66 [.str a, .str b] s (fun v s' => v = .bool (b.isPrefixOf a) ∧ s' = s) := by
  intro E vals h1 h2
  cases h2 with
  | cons hv ht =>
    cases ht with
    | cons hv2 ht =>
      cases ht
      cases hv
      cases hv2
      refine (Any.strings_HasPrefix Tryz.laysHpx ⟨a.toArray⟩ ⟨b.toArray⟩ E.w).mono ?_
      rintro e w' ⟨rfl, rfl⟩
      exact ⟨E, _, _, s, rfl, rfl, ⟨rfl, rfl⟩, h1, .bool, .refl E s⟩
theorem index_len : ∀ (l x : List UInt8), Lib.index l x ≤ l.length
  | [], x => by unfold Lib.index; split <;> simp
  | b :: l, x => by
    have := index_len l x
    have h2 := Lib.index_ge l x
    unfold Lib.index
    simp only [List.length_cons]
    split
    · omega
    · split <;> omega
theorem stringsIndex_v (a b : List UInt8) (hl : a.length ≤ 1048576) (s : S) : VCalls Tryz.prog 67 [.str a, .str b] s (fun v s' => v = .int .i64 (Lib.index a b) ∧ s' = s) := by
  intro E vals h1 h2
  cases h2 with
  | cons hv ht =>
    cases ht with
    | cons hv2 ht =>
      cases ht
      cases hv
      cases hv2
      obtain ⟨m, hm⟩ := h1.maxLen
      have h3 := index_len a b
      have h4 := Lib.index_ge a b
      have hsz : (⟨a.toArray⟩ : ByteArray).size = a.length := rfl
      refine (Any.strings_Index Tryz.laysIdx ⟨a.toArray⟩ ⟨b.toArray⟩ m E.w (by rw [hsz]; omega) hm).mono ?_
      rintro e w' ⟨rfl, rfl⟩
      exact ⟨E, _, _, s, rfl, rfl, ⟨rfl, rfl⟩, h1, .int (by show (-9223372036854775808 : Int) ≤ Lib.index a b; omega) (by show Lib.index a b ≤ (9223372036854775807 : Int); omega), .refl E s⟩

end Go.Proofs.YtbnbmcplmipgdaaGreatDoor
