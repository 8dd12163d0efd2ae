/-
  All tokens of a source, of the program. Own work; no condition.
-/
import Derived.Test.YtbnbmcplmipgdaaGreatDoorDLexB
namespace Go.Proofs.YtbnbmcplmipgdaaGreatDoor
open Go
set_option linter.unusedSimpArgs false
set_option linter.unusedVariables false

set_option maxHeartbeats 4000000 in
theorem implLex_v (l : List UInt8) (s : S) : VCalls Tryz.prog 16 [.str l] s (fun v s' => v = .tup (lexU (lexT numI l)) ∧ s' = s) := by
  refine VCalls.pureT rfl (lexU_plain _) (fun s => ?_) s
  have hh : Hold s s.next [] := .start _ _
  by_cases h0 : (l.length : Int) > 2000
  · have e : lexT numI l = ([], 2000) := if_pos (by omega)
    rw [e]
    refine LCalls.body Tryz.func16 rfl (by kernel_rfl) ?_
    repeat' first
      | (refine kOps ?_; first | (refine LOps.nil ?_) | (refine LOps.ev tT_ok rfl ?_))
      | (refine kWL ?_; first | (refine WL.seq ?_) | (refine WL.region (by kernel_rfl) ?_) | (refine WL.ret ?_) | (refine kCond ?_; first | (refine WL.condT' rfl ?_ ?_; (focus (first | (exact decide_eq_true (by assumption)))))))
      | (refine lthen_n ?_)
      | (refine lthen_r ?_)
      | (refine LPost.r2 (r := .tmp 2) (r' := .tmp 3) (.inl rfl) (Res1.tmp rfl) (Res1.tmp rfl) ?_)
    exact ⟨[], .tup (.cons .nilsl (.cons (.scal rfl) .nil)), List.nodup_nil⟩
  have hl : l.length ≤ 2000 := by omega
  have e : lexT numI l = lexP numI l (l.length + 1) 0 [] := if_neg (by omega)
  rw [e]
  clear e
  generalize hF : lexP numI l (l.length + 1) 0 [] = R
  refine LCalls.body Tryz.func16 rfl (by kernel_rfl) ?_
  repeat' first
    | (refine kOps ?_; first | (refine LOps.nil ?_) | (refine LOps.ev tT_ok rfl ?_) | (refine kBsl ?_; first | (refine LOps.bsl0 tT_ok rfl rfl rfl rfl rfl ?_)))
    | (refine kWL ?_; first | (refine WL.seq ?_) | (refine WL.region (by kernel_rfl) ?_) | (refine WL.block ?_) | (refine WL.skip ?_) | (refine kCond ?_; first | (refine WL.condF' rfl ?_ ?_; (focus (first | (exact decide_eq_false (by assumption)))))))
    | (refine lthen_n ?_)
  refine WL.zfamH (t := 4) 3 rfl rfl hh (fun s id hh => ?_)
  refine WL.loopH (fun y : Nat × List Token × Nat => l.length - y.1) (fun y => [(0, .str l), (4, .sl id (tkV y.2.1)), (5, .int .i64 (y.1 : Int))]) (fun y => [.acc id 3 (tkV y.2.1) (tkV y.2.1)])
    (fun y => y.1 ≤ l.length ∧ y.2.1.length ≤ y.1 ∧ l.length < y.2.2 + y.1 ∧ lexP numI l y.2.2 y.1 y.2.1 = R) (0, [], l.length + 1) ⟨Nat.zero_le _, Nat.zero_le _, by dsimp only; omega, hF⟩ ⟨rfl, rfl, rfl, trivial⟩ hh (Sel.refl _) (fun y s hI hh => ?_)
  obtain ⟨i, ts, f⟩ := y
  obtain ⟨g1, g2, g3, g4⟩ := hI
  dsimp only at g1 g2 g3 g4 hh ⊢
  cases f with
  | zero => omega
  | succ f =>
    have hP := fun u => implskip_v l (by omega) i g1 u
    obtain ⟨b1, b2, b3⟩ := pass_bnd l _ i (Nat.le_refl _) g1
    unfold lexP at g4
    generalize pass l i = p at hP b1 b2 b3 g4
    by_cases c1 : p < 0
    · rw [if_pos c1] at g4
      have e : skipV p = [.int .i64 (-p - 1), .bool false] := if_pos c1
      rw [e] at hP
      repeat' first
        | (refine kOps ?_; first | (refine LOps.nil ?_) | (refine LOps.ev tT_ok rfl ?_) | (refine kCallN 39 ?_; first | (refine LOps.ans (AnsL.callP rfl rfl rfl (ok39) (hP _)) ?_)))
        | (refine kWL ?_; first | (refine WL.seq ?_) | (refine WL.region (by kernel_rfl) ?_) | (refine WL.block ?_) | (refine WL.ret ?_) | (refine kCond ?_; first | (refine WL.condT rfl ?_)))
        | (refine lthen_n ?_)
        | (refine lthen_r ?_)
        | (refine lblock_r ?_)
        | (refine lbackH_r ?_)
        | (refine LPost.r2 (r := .tmp 2) (r' := .tmp 3) (.inl rfl) (Res1.tmp rfl) (Res1.tmp rfl) ?_)
      rw [← g4]
      exact ⟨[], .tup (.cons .nilsl (.cons (.scal rfl) .nil)), List.nodup_nil⟩
    rw [if_neg c1] at g4
    have e : skipV p = [.int .i64 p, .bool true] := if_neg c1
    rw [e] at hP
    by_cases c2 : (l.length : Int) ≤ p
    · rw [if_pos c2] at g4
      have c2' : p = (l.length : Int) := by omega
      repeat' first
        | (refine kOps ?_; first | (refine LOps.nil ?_) | (refine LOps.ev tT_ok rfl ?_) | (refine kCallN 39 ?_; first | (refine LOps.ans (AnsL.callP rfl rfl rfl (ok39) (hP _)) ?_)))
        | (refine kWL ?_; first | (refine WL.seq ?_) | (refine WL.region (by kernel_rfl) ?_) | (refine WL.block ?_) | (refine WL.skip ?_) | (refine WL.ret ?_) | (refine kCond ?_; first | (refine WL.condF rfl ?_) | (refine WL.condT' rfl ?_ ?_; (focus (first | (exact decide_eq_true (by assumption)))))))
        | (refine lthen_n ?_)
        | (refine lthen_r ?_)
        | (refine lblock_r ?_)
        | (refine lbackH_r ?_)
        | (refine LPost.r2 (r := .tmp 2) (r' := .tmp 3) (.inl rfl) (Res1.tmp rfl) (Res1.tmp rfl) ?_)
      rw [← g4]
      exact (Own2.ofH hh (by ((repeat' first | (exact ConsL.nil) | (exact ConsL.pls rfl rfl) | (exact Cons.pl rfl rfl) | (exact Cons.zsl) | (exact Cons.nilsl) | (refine' Cons.bp ?_; ((repeat' first | (exact Pick.here) | (refine' Pick.there ?_)); done)) | (refine' Cons.ap ?_; ((repeat' first | (exact Pick.here) | (refine' Pick.there ?_)); done)) | (exact Cons.blk 0 rfl rfl rfl) | (exact Cons.blk 1 rfl rfl rfl) | (exact Cons.blk 2 rfl rfl rfl) | (exact Cons.blk 3 rfl rfl rfl) | (exact Cons.pl (by assumption) (by assumption)) | (exact ConsL.pls (by assumption) (by assumption)) | (refine' ConsL.cons ?_ ?_) | (refine' Cons.agg ?_)); done))).tup1 rfl
    rw [if_neg c2] at g4
    have c2' : ¬ p = (l.length : Int) := by omega
    obtain ⟨n, rfl⟩ : ∃ n : Nat, p = n := ⟨p.toNat, by omega⟩
    rw [Int.toNat_natCast] at g4
    have hn : n < l.length := by omega
    have hO := fun u => implreadToken_v l (by omega) n hn u
    have hP1 : oneP numI l n = oneK numI (oneD l n l[n]) := by
      unfold oneP
      rw [List.getElem?_eq_getElem hn]
      exact oneB_D numI l n hn
    rw [hP1] at g4
    have hE : ∀ x : Token × Nat, oneK numI (oneD l n l[n]) = some x → n < x.2 ∧ x.2 ≤ l.length := fun x hx => oneP_end (num := numI) (hP1.trans hx)
    generalize oneD l n l[n] = c at hO g4 hE
    obtain ⟨t, o⟩ := c
    cases o with
    | none =>
      dsimp only [oneK, rtV] at hO g4
      repeat' first
        | (refine kAlloc ?_ ; refine LOps.allocH tT_ok hh rfl rfl ?_ ; intro s n hh)
        | (refine kStore ?_ ; first | (refine LOps.storeH tT_ok 0 hh rfl rfl rfl rfl rfl rfl rfl rfl rfl ?_ ; intro s hh))
        | (refine kOps ?_; first | (refine LOps.nil ?_) | (refine LOps.ev tT_ok rfl ?_) | (refine kCallN 39 ?_; first | (refine LOps.ans (AnsL.callP rfl rfl rfl (ok39) (hP _)) ?_)) | (refine kCallN 40 ?_; first | (refine LOps.ans (AnsL.callP rfl rfl rfl (ok40) (hO _)) ?_)))
        | (refine kWL ?_; first | (refine WL.seq ?_) | (refine WL.region (by kernel_rfl) ?_) | (refine WL.block ?_) | (refine WL.skip ?_) | (refine WL.ret ?_) | (refine kCond ?_; first | (refine WL.condT rfl ?_) | (refine WL.condF rfl ?_) | (refine WL.condF' rfl ?_ ?_; (focus (first | (exact decide_eq_false (by assumption)))))))
        | (refine lthen_n ?_)
        | (refine lthen_r ?_)
        | (refine lblock_r ?_)
        | (refine lbackH_r ?_)
        | (refine LPost.r2 (r := .tmp 2) (r' := .tmp 3) (.inl rfl) (Res1.tmp rfl) (Res1.tmp rfl) ?_)
      rw [← g4]
      exact ⟨[], .tup (.cons .nilsl (.cons (.scal rfl) .nil)), List.nodup_nil⟩
    | some e =>
      dsimp only [oneK, rtV, chkT] at hO g4 hE
      cases ok : tokOk numI t
      · rw [ok] at hO g4
        rw [if_neg (by decide)] at g4
        dsimp only at g4
        repeat' first
          | (refine kAlloc ?_ ; refine LOps.allocH tT_ok hh rfl rfl ?_ ; intro s n hh)
          | (refine kStore ?_ ; first | (refine LOps.storeH tT_ok 0 hh rfl rfl rfl rfl rfl rfl rfl rfl rfl ?_ ; intro s hh))
          | (refine kOps ?_; first | (refine LOps.nil ?_) | (refine LOps.ev tT_ok rfl ?_) | (refine kCallN 39 ?_; first | (refine LOps.ans (AnsL.callP rfl rfl rfl (ok39) (hP _)) ?_)) | (refine kCallN 40 ?_; first | (refine LOps.ans (AnsL.callP rfl rfl rfl (ok40) (hO _)) ?_)))
          | (refine kWL ?_; first | (refine WL.seq ?_) | (refine WL.region (by kernel_rfl) ?_) | (refine WL.block ?_) | (refine WL.skip ?_) | (refine WL.ret ?_) | (refine kCond ?_; first | (refine WL.condT rfl ?_) | (refine WL.condF rfl ?_) | (refine WL.condF' rfl ?_ ?_; (focus (first | (exact decide_eq_false (by assumption)))))))
          | (refine lthen_n ?_)
          | (refine lthen_r ?_)
          | (refine lblock_r ?_)
          | (refine lbackH_r ?_)
          | (refine LPost.r2 (r := .tmp 2) (r' := .tmp 3) (.inl rfl) (Res1.tmp rfl) (Res1.tmp rfl) ?_)
        rw [← g4]
        exact ⟨[], .tup (.cons .nilsl (.cons (.scal rfl) .nil)), List.nodup_nil⟩
      · rw [ok] at hO g4 hE
        rw [if_pos rfl] at g4 hE
        obtain ⟨hE1, hE2⟩ := hE _ rfl
        dsimp only at g4 hE1 hE2
        have hB : (tkV ts).length ≤ 1048576 := by rw [List.length_map]; omega
        repeat' first
          | (refine kAlloc ?_ ; refine LOps.allocH tT_ok hh rfl rfl ?_ ; intro s n hh)
          | (refine kStore ?_ ; first | (refine LOps.storeH tT_ok 0 hh rfl rfl rfl rfl rfl rfl rfl rfl rfl ?_ ; intro s hh))
          | (refine kBsl ?_ ; refine' LOps.bslH tT_ok rfl rfl rfl rfl rfl rfl rfl rfl hh ?_ ?_ ?_ ; rotate_left 2 ; (focus ((repeat' first | (exact ConsL.pls rfl rfl)); done)) ; (focus ((repeat' first | (exact ElsH.of rfl)); done)) ; intro s n hh)
          | (refine kApp ?_ ; first | (refine' LOps.appH tT_ok 2 rfl rfl rfl rfl rfl rfl rfl rfl rfl rfl hh ?_ ?_ (AppB.of ?_ rfl) ?_ ; rotate_left 3 ; (focus (first | (refine' ConsSp.ap ?_; ((repeat' first | (exact Pick.here)); done)))) ; (focus ((repeat' first | (exact Elems.of rfl)); done)) ; (focus (first | omega | (simp ; omega))) ; intro s hh))
          | (refine kOps ?_; first | (refine LOps.nil ?_) | (refine LOps.ev tT_ok rfl ?_) | (refine kLoad ?_; first | (refine LOps.ans (AnsL.loadH tT_ok 0 hh rfl rfl rfl rfl) ?_)) | (refine kCallN 39 ?_; first | (refine LOps.ans (AnsL.callP rfl rfl rfl (ok39) (hP _)) ?_)) | (refine kCallN 40 ?_; first | (refine LOps.ans (AnsL.callP rfl rfl rfl (ok40) (hO _)) ?_)))
          | (refine kWL ?_; first | (refine WL.seq ?_) | (refine WL.region (by kernel_rfl) ?_) | (refine WL.block ?_) | (refine WL.skip ?_) | (refine kCond ?_; first | (refine WL.condF rfl ?_) | (refine WL.condF' rfl ?_ ?_; (focus (first | (exact decide_eq_false (by assumption)))))))
          | (refine lthen_n ?_)
          | (refine lblock_n ?_)
        all_goals
          refine' lbackH.of ((e, ts ++ [t], f)) ?_ hh ?_ ?_ ?_
          · repeat' first | exact SubL.nil | (refine SubL.mk rfl ?_ ?_) | rfl | (simp [Token.toV] <;> fail) | (simp [Token.toV]; omega)
          · first | ((repeat' first | (exact Sel.nil) | (exact Sel.refl _) | (refine' Sel.p ?_ ?_; rotate_left 1; (focus (((repeat' first | (exact Pick.here) | (refine' Pick.there ?_)); done))))); done) | (dsimp only; simp only [List.map_append, List.map_cons, List.map_nil]; (repeat' first | (exact Sel.nil) | (exact Sel.refl _) | (refine' Sel.p ?_ ?_; rotate_left 1; (focus (((repeat' first | (exact Pick.here) | (refine' Pick.there ?_)); done))))); done) | (dsimp only; simp only [List.map_append, List.map_cons, List.map_nil, Token.toV]; (repeat' first | (exact Sel.nil) | (exact Sel.refl _) | (refine' Sel.p ?_ ?_; rotate_left 1; (focus (((repeat' first | (exact Pick.here) | (refine' Pick.there ?_)); done))))); done)
          · dsimp only; repeat' first | omega | assumption | (refine And.intro ?_ ?_) | rfl | (simp [Token.toV] <;> fail) | (simp [Token.toV]; omega) | (simp_all [Token.toV] <;> fail) | (simp_all [Token.toV]; omega)
          · dsimp only; first | omega | (simp; omega) | (simp_all; omega)

end Go.Proofs.YtbnbmcplmipgdaaGreatDoor
