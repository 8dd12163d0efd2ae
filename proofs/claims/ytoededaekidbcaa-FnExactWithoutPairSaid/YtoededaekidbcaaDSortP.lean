/-
  The library's sort, by its contract, at slices of numbers compared by their first ones. Own work; no condition.
-/
import Derived.Test.YtoededaekidbcaaVSort
import Derived.Test.YtoededaekidbcaaVTT
import Derived.Shelf.SlSortCmp.NoneTotal
import Derived.Shelf.SlicesG.Cmp
namespace Go.Proofs
open Go.Shelf
def Try.sortPairs_ren : Go.Shelf.Ren := ⟨fun | 6 => 27 | 15 => 46 | 14 => 45 | 28 => 67 | 29 => 68 | 20 => 59 | 21 => 60 | 22 => 61 | 23 => 62 | 24 => 63 | 25 => 64 | 26 => 65 | 27 => 66 | 46 => 74 | 47 => 75 | 48 => 76 | 49 => 77 | 50 => 78 | 57 => 83 | n => n, fun | 22 => 24 | 24 => 46 | 25 => 50 | 3 => 3 | 39 => 66 | 0 => 0 | 53 => 88 | 55 => 90 | 4 => 4 | 46 => 81 | 45 => 80 | 50 => 85 | 5 => 5 | 9 => 9 | 66 => 94 | 70 => 98 | 76 => 104 | 77 => 105 | n => n, fun | n => n⟩
theorem Try.sortPairs : Go.Proofs.SlLaysF.n6 Try.prog Try.sortPairs_ren := {
  mixed := by kernel_rfl
  f6 := ⟨Try.f27.name, by decide, Try.func27.trans (congrArg some (by kernel_rfl))⟩
  f14 := ⟨Try.f45.name, by decide, Try.func45.trans (congrArg some (by kernel_rfl))⟩
  f15 := Try.func46.trans (congrArg some (by kernel_rfl))
  f20 := ⟨Try.f59.name, by decide, Try.func59.trans (congrArg some (by kernel_rfl))⟩
  f21 := ⟨Try.f60.name, by decide, Try.func60.trans (congrArg some (by kernel_rfl))⟩
  f22 := ⟨Try.f61.name, by decide, Try.func61.trans (congrArg some (by kernel_rfl))⟩
  f23 := ⟨Try.f62.name, by decide, Try.func62.trans (congrArg some (by kernel_rfl))⟩
  f24 := ⟨Try.f63.name, by decide, Try.func63.trans (congrArg some (by kernel_rfl))⟩
  f25 := ⟨Try.f64.name, by decide, Try.func64.trans (congrArg some (by kernel_rfl))⟩
  f26 := ⟨Try.f65.name, by decide, Try.func65.trans (congrArg some (by kernel_rfl))⟩
  f27 := ⟨Try.f66.name, by decide, Try.func66.trans (congrArg some (by kernel_rfl))⟩
  f28 := Try.func67.trans (congrArg some (by kernel_rfl))
  f29 := Try.func68.trans (congrArg some (by kernel_rfl))
  f46 := ⟨Try.f74.name, by decide, Try.func74.trans (congrArg some (by kernel_rfl))⟩
  f47 := Try.func75.trans (congrArg some (by kernel_rfl))
  f48 := Try.func76.trans (congrArg some (by kernel_rfl))
  f49 := ⟨Try.f77.name, by decide, Try.func77.trans (congrArg some (by kernel_rfl))⟩
  f50 := ⟨Try.f78.name, by decide, Try.func78.trans (congrArg some (by kernel_rfl))⟩
  f57 := ⟨Try.f83.name, by decide, Try.func83.trans (congrArg some (by kernel_rfl))⟩
  t0 := Try.underlying0
  a0 := Try.isAgg0
  z0 := Try.sizeOf0
  v0 := Try.zeroValue0
  t3 := Try.underlying3
  a3 := Try.isAgg3
  z3 := Try.sizeOf3
  v3 := Try.zeroValue3
  t4 := Try.underlying4
  a4 := Try.isAgg4
  z4 := Try.sizeOf4
  v4 := Try.zeroValue4
  t5 := Try.underlying5
  a5 := Try.isAgg5
  z5 := Try.sizeOf5
  v5 := Try.zeroValue5
  t9 := Try.underlying9
  a9 := Try.isAgg9
  z9 := Try.sizeOf9
  v9 := Try.zeroValue9
  t22 := Try.underlying24
  a22 := Try.isAgg24
  z22 := Try.sizeOf24
  v22 := Try.zeroValue24
  a24 := Try.isAgg46
  z24 := Try.sizeOf46
  t25 := Try.underlying50
  a25 := Try.isAgg50
  z25 := Try.sizeOf50
  v25 := Try.zeroValue50
  t39 := Try.underlying66
  a39 := Try.isAgg66
  z39 := Try.sizeOf66
  v39 := Try.zeroValue66
  t45 := Try.underlying80
  a45 := Try.isAgg80
  z45 := Try.sizeOf80
  v45 := Try.zeroValue80
  t46 := Try.underlying81
  a46 := Try.isAgg81
  z46 := Try.sizeOf81
  v46 := Try.zeroValue81
  t50 := Try.underlying85
  a50 := Try.isAgg85
  z50 := Try.sizeOf85
  v50 := Try.zeroValue85
  t53 := Try.underlying88
  a53 := Try.isAgg88
  z53 := Try.sizeOf88
  v53 := Try.zeroValue88
  t55 := Try.underlying90
  a55 := Try.isAgg90
  z55 := Try.sizeOf90
  v55 := Try.zeroValue90
  t66 := Try.underlying94
  a66 := Try.isAgg94
  z66 := Try.sizeOf94
  v66 := Try.zeroValue94
  t70 := Try.underlying98
  a70 := Try.isAgg98
  z70 := Try.sizeOf98
  v70 := Try.zeroValue98
  t76 := Try.underlying104
  a76 := Try.isAgg104
  z76 := Try.sizeOf104
  v76 := Try.zeroValue104
  t77 := Try.underlying105
  a77 := Try.isAgg105
  z77 := Try.sizeOf105
  v77 := Try.zeroValue105 }
def Try.cmpInts_ren : Go.Shelf.Ren := ⟨fun | 5 => 29 | 7 => 47 | n => n, fun | 22 => 3 | 3 => 3 | 4 => 4 | n => n, fun | n => n⟩
theorem Try.cmpInts : Go.Proofs.SlLaysC2.n5 Try.prog Try.cmpInts_ren := {
  mixed := by kernel_rfl
  f5 := ⟨Try.f29.name, by decide, Try.func29.trans (congrArg some (by kernel_rfl))⟩
  f7 := ⟨Try.f47.name, by decide, Try.func47.trans (congrArg some (by kernel_rfl))⟩
  t3 := Try.underlying3
  a3 := Try.isAgg3
  z3 := Try.sizeOf3
  v3 := Try.zeroValue3
  t4 := Try.underlying4
  a4 := Try.isAgg4
  z4 := Try.sizeOf4
  v4 := Try.zeroValue4
  t22 := Try.underlying3
  a22 := Try.isAgg3
  z22 := Try.sizeOf3
  v22 := Try.zeroValue3 }
end Go.Proofs
namespace Go.Proofs.Ytoededaekidbcaa
open Go
set_option linter.unusedSimpArgs false
set_option linter.unusedVariables false

theorem closurePairs_lt (x y : Int) (a b : Nat) (ca cb : Nat) (W : World) (hx : W.cell? ⟨a, 0, none⟩ = some (.int .i64 x)) (hy : W.cell? ⟨b, 0, none⟩ = some (.int .i64 y)) (h1 : x < y) :
    Calls Try.prog 28 #[.slice (some ⟨a, 0, none⟩) 2 ca, .slice (some ⟨b, 0, none⟩) 2 cb] W fun e w' => e = .returned (.int .i64 (-1)) ∧ w' = W.drew := by
  have hxx : (x != x) = false := by simp
  have hyy : (y != y) = false := by simp
  go_enter Try.func28, Try.ntmps28
  go_wp2
  go_region_calls
  all_goals (try go_wp2)
  all_goals go_ret
  all_goals exact ⟨rfl, rfl⟩
theorem closurePairs_gt (x y : Int) (a b : Nat) (ca cb : Nat) (W : World) (hx : W.cell? ⟨a, 0, none⟩ = some (.int .i64 x)) (hy : W.cell? ⟨b, 0, none⟩ = some (.int .i64 y)) (h1 : ¬ x < y) (h2 : x > y) :
    Calls Try.prog 28 #[.slice (some ⟨a, 0, none⟩) 2 ca, .slice (some ⟨b, 0, none⟩) 2 cb] W fun e w' => e = .returned (.int .i64 (1)) ∧ w' = W.drew := by
  have hxx : (x != x) = false := by simp
  have hyy : (y != y) = false := by simp
  go_enter Try.func28, Try.ntmps28
  go_wp2
  go_region_calls
  all_goals (try go_wp2)
  all_goals go_ret
  all_goals exact ⟨rfl, rfl⟩
theorem closurePairs_eq (x y : Int) (a b : Nat) (ca cb : Nat) (W : World) (hx : W.cell? ⟨a, 0, none⟩ = some (.int .i64 x)) (hy : W.cell? ⟨b, 0, none⟩ = some (.int .i64 y)) (h1 : ¬ x < y) (h2 : ¬ x > y) :
    Calls Try.prog 28 #[.slice (some ⟨a, 0, none⟩) 2 ca, .slice (some ⟨b, 0, none⟩) 2 cb] W fun e w' => e = .returned (.int .i64 (0)) ∧ w' = W.drew := by
  have hxx : (x != x) = false := by simp
  have hyy : (y != y) = false := by simp
  go_enter Try.func28, Try.ntmps28
  go_wp2
  go_region_calls
  all_goals (try go_wp2)
  all_goals go_ret
  all_goals exact ⟨rfl, rfl⟩

section
open Go.Shelf Go.RowKit Go.Lib Go.Sort
theorem ltOf_key {n : Nat} (key : Fin n → Int) (x y : Fin n) : ltOf (fun i j => Lib.compareInt (key i) (key j)) x y = decide (key x < key y) := by
  unfold ltOf Lib.compareInt
  by_cases h1 : key x < key y
  · simp [h1]
  · by_cases h2 : key y < key x <;> simp [h1, h2]
theorem swo_key {n : Nat} (key : Fin n → Int) : SWO (ltOf fun i j => Lib.compareInt (key i) (key j)) where
  irrefl x := by rw [ltOf_key]; simp
  trans x y z h1 h2 := by rw [ltOf_key] at *; simp at *; omega
  ntrans x y z h1 h2 := by rw [ltOf_key] at *; simp at *; omega
theorem putRow_setRow {α : Type} [Inhabited α] (enc : α → Value) (w : World) (blk off : Nat) (d : Array α) {arr : Array Value} {e : TypeId} {fr : Nat × Nat} (hh : w.heap[blk]? = some (.cells arr e fr)) : putRow enc w blk off d = w.setRow blk (putCells enc off d arr) := by
  unfold putRow mapBlock World.setRow
  congr 1
  apply Array.ext_getElem?
  intro k
  simp only [Array.getElem?_modify]
  by_cases hk : blk = k
  · subst hk
    simp only [if_true, hh, Option.map_some, onCells]
  · simp [hk]
theorem extract_full {α : Type} (d : Array α) {n : Nat} (h : d.size = n) : d.extract 0 n = d := by subst h; exact Array.extract_size
theorem sortsPairs : SortsBy Try.prog 27 28 := by
  constructor
  · intro p cap w
    exact AnyF.slices_SortFunc_none (P := Try.prog) (ρ := Try.sortPairs_ren) { Try.sortPairs with } p cap (.func (.func 28) #[] #[]) w
  · intro n enc key blk cap arr e fr w hn hlim hh hfree harr hel
    haveI : Inhabited (Fin n) := ⟨⟨0, hn⟩⟩
    obtain ⟨d, hd⟩ : ∃ d : Array (Fin n), d = Array.ofFn id := ⟨_, rfl⟩
    have hsz : d.size = n := by rw [hd, Array.size_ofFn]
    have hdj : ∀ (j : Nat) (hj : j < n), d[j]! = ⟨j, hj⟩ := fun j hj => by rw [hd, getElem!_pos _ j (by simpa using hj)]; simp
    have hblk : blk < w.heap.size := (Array.getElem?_eq_some_iff.1 hh).1
    have hH : Holds enc w blk 0 d := fun j hj => by
      rw [hsz] at hj
      rw [Nat.zero_add, hdj j hj]
      refine ⟨by rw [cell_of_row w _ _ arr e fr hh]; exact harr ⟨j, hj⟩, ?_⟩
      simp only [World.frozen?, hh]
      have := hfree j hj
      simpa using this
    have hone : OneCell enc := fun x => by obtain ⟨b, c, e1, _⟩ := hel x; rw [e1]; rfl
    have hcmp : CmpLays1 Try.prog 28 #[] enc (fun i j => Lib.compareInt (key i) (key j)) blk 0 d.size w := by
      intro m os dk hs x y
      obtain ⟨b1, c1, e1, n1, k1⟩ := hel x
      obtain ⟨b2, c2, e2, n2, k2⟩ := hel y
      have hcell : ∀ (b : Nat) (v : Value), b ≠ blk → w.cell? ⟨b, 0, none⟩ = some v → (sortWorld enc w blk 0 m dk os).cell? ⟨b, 0, none⟩ = some v := fun b v hb hv => by
        have hlt : b < w.heap.size := World.block_lt_of_cell? _ _ hv
        unfold sortWorld
        rw [cell?_grow _ _ _ (by rw [size_putRow]; exact hlt), cell?_putRow_other _ _ _ _ _ _ (Or.inl hb), cell?_ahead]
        exact hv
      have q1 := hcell b1 _ n1 k1
      have q2 := hcell b2 _ n2 k2
      generalize sortWorld enc w blk 0 m dk os = W at q1 q2 ⊢
      show Calls _ _ #[enc x, enc y] W _
      rw [e1, e2]
      have fin : ∀ (r : Int), Lib.compareInt (key x) (key y) = r → (Calls Try.prog 28 #[.slice (some ⟨b1, 0, none⟩) 2 c1, .slice (some ⟨b2, 0, none⟩) 2 c2] W fun e w' => e = .returned (.int .i64 r) ∧ w' = W.drew) → Calls Try.prog 28 #[.slice (some ⟨b1, 0, none⟩) 2 c1, .slice (some ⟨b2, 0, none⟩) 2 c2] W fun e w' => e = .returned (.int .i64 (Lib.compareInt (key x) (key y))) ∧ ∃ q os', w' = grow (W.drewN q) os' := fun r hr h => h.mono fun e w' ⟨a1, a2⟩ => ⟨by rw [a1, hr], 1, #[], by rw [a2, grow_empty]; rfl⟩
      by_cases g1 : key x < key y
      · exact fin (-1) (by simp [Lib.compareInt, g1]) (closurePairs_lt _ _ b1 b2 c1 c2 W q1 q2 g1)
      · by_cases g2 : key x > key y
        · exact fin 1 (by simp [Lib.compareInt, g1, g2]) (closurePairs_gt _ _ b1 b2 c1 c2 W q1 q2 g1 g2)
        · exact fin 0 (by simp [Lib.compareInt, g1, g2]) (closurePairs_eq _ _ b1 b2 c1 c2 W q1 q2 g1 g2)
    have eg : ∀ args w, (callFunc 28 args).run Try.prog w = .ok (.enter 28 args) w := enters_of Try.func28 (by kernel_rfl) rfl
    have h := Any.slices_SortFunc Try.sortPairs enc hone (fun i j => Lib.compareInt (key i) (key j)) (swo_key key) 28 #[] blk 0 cap d w eg hcmp hH hblk (by omega)
    rw [hsz] at h
    change Calls Try.prog 27 _ _ _ at h
    refine h.mono ?_
    rintro e' w' ⟨rfl, d', m, os, hp, hs, rfl⟩
    obtain ⟨p1, _, p3⟩ := hp
    have p1' : d'.size = n := by rw [p1, hsz]
    rw [extract_full d' p1', extract_full d hsz] at p3
    have hdl : d.toList = List.finRange n := by rw [hd, Array.toList_ofFn]; rfl
    refine ⟨rfl, d'.toList, putCells enc 0 d' arr, m, os, hdl ▸ p3, ?_, by simp [putCells], fun j k hj => ?_, fun j hj => ?_, ?_⟩
    · rw [List.pairwise_iff_getElem]
      intro i j hi hj hij
      have := hs i j (Nat.zero_le _) hij (by simpa [p1'] using hj)
      rw [ltOf_key, getElem!_pos d' j (by simpa using hj), getElem!_pos d' i (by simpa using hi)] at this
      simp at this
      simpa using this
    · have hjn : j < n := by have := (List.getElem?_eq_some_iff.1 hj).1; simpa [p1'] using this
      have hja : j < arr.size := (Array.getElem?_eq_some_iff.1 (harr ⟨j, hjn⟩)).1
      have hk : d'[j]! = k := by
        rw [Array.getElem?_toList] at hj
        rw [getElem!_pos d' j (by omega)]
        exact (Array.getElem?_eq_some_iff.1 hj).2
      unfold putCells
      rw [Array.getElem?_mapIdx, Array.getElem?_eq_getElem hja]
      simp only [Option.map_some, Nat.zero_le, true_and, Nat.zero_add, p1', if_pos hjn, Nat.sub_zero, hk]
    · unfold putCells
      rw [Array.getElem?_mapIdx]
      cases hq : arr[j]? with
      | none => rfl
      | some v => simp only [Option.map_some, Nat.zero_le, true_and, Nat.zero_add, p1']; rw [if_neg (by omega)]
    · unfold sortWorld
      rw [putRow_ahead, putRow_setRow enc w blk 0 d' hh]
      rfl
end

end Go.Proofs.Ytoededaekidbcaa
