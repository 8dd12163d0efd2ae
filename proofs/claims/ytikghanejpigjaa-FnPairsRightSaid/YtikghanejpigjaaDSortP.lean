/-
 The library's sort, by its contract, at slices of numbers compared by their first ones. Own work; no condition.
-/
import Derived.Test.YtikghanejpigjaaVSort
import Derived.Test.YtikghanejpigjaaMg18
import Derived.Shelf.SlSortCmp.NoneTotal
import Derived.Shelf.SlicesG.Cmp
namespace Go.Proofs
open Go.Shelf
def Try.sortPairs_ren:Go.Shelf.Ren:=⟨fun | 6=>17 | 15=>43 | 14=>42 | 28=>84 | 29=>85 | 20=>76 | 21=>77 | 22=>78 | 23=>79 | 24=>80 | 25=>81 | 26=>82 | 27=>83 | 46=>105 | 47=>106 | 48=>107 | 49=>108 | 50=>109 | 57=>117 | n=>n,fun | 22=>26 | 24=>28 | 25=>46 | 3=>3 | 39=>75 | 0=>0 | 53=>120 | 55=>122 | 4=>4 | 46=>113 | 45=>112 | 50=>117 | 5=>5 | 9=>9 | 66=>135 | 70=>139 | 76=>145 | 77=>146 | n=>n,fun | n=>n⟩
theorem Try.sortPairs:Go.Proofs.SlLaysF.n6 Try.prog Try.sortPairs_ren:={
 mixed:=by kernel_rfl
 f6:=⟨Try.f17.name,by decide,Try.func17.trans (congrArg some (by kernel_rfl))⟩
 f14:=⟨Try.f42.name,by decide,Try.func42.trans (congrArg some (by kernel_rfl))⟩
 f15:=Try.func43.trans (congrArg some (by kernel_rfl))
 f20:=⟨Try.f76.name,by decide,Try.func76.trans (congrArg some (by kernel_rfl))⟩
 f21:=⟨Try.f77.name,by decide,Try.func77.trans (congrArg some (by kernel_rfl))⟩
 f22:=⟨Try.f78.name,by decide,Try.func78.trans (congrArg some (by kernel_rfl))⟩
 f23:=⟨Try.f79.name,by decide,Try.func79.trans (congrArg some (by kernel_rfl))⟩
 f24:=⟨Try.f80.name,by decide,Try.func80.trans (congrArg some (by kernel_rfl))⟩
 f25:=⟨Try.f81.name,by decide,Try.func81.trans (congrArg some (by kernel_rfl))⟩
 f26:=⟨Try.f82.name,by decide,Try.func82.trans (congrArg some (by kernel_rfl))⟩
 f27:=⟨Try.f83.name,by decide,Try.func83.trans (congrArg some (by kernel_rfl))⟩
 f28:=Try.func84.trans (congrArg some (by kernel_rfl))
 f29:=Try.func85.trans (congrArg some (by kernel_rfl))
 f46:=⟨Try.f105.name,by decide,Try.func105.trans (congrArg some (by kernel_rfl))⟩
 f47:=Try.func106.trans (congrArg some (by kernel_rfl))
 f48:=Try.func107.trans (congrArg some (by kernel_rfl))
 f49:=⟨Try.f108.name,by decide,Try.func108.trans (congrArg some (by kernel_rfl))⟩
 f50:=⟨Try.f109.name,by decide,Try.func109.trans (congrArg some (by kernel_rfl))⟩
 f57:=⟨Try.f117.name,by decide,Try.func117.trans (congrArg some (by kernel_rfl))⟩
 t0:=Try.underlying0
 a0:=Try.isAgg0
 z0:=Try.sizeOf0
 v0:=Try.zeroValue0
 t3:=Try.underlying3
 a3:=Try.isAgg3
 z3:=Try.sizeOf3
 v3:=Try.zeroValue3
 t4:=Try.underlying4
 a4:=Try.isAgg4
 z4:=Try.sizeOf4
 v4:=Try.zeroValue4
 t5:=Try.underlying5
 a5:=Try.isAgg5
 z5:=Try.sizeOf5
 v5:=Try.zeroValue5
 t9:=Try.underlying9
 a9:=Try.isAgg9
 z9:=Try.sizeOf9
 v9:=Try.zeroValue9
 t22:=Try.underlying26
 a22:=Try.isAgg26
 z22:=Try.sizeOf26
 v22:=Try.zeroValue26
 a24:=Try.isAgg28
 z24:=Try.sizeOf28
 t25:=Try.underlying46
 a25:=Try.isAgg46
 z25:=Try.sizeOf46
 v25:=Try.zeroValue46
 t39:=Try.underlying75
 a39:=Try.isAgg75
 z39:=Try.sizeOf75
 v39:=Try.zeroValue75
 t45:=Try.underlying112
 a45:=Try.isAgg112
 z45:=Try.sizeOf112
 v45:=Try.zeroValue112
 t46:=Try.underlying113
 a46:=Try.isAgg113
 z46:=Try.sizeOf113
 v46:=Try.zeroValue113
 t50:=Try.underlying117
 a50:=Try.isAgg117
 z50:=Try.sizeOf117
 v50:=Try.zeroValue117
 t53:=Try.underlying120
 a53:=Try.isAgg120
 z53:=Try.sizeOf120
 v53:=Try.zeroValue120
 t55:=Try.underlying122
 a55:=Try.isAgg122
 z55:=Try.sizeOf122
 v55:=Try.zeroValue122
 t66:=Try.underlying135
 a66:=Try.isAgg135
 z66:=Try.sizeOf135
 v66:=Try.zeroValue135
 t70:=Try.underlying139
 a70:=Try.isAgg139
 z70:=Try.sizeOf139
 v70:=Try.zeroValue139
 t76:=Try.underlying145
 a76:=Try.isAgg145
 z76:=Try.sizeOf145
 v76:=Try.zeroValue145
 t77:=Try.underlying146
 a77:=Try.isAgg146
 z77:=Try.sizeOf146
 v77:=Try.zeroValue146 }
def Try.cmpInts_ren:Go.Shelf.Ren:=⟨fun | 5=>19 | 7=>44 | n=>n,fun | 22=>3 | 3=>3 | 4=>4 | n=>n,fun | n=>n⟩
end Go.Proofs
namespace Go.Proofs.Ytikghanejpigjaa
open Go
set_option linter.unusedSimpArgs false
set_option linter.unusedVariables false
theorem closurePairs_lt (x y:Int) (a b:Nat) (ca cb:Nat) (W:World) (hx:W.cell? ⟨a,0,none⟩=some (.int .i64 x)) (hy:W.cell? ⟨b,0,none⟩=some (.int .i64 y)) (h1:x<y) :
   Calls Try.prog 18 #[.slice (some ⟨a,0,none⟩) 2 ca,.slice (some ⟨b,0,none⟩) 2 cb] W fun e w'=>e = .returned (.int .i64 (-1))∧w'=W.drew:=by
 have hxx:(x != x)=false:=by simp
 have hyy:(y != y)=false:=by simp
 go_enter Try.func18,Try.ntmps18
 go_wp2
 go_region_calls
 all_goals (try go_wp2)
 all_goals go_ret
 all_goals exact ⟨rfl,rfl⟩
theorem closurePairs_gt (x y:Int) (a b:Nat) (ca cb:Nat) (W:World) (hx:W.cell? ⟨a,0,none⟩=some (.int .i64 x)) (hy:W.cell? ⟨b,0,none⟩=some (.int .i64 y)) (h1:¬ x<y) (h2:x>y) :
   Calls Try.prog 18 #[.slice (some ⟨a,0,none⟩) 2 ca,.slice (some ⟨b,0,none⟩) 2 cb] W fun e w'=>e = .returned (.int .i64 (1))∧w'=W.drew:=by
 have hxx:(x != x)=false:=by simp
 have hyy:(y != y)=false:=by simp
 go_enter Try.func18,Try.ntmps18
 go_wp2
 go_region_calls
 all_goals (try go_wp2)
 all_goals go_ret
 all_goals exact ⟨rfl,rfl⟩
theorem closurePairs_eq (x y:Int) (a b:Nat) (ca cb:Nat) (W:World) (hx:W.cell? ⟨a,0,none⟩=some (.int .i64 x)) (hy:W.cell? ⟨b,0,none⟩=some (.int .i64 y)) (h1:¬ x<y) (h2:¬ x>y) :
   Calls Try.prog 18 #[.slice (some ⟨a,0,none⟩) 2 ca,.slice (some ⟨b,0,none⟩) 2 cb] W fun e w'=>e = .returned (.int .i64 (0))∧w'=W.drew:=by
 have hxx:(x != x)=false:=by simp
 have hyy:(y != y)=false:=by simp
 go_enter Try.func18,Try.ntmps18
 go_wp2
 go_region_calls
 all_goals (try go_wp2)
 all_goals go_ret
 all_goals exact ⟨rfl,rfl⟩
section
open Go.Shelf Go.RowKit Go.Lib Go.Sort
theorem ltOf_key {n:Nat} (key:Fin n→Int) (x y:Fin n):ltOf (fun i j=>Lib.compareInt (key i) (key j)) x y=decide (key x<key y):=by
 unfold ltOf Lib.compareInt
 by_cases h1:key x<key y
 · simp [h1]
 · by_cases h2:key y<key x <;> simp [h1,h2]
theorem swo_key {n:Nat} (key:Fin n→Int):SWO (ltOf fun i j=>Lib.compareInt (key i) (key j)) where
 irrefl x:=by rw [ltOf_key];simp
 trans x y z h1 h2:=by rw [ltOf_key] at *;simp at *;omega
 ntrans x y z h1 h2:=by rw [ltOf_key] at *;simp at *;omega
theorem putRow_setRow {α : Type} [Inhabited α] (enc : α → Value) (w:World) (blk off:Nat) (d:Array α) {arr:Array Value} {e:TypeId} {fr:Nat × Nat} (hh:w.heap[blk]?=some (.cells arr e fr)):putRow enc w blk off d=w.setRow blk (putCells enc off d arr):=by
 unfold putRow mapBlock World.setRow
 congr 1
 apply Array.ext_getElem?
 intro k
 simp only [Array.getElem?_modify]
 by_cases hk:blk=k
 · subst hk
   simp only [if_true,hh,Option.map_some,onCells]
 · simp [hk]
theorem extract_full {α : Type} (d:Array α) {n:Nat} (h:d.size=n):d.extract 0 n=d:=by subst h;exact Array.extract_size
theorem sortsPairs:SortsBy Try.prog 17 18:=by
 constructor
 · intro p cap w
   exact AnyF.slices_SortFunc_none (P:=Try.prog) (ρ := Try.sortPairs_ren) { Try.sortPairs with } p cap (.func (.func 18) #[] #[]) w
 · intro n enc key blk cap arr e fr w hn hlim hh hfree harr hel
   haveI:Inhabited (Fin n):=⟨⟨0,hn⟩⟩
   obtain ⟨d,hd⟩:∃ d:Array (Fin n),d=Array.ofFn id:=⟨_,rfl⟩
   have hsz:d.size=n:=by rw [hd,Array.size_ofFn]
   have hdj:∀ (j:Nat) (hj:j<n),d[j]! =⟨j,hj⟩:=fun j hj=>by rw [hd,getElem!_pos _ j (by simpa using hj)];simp
   have hblk:blk<w.heap.size:=(Array.getElem?_eq_some_iff.1 hh).1
   have hH:Holds enc w blk 0 d:=fun j hj=>by
     rw [hsz] at hj
     rw [Nat.zero_add,hdj j hj]
     refine ⟨by rw [cell_of_row w _ _ arr e fr hh];exact harr ⟨j,hj⟩,?_⟩
     simp only [World.frozen?,hh]
     have:=hfree j hj
     simpa using this
   have hone:OneCell enc:=fun x=>by obtain ⟨b,c,e1,_⟩:=hel x;rw [e1];rfl
   have hcmp:CmpLays1 Try.prog 18 #[] enc (fun i j=>Lib.compareInt (key i) (key j)) blk 0 d.size w:=by
     intro m os dk hs x y
     obtain ⟨b1,c1,e1,n1,k1⟩:=hel x
     obtain ⟨b2,c2,e2,n2,k2⟩:=hel y
     have hcell:∀ (b:Nat) (v:Value),b≠blk→w.cell? ⟨b,0,none⟩=some v→(sortWorld enc w blk 0 m dk os).cell? ⟨b,0,none⟩=some v:=fun b v hb hv=>by
       have hlt:b<w.heap.size:=World.block_lt_of_cell? _ _ hv
       unfold sortWorld
       rw [cell?_grow _ _ _ (by rw [size_putRow];exact hlt),cell?_putRow_other _ _ _ _ _ _ (Or.inl hb),cell?_ahead]
       exact hv
     have q1:=hcell b1 _ n1 k1
     have q2:=hcell b2 _ n2 k2
     generalize sortWorld enc w blk 0 m dk os=W at q1 q2 ⊢
     show Calls _ _ #[enc x,enc y] W _
     rw [e1,e2]
     have fin:∀ (r:Int),Lib.compareInt (key x) (key y)=r→(Calls Try.prog 18 #[.slice (some ⟨b1,0,none⟩) 2 c1,.slice (some ⟨b2,0,none⟩) 2 c2] W fun e w'=>e = .returned (.int .i64 r)∧w'=W.drew)→Calls Try.prog 18 #[.slice (some ⟨b1,0,none⟩) 2 c1,.slice (some ⟨b2,0,none⟩) 2 c2] W fun e w'=>e = .returned (.int .i64 (Lib.compareInt (key x) (key y)))∧∃ q os',w'=grow (W.drewN q) os':=fun r hr h=>h.mono fun e w' ⟨a1,a2⟩=>⟨by rw [a1,hr],1, #[],by rw [a2,grow_empty];rfl⟩
     by_cases g1:key x<key y
     · exact fin (-1) (by simp [Lib.compareInt,g1]) (closurePairs_lt _ _ b1 b2 c1 c2 W q1 q2 g1)
     · by_cases g2 : key x > key y
       · exact fin 1 (by simp [Lib.compareInt,g1,g2]) (closurePairs_gt _ _ b1 b2 c1 c2 W q1 q2 g1 g2)
       · exact fin 0 (by simp [Lib.compareInt,g1,g2]) (closurePairs_eq _ _ b1 b2 c1 c2 W q1 q2 g1 g2)
   have eg:∀ args w,(callFunc 18 args).run Try.prog w = .ok (.enter 18 args) w:=enters_of Try.func18 (by kernel_rfl) rfl
   have h:=Any.slices_SortFunc Try.sortPairs enc hone (fun i j=>Lib.compareInt (key i) (key j)) (swo_key key) 18 #[] blk 0 cap d w eg hcmp hH hblk (by omega)
   rw [hsz] at h
   change Calls Try.prog 17 _ _ _ at h
   refine h.mono ?_
   rintro e' w' ⟨rfl,d',m,os,hp,hs,rfl⟩
   obtain ⟨p1,_,p3⟩:=hp
   have p1':d'.size=n:=by rw [p1,hsz]
   rw [extract_full d' p1',extract_full d hsz] at p3
   have hdl:d.toList=List.finRange n:=by rw [hd,Array.toList_ofFn];rfl
   refine ⟨rfl,d'.toList,putCells enc 0 d' arr,m,os,hdl ▸ p3,?_,by simp [putCells],fun j k hj=>?_,fun j hj=>?_,?_⟩
   · rw [List.pairwise_iff_getElem]
     intro i j hi hj hij
     have:=hs i j (Nat.zero_le _) hij (by simpa [p1'] using hj)
     rw [ltOf_key,getElem!_pos d' j (by simpa using hj),getElem!_pos d' i (by simpa using hi)] at this
     simp at this
     simpa using this
   · have hjn : j < n := by have := (List.getElem?_eq_some_iff.1 hj).1; simpa [p1'] using this
     have hja:j<arr.size:=(Array.getElem?_eq_some_iff.1 (harr ⟨j,hjn⟩)).1
     have hk:d'[j]! =k:=by
       rw [Array.getElem?_toList] at hj
       rw [getElem!_pos d' j (by omega)]
       exact (Array.getElem?_eq_some_iff.1 hj).2
     unfold putCells
     rw [Array.getElem?_mapIdx,Array.getElem?_eq_getElem hja]
     simp only [Option.map_some,Nat.zero_le,true_and,Nat.zero_add,p1',if_pos hjn,Nat.sub_zero,hk]
   · unfold putCells
     rw [Array.getElem?_mapIdx]
     cases hq:arr[j]? with
     | none=>rfl
     | some v=>simp only [Option.map_some,Nat.zero_le,true_and,Nat.zero_add,p1'];rw [if_neg (by omega)]
   · unfold sortWorld
     rw [putRow_ahead,putRow_setRow enc w blk 0 d' hh]
     rfl
end
end Go.Proofs.Ytikghanejpigjaa
