/-
 The cursor and the small draws. Own work; no condition.
-/
import Derived.Test.YtolhegocbkckdaaGreatMg10
import Derived.Test.YtolhegocbkckdaaGreatMg15
namespace Go.Proofs.YtolhegocbkckdaaGreat
open Go
set_option linter.unusedSimpArgs false
set_option linter.unusedVariables false
theorem WW {a n:Int} (h:0≤a):0≤a.tmod n:=Int.tmod_nonneg _ h
theorem WY {a n:Int} (_h:0≤a) (hn:0<n):a.tmod n≤n - 1:=by
 have:=Int.tmod_lt_of_pos a hn
 omega
theorem d9 {b:V} (hb:Bytes b):bN Tryz.prog 70 b [] iV (fun x=>0≤x∧x≤255):=by
 intro s H l i h hi hh
 obtain ⟨k,rfl⟩:=Int.eq_ofNat_of_zero_le hi
 rcases hb with rfl | ⟨bs,rfl,hlen⟩
 · have h0 : ¬ ((k : Int) < 0) := by omega
   refine zi.jX Tryz.func70 rfl (by kernel_rfl) ?_
   repeat' first|(refine zU ?_;first|(refine zq.zN zx 0 hh rfl rfl rfl rfl rfl rfl rfl rfl rfl ?_;intro s hh))|(refine zf ?_;first|(refine zq.nil ?_)|(refine zq.ev zx rfl ?_)|(refine zo ?_;first|(refine zq.ans (zk.zM zx 0 hh rfl rfl rfl rfl) ?_))|(refine xk ?_;first|(refine zq.ans (zk.arith rfl rfl rfl) ?_)))|(refine zH ?_;first|(refine WL.seq ?_)|(refine WL.region (by kernel_rfl) ?_)|(refine WL.drawn (id:=2) [0,1,2,3,4,5,6,7,8,9,10,11,12] [] [[],[0],[0,1],[0,1,2],[0,1,2,3],[],[5],[5,6],[5,6,7],[5,6,7,8],[0,1,2,3,4,5,6,7,8,9],[0,1,2,3,4,5,6,7,8,9,10],[0,1,2,3,4,5,6,7,8,9,10,11]] (by kernel_rfl) (by kernel_rfl) ?_)|(refine WL.drawn (id:=3) [0,1,2,3,4,5,6,7,8,9] [] [[],[0],[0,1],[0,1,2],[],[4],[4,5],[4,5,6],[4,5,6,7],[0,1,2,3,4,5,6,7,8]] (by kernel_rfl) (by kernel_rfl) ?_)|(refine WL.skip ?_)|(refine WL.ret ?_)|(refine zu ?_;first|(refine WL.qQ rfl ?_)))|(refine vN ?_;first|(refine zA.nil ?_)|(refine zA.fl rfl rfl (.ev zx rfl) ?_)|(refine qo rfl ?_;first|(refine zA.fl rfl rfl (zk.zM zx 0 hh rfl rfl rfl rfl) ?_))|(refine yj rfl ?_;first|(refine zA.fl rfl rfl (zk.shr rfl rfl rfl) ?_)))|(refine zw ?_)|(refine zh.r1 (r := .tmp 2) (.inl rfl) (zn.tmp rfl) ?_)
   all_goals
     apply bN.fin (hh:=hh)
     case hv=>first | exact Val.vg _ _ _ | rfl
     case hs=>(first|(refine zK.cons 0 rfl rfl ?_)|(refine zK.cons 1 rfl rfl ?_)|(refine zK.cons 2 rfl rfl ?_)|(refine zK.cons 3 rfl rfl ?_)|(refine zK.cons 4 rfl rfl ?_)|(refine zK.cons 5 rfl rfl ?_)|(refine zK.cons 6 rfl rfl ?_)|(refine zK.cons 7 rfl rfl ?_));(repeat' first|(exact zK.refl _)|(refine zK.drop ?_))
     case hi=>first | assumption | omega |(simp;omega)
     case hp=>exact band_255 _
 · by_cases hlt : k < bs.length
   · have hga : (bs.map yA)[k]? = some (yA bs[k]) := by rw [List.getElem?_map, List.getElem?_eq_getElem hlt]; rfl
     have hmx:(maxLen:Int)=9223372036854775807:=rfl
     generalize bs[k]=y at hga
     refine zi.jX Tryz.func70 rfl (by kernel_rfl) ?_
     repeat' first|(refine zU ?_;first|(refine zq.zN zx 0 hh rfl rfl rfl rfl rfl rfl rfl rfl rfl ?_;intro s hh))|(refine zf ?_;first|(refine zq.nil ?_)|(refine zq.ev zx rfl ?_)|(refine zo ?_;first|(refine zq.ans (zk.zM zx 0 hh rfl rfl rfl rfl) ?_))|(refine xk ?_;first|(refine zq.ans (zk.add rfl rfl ?_) ?_;(focus (constructor <;> omega)))|(refine zq.ans (zk.arith rfl rfl rfl) ?_)))|(refine zH ?_;first|(refine WL.seq ?_)|(refine WL.region (by kernel_rfl) ?_)|(refine WL.drawn (id:=2) [0,1,2,3,4,5,6,7,8,9,10,11,12] [] [[],[0],[0,1],[0,1,2],[0,1,2,3],[],[5],[5,6],[5,6,7],[5,6,7,8],[0,1,2,3,4,5,6,7,8,9],[0,1,2,3,4,5,6,7,8,9,10],[0,1,2,3,4,5,6,7,8,9,10,11]] (by kernel_rfl) (by kernel_rfl) ?_)|(refine WL.drawn (id:=3) [0,1,2,3,4,5,6,7,8,9] [] [[],[0],[0,1],[0,1,2],[],[4],[4,5],[4,5,6],[4,5,6,7],[0,1,2,3,4,5,6,7,8]] (by kernel_rfl) (by kernel_rfl) ?_)|(refine WL.drawn (id:=4) [0,1,2,3,4,5,6,7,8,9,10,11,12,13,14] [14] [[],[],[1],[1,2],[1,2,3],[],[5],[5,6],[5,6,7],[1,2,3,4,5,6,7,8],[1,2,3,4,5,6,7,8,9],[1,2,3,4,5,6,7,8,9,10],[0,1,2,3,4,5,6,7,8,9,10,11],[0,1,2,3,4,5,6,7,8,9,10,11,12],[0,1,2,3,4,5,6,7,8,9,10,11,12,13]] (by kernel_rfl) (by kernel_rfl) ?_)|(refine WL.ret ?_)|(refine zu ?_;first|(refine WL.zJ rfl ?_ ?_;(focus (first|(simp <;> omega))))))|(refine vN ?_;first|(refine zA.nil ?_)|(refine zA.fl rfl rfl (.ev zx rfl) ?_)|(refine qo rfl ?_;first|(refine zA.fl rfl rfl (zk.zM zx 0 hh rfl rfl rfl rfl) ?_))|(refine uM rfl ?_;first|(refine zA.fl rfl rfl (zk.z8 zx rfl rfl rfl) ?_))|(refine yj rfl ?_;first|(refine zA.fl rfl rfl (zk.arith rfl rfl rfl) ?_)|(refine zA.fl rfl rfl (zk.shr rfl rfl rfl) ?_))|(refine kQ rfl ?_;first|(refine zA.fl rfl rfl (zk.idx zx rfl rfl rfl rfl rfl hga rfl rfl) ?_))|(refine zA.iY rfl rfl rfl ?_))|(refine zw ?_)|(refine zh.r1 (r := .tmp 2) (.inl rfl) (zn.tmp rfl) ?_)|(refine And.intro ?_ ?_)|(exact xR.nil)
     all_goals
       apply bN.fin (hh:=hh)
       case hv=>first | exact Val.vg _ _ _ | rfl
       case hs=>(first|(refine zK.cons 0 rfl rfl ?_)|(refine zK.cons 1 rfl rfl ?_)|(refine zK.cons 2 rfl rfl ?_)|(refine zK.cons 3 rfl rfl ?_)|(refine zK.cons 4 rfl rfl ?_)|(refine zK.cons 5 rfl rfl ?_)|(refine zK.cons 6 rfl rfl ?_)|(refine zK.cons 7 rfl rfl ?_));(repeat' first|(exact zK.refl _)|(refine zK.drop ?_))
       case hi=>first | assumption | omega |(simp;omega)
       case hp=>exact band_255 _
   · refine zi.jX Tryz.func70 rfl (by kernel_rfl) ?_
     repeat' first|(refine zU ?_;first|(refine zq.zN zx 0 hh rfl rfl rfl rfl rfl rfl rfl rfl rfl ?_;intro s hh))|(refine zf ?_;first|(refine zq.nil ?_)|(refine zq.ev zx rfl ?_)|(refine zo ?_;first|(refine zq.ans (zk.zM zx 0 hh rfl rfl rfl rfl) ?_))|(refine xk ?_;first|(refine zq.ans (zk.arith rfl rfl rfl) ?_)))|(refine zH ?_;first|(refine WL.seq ?_)|(refine WL.region (by kernel_rfl) ?_)|(refine WL.drawn (id:=2) [0,1,2,3,4,5,6,7,8,9,10,11,12] [] [[],[0],[0,1],[0,1,2],[0,1,2,3],[],[5],[5,6],[5,6,7],[5,6,7,8],[0,1,2,3,4,5,6,7,8,9],[0,1,2,3,4,5,6,7,8,9,10],[0,1,2,3,4,5,6,7,8,9,10,11]] (by kernel_rfl) (by kernel_rfl) ?_)|(refine WL.drawn (id:=3) [0,1,2,3,4,5,6,7,8,9] [] [[],[0],[0,1],[0,1,2],[],[4],[4,5],[4,5,6],[4,5,6,7],[0,1,2,3,4,5,6,7,8]] (by kernel_rfl) (by kernel_rfl) ?_)|(refine WL.skip ?_)|(refine WL.ret ?_)|(refine zu ?_;first|(refine WL.zY rfl ?_ ?_;(focus (first|(simp <;> omega))))))|(refine vN ?_;first|(refine zA.nil ?_)|(refine zA.fl rfl rfl (.ev zx rfl) ?_)|(refine qo rfl ?_;first|(refine zA.fl rfl rfl (zk.zM zx 0 hh rfl rfl rfl rfl) ?_))|(refine uM rfl ?_;first|(refine zA.fl rfl rfl (zk.z8 zx rfl rfl rfl) ?_))|(refine yj rfl ?_;first|(refine zA.fl rfl rfl (zk.shr rfl rfl rfl) ?_)))|(refine zw ?_)|(refine zh.r1 (r := .tmp 2) (.inl rfl) (zn.tmp rfl) ?_)
     all_goals
       apply bN.fin (hh:=hh)
       case hv=>first | exact Val.vg _ _ _ | rfl
       case hs=>(first|(refine zK.cons 0 rfl rfl ?_)|(refine zK.cons 1 rfl rfl ?_)|(refine zK.cons 2 rfl rfl ?_)|(refine zK.cons 3 rfl rfl ?_)|(refine zK.cons 4 rfl rfl ?_)|(refine zK.cons 5 rfl rfl ?_)|(refine zK.cons 6 rfl rfl ?_)|(refine zK.cons 7 rfl rfl ?_));(repeat' first|(exact zK.refl _)|(refine zK.drop ?_))
       case hi=>first | assumption | omega |(simp;omega)
       case hp=>exact band_255 _
def OV:V→Bool
 | .int .i64 _=>true
 | _=>false
def OW:V→Bool
 | .str _=>true
 | _=>false
def Ld (vs:List V) (n:Int):Int:=match vs[n.toNat]? with
 | some (.int .i64 z)=>z
 | _=>0
def VQ (vs:List V) (n:Int):List UInt8:=match vs[n.toNat]? with
 | some (.str z)=>z
 | _=>[]
theorem WU {vs:List V} {n:Int} (hv:vs.all OV=true) (h0:0≤n) (h1:n≤vs.length - 1):vs[n.toNat]?=some (.int .i64 (Ld vs n)):=by
 have hlt:n.toNat<vs.length:=by omega
 have h:=List.all_eq_true.1 hv _ (List.getElem_mem hlt)
 unfold Ld
 rw [List.getElem?_eq_getElem hlt]
 generalize vs[n.toNat]=v at h
 unfold OV at h
 split at h
 · rfl
 · cases h
theorem iC {vs:List V} {n:Int} (hv:vs.all OW=true) (h0:0≤n) (h1:n≤vs.length - 1):vs[n.toNat]?=some (.str (VQ vs n)):=by
 have hlt:n.toNat<vs.length:=by omega
 have h:=List.all_eq_true.1 hv _ (List.getElem_mem hlt)
 unfold VQ
 rw [List.getElem?_eq_getElem hlt]
 generalize vs[n.toNat]=v at h
 unfold OW at h
 split at h
 · rfl
 · cases h
theorem zP {b:V} (hb:Bytes b) {n:Int} (hn:0<n):bN Tryz.prog 38 b [.int .i64 n] iV (fun x=>0≤x∧x≤n - 1):=by
 intro s H l i h hi hh
 have h0:¬ (n≤0):=by omega
 by_cases c:n≤256
 · refine zi.jX Tryz.func38 rfl (by kernel_rfl) ?_
   repeat' first|(refine zy 70 ?_;first|(refine zq.qc 0 rfl rfl Em hh rfl rfl ?_ (d9 hb) ?_;(focus (first | assumption | omega)) ;intro s x i h hq hi hh ;try dsimp only))|(refine zf ?_;first|(refine zq.nil ?_)|(refine zq.ev zx rfl ?_)|(refine xk ?_;first|(refine zq.ans (zk.rem rfl rfl hn) ?_)))|(refine zH ?_;first|(refine WL.seq ?_)|(refine WL.region (by kernel_rfl) ?_)|(refine WL.skip ?_)|(refine WL.ret ?_)|(refine zu ?_;first|(refine WL.zJ rfl ?_ ?_;(focus (first|(exact decide_eq_true (by assumption)))))|(refine WL.zY rfl ?_ ?_;(focus (first|(exact decide_eq_false (by assumption)))))))|(refine zw ?_)|(refine zZ ?_)|(refine zh.r1 (r := .tmp 4) (.inl rfl) (zn.tmp rfl) ?_)
   all_goals
     apply bN.fin (hh:=hh)
     case hv=>first | exact Val.vg _ _ _ | rfl
     case hs=>(first|(refine zK.cons 0 rfl rfl ?_)|(refine zK.cons 1 rfl rfl ?_)|(refine zK.cons 2 rfl rfl ?_)|(refine zK.cons 3 rfl rfl ?_)|(refine zK.cons 4 rfl rfl ?_)|(refine zK.cons 5 rfl rfl ?_)|(refine zK.cons 6 rfl rfl ?_)|(refine zK.cons 7 rfl rfl ?_));(repeat' first|(exact zK.refl _)|(refine zK.drop ?_))
     case hi=>first | assumption | omega |(simp;omega)
     case hp=>exact ⟨WW (by omega),WY (by omega) hn⟩
 · refine zi.jX Tryz.func38 rfl (by kernel_rfl) ?_
   repeat' first|(refine zy 70 ?_;first|(refine zq.qc 0 rfl rfl Em hh rfl rfl ?_ (d9 hb) ?_;(focus (first | assumption | omega)) ;intro s x i h hq hi hh ;try dsimp only))|(refine zf ?_;first|(refine zq.nil ?_)|(refine zq.ev zx rfl ?_)|(refine xk ?_;first|(refine zq.ans (zk.rem rfl rfl hn) ?_)|(refine zq.ans (zk.add rfl rfl ?_) ?_;(focus (constructor <;> omega)))|(refine zq.ans (zk.mul rfl rfl ?_) ?_;(focus (constructor <;> omega)))))|(refine zH ?_;first|(refine WL.seq ?_)|(refine WL.region (by kernel_rfl) ?_)|(refine WL.skip ?_)|(refine WL.ret ?_)|(refine zu ?_;first|(refine WL.zY rfl ?_ ?_;(focus (first|(exact decide_eq_false (by assumption)))))))|(refine zw ?_)|(refine zh.r1 (r := .tmp 4) (.inl rfl) (zn.tmp rfl) ?_)
   all_goals
     apply bN.fin (hh:=hh)
     case hv=>first | exact Val.vg _ _ _ | rfl
     case hs=>(first|(refine zK.cons 0 rfl rfl ?_)|(refine zK.cons 1 rfl rfl ?_)|(refine zK.cons 2 rfl rfl ?_)|(refine zK.cons 3 rfl rfl ?_)|(refine zK.cons 4 rfl rfl ?_)|(refine zK.cons 5 rfl rfl ?_)|(refine zK.cons 6 rfl rfl ?_)|(refine zK.cons 7 rfl rfl ?_));(repeat' first|(exact zK.refl _)|(refine zK.drop ?_))
     case hi=>first | assumption | omega |(simp;omega)
     case hp=>exact ⟨WW (by omega),WY (by omega) hn⟩
theorem qg {b:V} (hb:Bytes b) {n:Int} (hn:0<n):bN Tryz.prog 68 b [.int .i64 n] V.bool (fun _=>True):=by
 intro s H l i h hi hh
 refine zi.jX Tryz.func68 rfl (by kernel_rfl) ?_
 repeat' first|(refine zy 38 ?_;first|(refine zq.qc 0 rfl rfl vE hh rfl rfl ?_ (zP hb (by omega)) ?_;(focus (first | assumption | omega)) ;intro s x i h hq hi hh ;try dsimp only))|(refine zf ?_;first|(refine zq.nil ?_)|(refine zq.ev zx rfl ?_))|(refine zH ?_;first|(refine WL.seq ?_)|(refine WL.region (by kernel_rfl) ?_)|(refine WL.ret ?_))|(refine zw ?_)|(refine zh.r1 (r := .tmp 4) (.inl rfl) (zn.tmp rfl) ?_)
 all_goals
   apply bN.fin (hh:=hh)
   case hv=>first | exact Val.vg _ _ _ | rfl
   case hs=>(first|(refine zK.cons 0 rfl rfl ?_)|(refine zK.cons 1 rfl rfl ?_)|(refine zK.cons 2 rfl rfl ?_)|(refine zK.cons 3 rfl rfl ?_)|(refine zK.cons 4 rfl rfl ?_)|(refine zK.cons 5 rfl rfl ?_)|(refine zK.cons 6 rfl rfl ?_)|(refine zK.cons 7 rfl rfl ?_));(repeat' first|(exact zK.refl _)|(refine zK.drop ?_))
   case hi=>first | assumption | omega |(simp;omega)
   case hp=>trivial
theorem uG {b:V} (hb:Bytes b) {k:Nat} {vs:List V} (hv:vs.all OV=true) (hl:0<vs.length):bN Tryz.prog 80 b [.sl k vs] iV (fun x=>V.int .i64 x∈vs):=by
 intro s H l i h hi hh
 refine zi.jX Tryz.func80 rfl (by kernel_rfl) ?_
 repeat' first|(refine zy 38 ?_;first|(refine zq.qc 0 rfl rfl vE hh rfl rfl ?_ (zP hb (by omega)) ?_;(focus (first | assumption | omega)) ;intro s x i h hq hi hh ;try dsimp only))|(refine zf ?_;first|(refine zq.nil ?_)|(refine zq.ev zx rfl ?_)|(refine qx ?_;first|(refine zq.ans (zk.rH zx rfl rfl rfl) ?_))|(refine xw ?_;first|(refine zq.ans (zk.UZ zx rfl rfl rfl rfl rfl ?_ (WU hv ?_ ?_) rfl rfl) ?_;(focus (omega));(focus (omega));(focus (omega)))))|(refine zH ?_;first|(refine WL.seq ?_)|(refine WL.region (by kernel_rfl) ?_)|(refine WL.ret ?_))|(refine zw ?_)|(refine zh.r1 (r := .tmp 4) (.inl rfl) (zn.tmp rfl) ?_)
 all_goals
   apply bN.fin (hh:=hh)
   case hv=>first | exact Val.vg _ _ _ | rfl
   case hs=>(first|(refine zK.cons 0 rfl rfl ?_)|(refine zK.cons 1 rfl rfl ?_)|(refine zK.cons 2 rfl rfl ?_)|(refine zK.cons 3 rfl rfl ?_)|(refine zK.cons 4 rfl rfl ?_)|(refine zK.cons 5 rfl rfl ?_)|(refine zK.cons 6 rfl rfl ?_)|(refine zK.cons 7 rfl rfl ?_));(repeat' first|(exact zK.refl _)|(refine zK.drop ?_))
   case hi=>first | assumption | omega |(simp;omega)
   case hp=>exact List.mem_of_getElem? (WU hv (by omega) (by omega))
theorem vC {b:V} (hb:Bytes b) {k:Nat} {vs:List V} (hv:vs.all OW=true) (hl:0<vs.length):bN Tryz.prog 76 b [.sl k vs] V.str (fun x=>V.str x∈vs):=by
 intro s H l i h hi hh
 refine zi.jX Tryz.func76 rfl (by kernel_rfl) ?_
 repeat' first|(refine zy 38 ?_;first|(refine zq.qc 0 rfl rfl vE hh rfl rfl ?_ (zP hb (by omega)) ?_;(focus (first | assumption | omega)) ;intro s x i h hq hi hh ;try dsimp only))|(refine zf ?_;first|(refine zq.nil ?_)|(refine zq.ev zx rfl ?_)|(refine qx ?_;first|(refine zq.ans (zk.rH zx rfl rfl rfl) ?_))|(refine xw ?_;first|(refine zq.ans (zk.UZ zx rfl rfl rfl rfl rfl ?_ (iC hv ?_ ?_) rfl rfl) ?_;(focus (omega));(focus (omega));(focus (omega)))))|(refine zH ?_;first|(refine WL.seq ?_)|(refine WL.region (by kernel_rfl) ?_)|(refine WL.ret ?_))|(refine zw ?_)|(refine zh.r1 (r := .tmp 4) (.inl rfl) (zn.tmp rfl) ?_)
 all_goals
   apply bN.fin (hh:=hh)
   case hv=>first | exact Val.vg _ _ _ | rfl
   case hs=>(first|(refine zK.cons 0 rfl rfl ?_)|(refine zK.cons 1 rfl rfl ?_)|(refine zK.cons 2 rfl rfl ?_)|(refine zK.cons 3 rfl rfl ?_)|(refine zK.cons 4 rfl rfl ?_)|(refine zK.cons 5 rfl rfl ?_)|(refine zK.cons 6 rfl rfl ?_)|(refine zK.cons 7 rfl rfl ?_));(repeat' first|(exact zK.refl _)|(refine zK.drop ?_))
   case hi=>first | assumption | omega |(simp;omega)
   case hp=>exact List.mem_of_getElem? (iC hv (by omega) (by omega))
theorem Jd {b:V} (hb:Bytes b):U3 Tryz.prog 36 b:=by
 intro s H hh
 rcases hb with rfl | ⟨bs,rfl,hlen⟩
 · refine zi.jX Tryz.func36 rfl (by kernel_rfl) ?_
   repeat' first|(refine zf ?_;first|(refine zq.nil ?_)|(refine zq.ev zx rfl ?_)|(refine xk ?_;first|(refine zq.ans (zk.add rfl rfl ?_) ?_;(focus (constructor <;> omega)))))|(refine zH ?_;first|(refine WL.seq ?_)|(refine WL.region (by kernel_rfl) ?_)|(refine WL.block ?_))|(refine zw ?_)
   refine WL.yw (fun _:Unit=>0) (fun _=>[(0,.zl),(3,.int .i64 28322),(4,.int .i64 0)]) (fun _=>H) (fun _=>True) () trivial ⟨rfl,rfl,rfl,trivial⟩ hh (zK.refl _) (fun x s hI hh=>?_)
   repeat' first|(refine qW ?_;first|(refine zq.gZ hh rfl rfl ?_;intro s n hh))|(refine zf ?_;first|(refine zq.nil ?_)|(refine kG ?_;first|(refine zq.gF rfl rfl rfl ?_))|(refine zq.ev zx rfl ?_))|(refine zH ?_;first|(refine WL.seq ?_)|(refine WL.region (by kernel_rfl) ?_)|(refine WL.exit ?_)|(refine WL.ret ?_)|(refine zu ?_;first|(refine WL.qQ rfl ?_)))|(refine zw ?_)|(refine zC ?_)|(refine zV ?_)|(refine ko ?_)|(refine zh.r1 (r := .tmp 2) (.inl rfl) (zn.tmp rfl) ?_)
   exact ⟨_,_,_,rfl,rfl,hh⟩
 · refine zi.jX Tryz.func36 rfl (by kernel_rfl) ?_
   repeat' first|(refine zf ?_;first|(refine zq.nil ?_)|(refine zq.ev zx rfl ?_)|(refine qx ?_;first|(refine zq.ans (zk.z8 zx rfl rfl rfl) ?_))|(refine xk ?_;first|(refine zq.ans (zk.arith rfl rfl rfl) ?_)))|(refine zH ?_;first|(refine WL.seq ?_)|(refine WL.region (by kernel_rfl) ?_)|(refine WL.block ?_))|(refine zw ?_)
   refine WL.yw (fun x:Int × Int=>bs.length - x.1.toNat) (fun x=>[(0,.sl 0 (bs.map yA)),(3,.int .i64 x.2),(4,.int .i64 x.1)]) (fun _=>H) (fun x=>0≤x.1∧x.1≤bs.length) (0,_) ⟨Int.le_refl _,Int.natCast_nonneg _⟩ ⟨rfl,rfl,rfl,trivial⟩ hh (zK.refl _) (fun x s hI hh=>?_)
   obtain ⟨z,g⟩:=x
   dsimp only at hI hh ⊢
   obtain ⟨hz,hI⟩:=hI
   by_cases hlt:z<(bs.length:Int)
   · have hzl : z.toNat < bs.length := by omega
     have hga:(bs.map yA)[z.toNat]?=some (yA bs[z.toNat]):=by rw [List.getElem?_map,List.getElem?_eq_getElem hzl];rfl
     have hmx:(maxLen:Int)=9223372036854775807:=rfl
     generalize bs[z.toNat]=y at hga
     by_cases h4:z<4000
     · skip
       repeat' first|(refine zf ?_;first|(refine zq.nil ?_)|(refine kG ?_;first|(refine zq.gT rfl rfl rfl ?_)|(refine zq.gD true rfl rfl rfl ?_ ?_;(focus (first|(exact decide_eq_true (by assumption))))))|(refine zq.ev zx rfl ?_)|(refine qx ?_;first|(refine zq.ans (zk.z8 zx rfl rfl rfl) ?_))|(refine xk ?_;first|(refine zq.ans (zk.add rfl rfl ?_) ?_;(focus (constructor <;> omega)))|(refine zq.ans (zk.arith rfl rfl rfl) ?_))|(refine xw ?_;first|(refine zq.ans (zk.UZ zx rfl rfl rfl rfl rfl hz hga rfl rfl) ?_)))|(refine zH ?_;first|(refine WL.seq ?_)|(refine WL.region (by kernel_rfl) ?_)|(refine WL.block ?_)|(refine WL.skip ?_)|(refine zu ?_;first|(refine WL.zJ rfl ?_ ?_;(focus (first|(exact decide_eq_true (by assumption)))))))|(refine zw ?_)|(refine zQ ?_)
       refine' kW.of (z+1,_) ?_ hh ?_ ?_ ?_
       rotate_left 1
       · repeat' first | exact qz.nil |(refine qz.mk rfl ?_ ?_) | rfl
       · exact zK.refl _
       · dsimp only;omega
       · dsimp only;omega
     · skip
       repeat' first|(refine qW ?_;first|(refine zq.gZ hh rfl rfl ?_;intro s n hh))|(refine zf ?_;first|(refine zq.nil ?_)|(refine kG ?_;first|(refine zq.gT rfl rfl rfl ?_)|(refine zq.gD true rfl rfl rfl ?_ ?_;(focus (first|(exact decide_eq_true (by assumption))))))|(refine zq.ev zx rfl ?_)|(refine qx ?_;first|(refine zq.ans (zk.z8 zx rfl rfl rfl) ?_)))|(refine zH ?_;first|(refine WL.seq ?_)|(refine WL.region (by kernel_rfl) ?_)|(refine WL.exit ?_)|(refine WL.ret ?_)|(refine zu ?_;first|(refine WL.zY rfl ?_ ?_;(focus (first|(exact decide_eq_false (by assumption)))))))|(refine zw ?_)|(refine zC ?_)|(refine zV ?_)|(refine ko ?_)|(refine zh.r1 (r := .tmp 2) (.inl rfl) (zn.tmp rfl) ?_)
       exact ⟨_,_,_,rfl,rfl,hh⟩
   · skip
     repeat' first|(refine qW ?_;first|(refine zq.gZ hh rfl rfl ?_;intro s n hh))|(refine zf ?_;first|(refine zq.nil ?_)|(refine kG ?_;first|(refine zq.gF rfl rfl rfl ?_)|(refine zq.gD false rfl rfl rfl ?_ ?_;(focus (first|(exact decide_eq_false (by assumption))))))|(refine zq.ev zx rfl ?_)|(refine qx ?_;first|(refine zq.ans (zk.z8 zx rfl rfl rfl) ?_)))|(refine zH ?_;first|(refine WL.seq ?_)|(refine WL.region (by kernel_rfl) ?_)|(refine WL.exit ?_)|(refine WL.ret ?_)|(refine zu ?_;first|(refine WL.qQ rfl ?_)))|(refine zw ?_)|(refine zC ?_)|(refine zV ?_)|(refine ko ?_)|(refine zh.r1 (r := .tmp 2) (.inl rfl) (zn.tmp rfl) ?_)
     exact ⟨_,_,_,rfl,rfl,hh⟩
theorem jg {b:V} (hb:Bytes b):bN Tryz.prog 45 b [] iV (fun _=>True):=by
 intro s H l i h hi hh
 refine zi.jX Tryz.func45 rfl (by kernel_rfl) ?_
 repeat' first|(refine kZ ?_;refine' zq.XK zx rfl rfl rfl rfl rfl rfl rfl rfl hh ?_ ?_ ?_;rotate_left 2 ;(focus ((repeat' first|(exact xE.sK rfl rfl));done)) ;(focus ((repeat' first|(exact jM.of rfl));done)) ;intro s n hh)|(refine zy 38 ?_;first|(refine zq.qc 0 rfl rfl vE hh rfl rfl ?_ (zP hb (by omega)) ?_;(focus (first | assumption | omega)) ;intro s x i h hq hi hh ;try dsimp only))|(refine zy 80 ?_;first|(refine zq.qc 1 rfl rfl Es hh rfl rfl ?_ (uG hb rfl (by simp)) ?_;(focus (first | assumption | omega)) ;intro s x i h hq hi hh ;try dsimp only))|(refine zf ?_;first|(refine zq.nil ?_)|(refine zq.ev zx rfl ?_)|(refine xk ?_;first|(refine zq.ans (zk.sub rfl rfl ?_) ?_;(focus (constructor <;> omega)))))|(refine zH ?_;first|(refine WL.seq ?_)|(refine WL.region (by kernel_rfl) ?_)|(refine WL.block ?_)|(refine WL.skip ?_)|(refine WL.ret ?_)|(refine zu ?_;first|(refine WL.cond rfl (fun h=>?_) (fun h=>?_))))|(refine zw ?_)|(refine zZ ?_)|(refine zQ ?_)|(refine zB ?_)|(refine zh.r1 (r := .tmp 2) (.inl rfl) (zn.tmp rfl) ?_)
 all_goals
   apply bN.fin (hh:=hh)
   case hv=>first | exact Val.vg _ _ _ | rfl
   case hs=>(first|(refine zK.cons 0 rfl rfl ?_)|(refine zK.cons 1 rfl rfl ?_)|(refine zK.cons 2 rfl rfl ?_)|(refine zK.cons 3 rfl rfl ?_)|(refine zK.cons 4 rfl rfl ?_)|(refine zK.cons 5 rfl rfl ?_)|(refine zK.cons 6 rfl rfl ?_)|(refine zK.cons 7 rfl rfl ?_));(repeat' first|(exact zK.refl _)|(refine zK.drop ?_))
   case hi=>first | assumption | omega |(simp;omega)
   case hp=>trivial
end Go.Proofs.YtolhegocbkckdaaGreat
