/-
 Catalogs and plans that are well typed, drawn from a string of bytes. Own work; no condition.
-/
import Derived.Test.YtolhegocbkckdaaGreatMg29
import Derived.Test.YtolhegocbkckdaaGreatDCatE
namespace Go.Proofs.YtolhegocbkckdaaGreat
open Go
set_option linter.unusedSimpArgs false
set_option linter.unusedVariables false
theorem jl.args {P:Program} {g:FuncId} {b:V} {args args':List V} {H0:List BE} {β : Type} {F : β → V} {B : β → List BE} {p : β → Prop} (h:jl P g b args H0 F B p) (hc:∀ (E:Env) (vals:List Value),ql E args' vals→ql E args vals):jl P g b args' H0 F B p:=by
 intro s H l i c hi hh E vals h1 h2
 refine h s H l i c hi hh E vals h1 ?_
 cases h2 with
 | cons a t=>exact .cons a (hc E _ t)
set_option maxHeartbeats 4000000 in
theorem ZX {b:V} (hb:Bytes b) {n:Nat} {deep:Int} (hd:0≤deep∧deep≤n) (hn:n≤60):jl Tryz.prog 37 b [.int .i64 deep] [] (fun y:List Tab × (PL × (Nat→Nat × Nat)) => .jY [wW y.1,PL.ov y.2]) (fun y=>PL.ob y.2)
   (fun y=>((0<y.1.length∧y.1.length≤3)∧∀ t∈y.1,t.small)∧qV y.2.1.v≤64+8*wT n∧(0<y.2.1.tables.length∧0<y.2.1.on.length)∧0<y.2.1.items.length∧0<y.2.1.names.length):=by
 have hP:∀ (ts:List Tab) (h1:0<ts.length∧ts.length≤3) (hts:∀ t∈ts,t.small) (types:List Int) (hty:types.length≤2∧0<types.length),PL.D Tryz.prog 69 b [wW ts,.zl,.sl 0 (types.map iV),.int .i64 deep] (fun p=>qV p.v≤64+8*wT n∧(0<p.tables.length∧0<p.on.length)∧0<p.items.length∧0<p.names.length):=fun ts h1 hts types hty =>
   ((lU hb h1 hts (env := []) (N := 0) ⟨by simp, by omega, by simp⟩ (types := types) (deep := deep) (w := wT n) hty.1 (fun env' ty' hl hr => Zt hb h1 hts n deep env' ty' hd.1 hd.2 hn (by omega) hr)).mono fun w h => ⟨h.1, h.2.1, by omega, by omega⟩).args fun E vals h => by
     cases h with
     | cons a t=>cases t with
       | cons a2 t=>exact .cons a (.cons (qy.forget a2) t)
 intro s H l i h hi hh
 refine zi.jX Tryz.func37 rfl (by kernel_rfl) ?_
 repeat' first|(refine qj ?_;refine zq.kR zx hh rfl rfl ?_;intro s n hh)|(refine zU ?_;first|(refine zq.zN zx 0 hh rfl rfl rfl rfl rfl rfl rfl rfl rfl ?_;intro s hh))|(refine kZ ?_;first|(refine' zq.Z7 (d:=13) zx rfl rfl rfl rfl rfl rfl rfl rfl hh ?_ ?_ ?_;rotate_left 2 ;(focus ((repeat' first|(exact qw.nil)|(exact qm.qP rfl)|(refine' qw.cons ?_ ?_));done)) ;(focus ((repeat' first|(exact jM.of rfl));done)) ;intro s n hh)|(refine zq.ans (zk.Zb zx rfl rfl rfl rfl rfl rfl rfl rfl ?_) ?_;(focus ((repeat' first|(exact jM.of rfl));done))))|(refine ji ?_;first|(refine' zq.appW zx 1 rfl rfl rfl rfl rfl rfl rfl rfl rfl rfl hh ?_ ?_ ?_ (xU.of ?_ rfl) ?_;rotate_left 2 ;(focus (first|(intro x hx;rw [List.mem_singleton] at hx;subst hx;rfl)|(intro x hx;obtain ⟨y,_,rfl⟩:=List.mem_map.1 hx;first | rfl | exact PE.qA _ | exact PE.xC _))) ;(focus ((repeat' first|(exact qw.nil)|(exact qm.qP rfl)|(refine' qw.cons ?_ ?_));done)) ;(focus ((repeat' first|(exact zS.of rfl));done)) ;(focus (first | omega |(simp <;> fail))) ;intro s c n hh))|(refine zy 38 ?_;first|(refine zq.qc 0 rfl rfl vE hh rfl rfl ?_ (zP hb (by omega)) ?_;(focus (first | assumption | omega)) ;intro s x i h hq hi hh ;try dsimp only)|(refine zq.qc 1 rfl rfl vE hh rfl rfl ?_ (zP hb (by omega)) ?_;(focus (first | assumption | omega)) ;intro s x i h hq hi hh ;try dsimp only))|(refine zy 68 ?_;first|(refine zq.qc 1 rfl rfl wU hh rfl rfl ?_ (qg hb (by omega)) ?_;(focus (first | assumption | omega)) ;intro s x i h hq hi hh ;try dsimp only))|(refine zy 67 ?_;first|(refine zq.qc 2 rfl rfl Hf hh rfl rfl ?_ (Zo hb) ?_;(focus (first | assumption | omega)) ;intro s x i h hq hi hh ;try dsimp only))|(refine zf ?_;first|(refine zq.nil ?_)|(refine zq.ev zx rfl ?_)|(refine xk ?_;first|(refine zq.ans (zk.add rfl rfl ?_) ?_;(focus (constructor <;> omega)))))|(refine zH ?_;first|(refine WL.seq ?_)|(refine WL.region (by kernel_rfl) ?_)|(refine WL.skip ?_)|(refine zu ?_;first|(refine WL.cond rfl (fun h=>?_) (fun h=>?_))))|(refine zw ?_)
 · skip
   rename List Tab × Nat × Nat=>y0
   have hq0:(0<y0.1.length∧y0.1.length≤3)∧∀ t∈y0.1,t.small:=by assumption
   refine WL.BA (d := .sl 0 ([_,_].map iV)) 7 rfl hh (fun s hh=>?_)
   repeat' first|(refine zU ?_;first|(refine zq.zN zx 8 hh rfl rfl rfl rfl rfl rfl rfl rfl rfl ?_;intro s hh)|(refine zq.zN zx 9 hh rfl rfl rfl rfl rfl rfl rfl rfl rfl ?_;intro s hh))|(refine zy 69 ?_;first|(refine zq.jF 0 rfl rfl BO hh (hP y0.1 hq0.1 hq0.2 [_,_] (by simp)) .nil rfl rfl ?_ ?_;(focus (first | assumption | omega)) ;intro s y i h hq hi hh ;try dsimp only [List.cons_append,List.nil_append] at hh))|(refine zf ?_;first|(refine zq.nil ?_))|(refine zH ?_;first|(refine WL.drawn (id:=5) [0,1,2,3,4,5,6,7] [5,6,7] [[],[],[],[],[],[1,2,3,4],[0,1,2,3,4,5],[0,1,2,3,4,5,6]] (by kernel_rfl) (by kernel_rfl) ?_)|(refine WL.ret ?_))|(refine vN ?_;first|(refine zA.nil ?_)|(refine zA.fl rfl rfl (.ev zx rfl) ?_)|(refine qo rfl ?_;first|(refine zA.fl rfl rfl (zk.zM zx 1 hh rfl rfl rfl rfl) ?_))|(refine zA.iY rfl rfl rfl ?_))|(refine zw ?_)|(refine' zh.r2 (r := .cell 4 26) (r' := .cell 5 33) (.inl rfl) ?_ ?_ ?_;rotate_left 2;(focus (first|(exact zn.xM 9 zx hh rfl rfl rfl rfl)));(focus (first|(exact zn.xM 8 zx hh rfl rfl rfl rfl))))|(refine And.intro ?_ ?_)|(exact xR.nil)|(refine xR.cons ?_ ?_)|(refine jG.fl rfl rfl (zk.zM zx 7 hh rfl rfl rfl rfl))
   apply jl.fin (y:=(y0.1,y)) (hh:=hh)
   case hv=>rfl
   case hi=>assumption
   case hs =>
     dsimp only [PL.ob,List.cons_append,List.nil_append]
     (repeat' first|(exact zK.nil)|(exact zK.refl _)|(refine' zK.p ?_ ?_;rotate_left 1;(focus (((repeat' first|(exact Pick.here)|(refine' Pick.there ?_));done)))))
     (repeat' first|(exact zK.refl _)|(refine zK.drop ?_))
   case hp=>exact ⟨hq0,hq⟩
 · skip
   rename List Tab × Nat × Nat=>y0
   have hq0:(0<y0.1.length∧y0.1.length≤3)∧∀ t∈y0.1,t.small:=by assumption
   refine WL.BA (d := .sl 0 ([_].map iV)) 7 rfl (hh.sel (.cons 1 rfl rfl (.cons 0 rfl rfl (zK.refl _)))) (fun s hh=>?_)
   repeat' first|(refine zU ?_;first|(refine zq.zN zx 8 hh rfl rfl rfl rfl rfl rfl rfl rfl rfl ?_;intro s hh)|(refine zq.zN zx 9 hh rfl rfl rfl rfl rfl rfl rfl rfl rfl ?_;intro s hh))|(refine zy 69 ?_;first|(refine zq.jF 0 rfl rfl BO hh (hP y0.1 hq0.1 hq0.2 [_] (by simp)) .nil rfl rfl ?_ ?_;(focus (first | assumption | omega)) ;intro s y i h hq hi hh ;try dsimp only [List.cons_append,List.nil_append] at hh))|(refine zf ?_;first|(refine zq.nil ?_))|(refine zH ?_;first|(refine WL.drawn (id:=5) [0,1,2,3,4,5,6,7] [5,6,7] [[],[],[],[],[],[1,2,3,4],[0,1,2,3,4,5],[0,1,2,3,4,5,6]] (by kernel_rfl) (by kernel_rfl) ?_)|(refine WL.ret ?_))|(refine vN ?_;first|(refine zA.nil ?_)|(refine zA.fl rfl rfl (.ev zx rfl) ?_)|(refine qo rfl ?_;first|(refine zA.fl rfl rfl (zk.zM zx 1 hh rfl rfl rfl rfl) ?_))|(refine zA.iY rfl rfl rfl ?_))|(refine zw ?_)|(refine' zh.r2 (r := .cell 4 26) (r' := .cell 5 33) (.inl rfl) ?_ ?_ ?_;rotate_left 2;(focus (first|(exact zn.xM 9 zx hh rfl rfl rfl rfl)));(focus (first|(exact zn.xM 8 zx hh rfl rfl rfl rfl))))|(refine And.intro ?_ ?_)|(exact xR.nil)|(refine xR.cons ?_ ?_)|(refine jG.fl rfl rfl (zk.zM zx 7 hh rfl rfl rfl rfl))
   apply jl.fin (y:=(y0.1,y)) (hh:=hh)
   case hv=>rfl
   case hi=>assumption
   case hs =>
     dsimp only [PL.ob,List.cons_append,List.nil_append]
     (repeat' first|(exact zK.nil)|(exact zK.refl _)|(refine' zK.p ?_ ?_;rotate_left 1;(focus (((repeat' first|(exact Pick.here)|(refine' Pick.there ?_));done)))))
     (repeat' first|(exact zK.refl _)|(refine zK.drop ?_))
   case hp=>exact ⟨hq0,hq⟩
end Go.Proofs.YtolhegocbkckdaaGreat
