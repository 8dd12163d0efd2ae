/-
  The types of this translation in a tree. Printed by a program of our own; no condition.
  The plain types of the laws: their values, weights, and what copies, sizes and comparisons of them do. Printed by a program of our own; no condition.
  The plain types of the laws, continued. Printed by a program of our own; no condition.
  Own work; no condition.
-/
import Derived.Test.YtbnbmcplmipgdaaGreatDoorVTys
import Derived.Test.YtbnbmcplmipgdaaGreatDoorVL
import Derived.KernelRfl
import Derived.Test.YtbnbmcplmipgdaaGreatDoorVRow
namespace Go.Proofs.YtbnbmcplmipgdaaGreatDoor
open Go
def tT : BT := (.node 47 ⟨3, 40, [.nilsl, .int .i64 0, .bool false], .struct [⟨0, 1, false, 0⟩, ⟨1, 1, false, 1⟩, ⟨2, 1, false, 3⟩] true⟩ (.node 22 ⟨1, 24, [.nilsl], .slice 40⟩ (.node 5 ⟨1, 1, [.int .u8 0], .int .u8⟩ (.node 3 ⟨1, 8, [.int .i64 0], .int .i64⟩ (.node 2 ⟨1, 8, [.int .i64 0], .int .i64⟩ .leaf .leaf) (.node 4 ⟨1, 1, [.bool false], .bool⟩ .leaf .leaf)) (.node 12 ⟨1, 8, [.int .u64 0], .int .u64⟩ (.node 9 ⟨1, 16, [.str []], .string⟩ .leaf .leaf) (.node 21 ⟨1, 4, [.int .i32 0], .int .i32⟩ .leaf .leaf))) (.node 35 ⟨3, 40, [.nilsl, .int .i64 0, .bool false], .struct [⟨0, 1, false, 0⟩, ⟨1, 1, false, 1⟩, ⟨2, 1, false, 3⟩] true⟩ (.node 30 ⟨1, 24, [.nilsl], .slice 58⟩ (.node 24 ⟨1, 24, [.nilsl], .struct [⟨0, 1, false, 0⟩] true⟩ .leaf .leaf) (.node 33 ⟨1, 8, [.nilp], .other⟩ .leaf .leaf)) (.node 40 ⟨2, 40, [.str [], .nilsl], .struct [⟨0, 1, false, 2⟩, ⟨1, 1, false, 0⟩] true⟩ (.node 38 ⟨1, 24, [.nilsl], .slice 53⟩ .leaf .leaf) (.node 45 ⟨1, 8, [.nilp], .other⟩ .leaf .leaf)))) (.node 112 ⟨1, 4, [.int .u32 0], .int .u32⟩ (.node 76 ⟨1, 8, [.nilp], .other⟩ (.node 53 ⟨2, 24, [.str [], .int .i64 0], .struct [⟨0, 1, false, 2⟩, ⟨1, 1, false, 1⟩] true⟩ (.node 51 ⟨1, 24, [.nilsl], .slice 9⟩ .leaf .leaf) (.node 58 ⟨3, 32, [.int .i64 0, .str [], .int .i64 0], .struct [⟨0, 1, false, 1⟩, ⟨1, 1, false, 2⟩, ⟨2, 1, false, 1⟩] true⟩ .leaf .leaf)) (.node 99 ⟨1, 24, [.nilsl], .slice 5⟩ (.node 78 ⟨2, 32, [.nilsl, .bool false], .struct [⟨0, 1, false, 0⟩, ⟨1, 1, false, 3⟩] true⟩ .leaf .leaf) (.node 105 ⟨1, 8, [.int .u64 0], .int .u64⟩ .leaf .leaf))) (.node 134 ⟨1, 8, [.nilp], .other⟩ (.node 121 ⟨1, 8, [.nilp], .other⟩ (.node 118 ⟨1, 8, [.int .i64 0], .int .i64⟩ .leaf .leaf) (.node 126 ⟨1, 8, [.int .u64 0], .int .u64⟩ .leaf .leaf)) (.node 137 ⟨1, 16, [.str []], .struct [⟨0, 1, false, 2⟩] true⟩ (.node 135 ⟨1, 8, [.nilp], .other⟩ .leaf .leaf) (.node 145 ⟨2, 2, [.int .u8 0, .int .u8 0], .struct [⟨0, 1, false, 1⟩, ⟨1, 1, false, 1⟩] true⟩ .leaf .leaf)))))
theorem tT_ok : tT.ok Tryz.prog := ⟨ty47, ⟨ty22, ⟨ty5, ⟨ty3, ⟨ty2, trivial, trivial⟩, ⟨ty4, trivial, trivial⟩⟩, ⟨ty12, ⟨ty9, trivial, trivial⟩, ⟨ty21, trivial, trivial⟩⟩⟩, ⟨ty35, ⟨ty30, ⟨ty24, trivial, trivial⟩, ⟨ty33, trivial, trivial⟩⟩, ⟨ty40, ⟨ty38, trivial, trivial⟩, ⟨ty45, trivial, trivial⟩⟩⟩⟩, ⟨ty112, ⟨ty76, ⟨ty53, ⟨ty51, trivial, trivial⟩, ⟨ty58, trivial, trivial⟩⟩, ⟨ty99, ⟨ty78, trivial, trivial⟩, ⟨ty105, trivial, trivial⟩⟩⟩, ⟨ty134, ⟨ty121, ⟨ty118, trivial, trivial⟩, ⟨ty126, trivial, trivial⟩⟩, ⟨ty137, ⟨ty135, trivial, trivial⟩, ⟨ty145, trivial, trivial⟩⟩⟩⟩⟩
end Go.Proofs.YtbnbmcplmipgdaaGreatDoor

namespace Go.Proofs.YtbnbmcplmipgdaaGreatDoor
open Go
set_option linter.unusedSimpArgs false
set_option linter.unusedVariables false
def sumW {α : Type} (f : α → Nat) (l : List α) : Nat := (l.map f).sum
def slW {α : Type} (f : α → Nat) (l : List α) : Nat := l.length + sumW f l
theorem sumW_take {α : Type} {f : α → Nat} {l : List α} {i : Nat} (h : i < l.length) : sumW f (l.take (i + 1)) = sumW f (l.take i) + f l[i] := by
  unfold sumW
  rw [List.take_succ_eq_append_getElem h, List.map_append, List.sum_append]
  rfl
theorem sumW_take_le {α : Type} (f : α → Nat) (l : List α) (i : Nat) : sumW f (l.take i) ≤ sumW f l := by
  unfold sumW
  conv => rhs; rw [← List.take_append_drop i l]
  rw [List.map_append, List.sum_append]
  omega
theorem sumW_all {α : Type} {f : α → Nat} {l : List α} {i : Nat} (h : l.length ≤ i) : sumW f (l.take i) = sumW f l := by rw [List.take_of_length_le h]
theorem sumW_mem {α : Type} {f : α → Nat} {l : List α} {i : Nat} (h : i < l.length) : f l[i] ≤ sumW f l := by
  have h1 := sumW_take (f := f) h
  have h2 := sumW_take_le f l (i + 1)
  omega
theorem len_slW {α : Type} (f : α → Nat) (l : List α) : l.length ≤ slW f l := by unfold slW; omega
theorem mem_slW {α : Type} {f : α → Nat} {l : List α} {i : Nat} (h : i < l.length) : f l[i] ≤ slW f l := by have := sumW_mem (f := f) h; unfold slW; omega
theorem len_max : maxLen ≤ 9223372036854775807 := by unfold maxLen; omega
theorem int_has {P : Program} {n : Nat} {t : TypeId} {v : V} (ht : P.underlying t = some (.int .i64)) (h : Has P n t v) : ∃ a, v = .int .i64 a := Has.int ht h
structure Val where
  kind : Int
  num : Int
  text : List UInt8
def Val.toV (x : Val) : V := .agg [.int .i64 x.kind, .int .i64 x.num, .str x.text]
@[simp] theorem Val.forget (x : Val) : x.toV.forget = x.toV := by simp [Val.toV]
@[simp] theorem Val.dat (x : Val) : x.toV.dat = true := by simp [Val.toV]
def Val.toVS (l : List Val) : V := .sl 0 (l.map Val.toV)
@[simp] theorem Val.forgetS (l : List Val) : (Val.toVS l).forget = Val.toVS l := by simp [Val.toVS]
@[simp] theorem Val.datS (l : List Val) : (Val.toVS l).dat = true := by simp [Val.toVS]
def Val.wt (x : Val) : Nat := x.text.length
structure Col where
  name : List UInt8
  type : Int
def Col.toV (x : Col) : V := .agg [.str x.name, .int .i64 x.type]
@[simp] theorem Col.forget (x : Col) : x.toV.forget = x.toV := by simp [Col.toV]
@[simp] theorem Col.dat (x : Col) : x.toV.dat = true := by simp [Col.toV]
def Col.toVS (l : List Col) : V := .sl 0 (l.map Col.toV)
@[simp] theorem Col.forgetS (l : List Col) : (Col.toVS l).forget = Col.toVS l := by simp [Col.toVS]
@[simp] theorem Col.datS (l : List Col) : (Col.toVS l).dat = true := by simp [Col.toVS]
def Col.wt (x : Col) : Nat := x.name.length
structure Tab where
  name : List UInt8
  cols : List Col
def Tab.toV (x : Tab) : V := .agg [.str x.name, .sl 0 (x.cols.map Col.toV)]
@[simp] theorem Tab.forget (x : Tab) : x.toV.forget = x.toV := by simp [Tab.toV]
@[simp] theorem Tab.dat (x : Tab) : x.toV.dat = true := by simp [Tab.toV]
def Tab.toVS (l : List Tab) : V := .sl 0 (l.map Tab.toV)
@[simp] theorem Tab.forgetS (l : List Tab) : (Tab.toVS l).forget = Tab.toVS l := by simp [Tab.toVS]
@[simp] theorem Tab.datS (l : List Tab) : (Tab.toVS l).dat = true := by simp [Tab.toVS]
def Tab.wt (x : Tab) : Nat := x.name.length + slW Col.wt x.cols
structure Cat where
  tables : List Tab
def Cat.toV (x : Cat) : V := .agg [.sl 0 (x.tables.map Tab.toV)]
@[simp] theorem Cat.forget (x : Cat) : x.toV.forget = x.toV := by simp [Cat.toV]
@[simp] theorem Cat.dat (x : Cat) : x.toV.dat = true := by simp [Cat.toV]
def Cat.toVS (l : List Cat) : V := .sl 0 (l.map Cat.toV)
@[simp] theorem Cat.forgetS (l : List Cat) : (Cat.toVS l).forget = Cat.toVS l := by simp [Cat.toVS]
@[simp] theorem Cat.datS (l : List Cat) : (Cat.toVS l).dat = true := by simp [Cat.toVS]
def Cat.wt (x : Cat) : Nat := slW Tab.wt x.tables
structure Named where
  qual : List UInt8
  name : List UInt8
  type : Int
def Named.toV (x : Named) : V := .agg [.str x.qual, .str x.name, .int .i64 x.type]
@[simp] theorem Named.forget (x : Named) : x.toV.forget = x.toV := by simp [Named.toV]
@[simp] theorem Named.dat (x : Named) : x.toV.dat = true := by simp [Named.toV]
def Named.toVS (l : List Named) : V := .sl 0 (l.map Named.toV)
@[simp] theorem Named.forgetS (l : List Named) : (Named.toVS l).forget = Named.toVS l := by simp [Named.toVS]
@[simp] theorem Named.datS (l : List Named) : (Named.toVS l).dat = true := by simp [Named.toVS]
def Named.wt (x : Named) : Nat := x.qual.length + x.name.length
structure Scope where
  names : List Named
def Scope.toV (x : Scope) : V := .agg [.sl 0 (x.names.map Named.toV)]
@[simp] theorem Scope.forget (x : Scope) : x.toV.forget = x.toV := by simp [Scope.toV]
@[simp] theorem Scope.dat (x : Scope) : x.toV.dat = true := by simp [Scope.toV]
def Scope.toVS (l : List Scope) : V := .sl 0 (l.map Scope.toV)
@[simp] theorem Scope.forgetS (l : List Scope) : (Scope.toVS l).forget = Scope.toVS l := by simp [Scope.toVS]
@[simp] theorem Scope.datS (l : List Scope) : (Scope.toVS l).dat = true := by simp [Scope.toVS]
def Scope.wt (x : Scope) : Nat := slW Named.wt x.names
structure Bind where
  up : Int
  pos : Int
  type : Int
def Bind.toV (x : Bind) : V := .agg [.int .i64 x.up, .int .i64 x.pos, .int .i64 x.type]
@[simp] theorem Bind.forget (x : Bind) : x.toV.forget = x.toV := by simp [Bind.toV]
@[simp] theorem Bind.dat (x : Bind) : x.toV.dat = true := by simp [Bind.toV]
def Bind.toVS (l : List Bind) : V := .sl 0 (l.map Bind.toV)
@[simp] theorem Bind.forgetS (l : List Bind) : (Bind.toVS l).forget = Bind.toVS l := by simp [Bind.toVS]
@[simp] theorem Bind.datS (l : List Bind) : (Bind.toVS l).dat = true := by simp [Bind.toVS]
def Bind.wt (x : Bind) : Nat := 0
structure Data where
  rows : List (List Val)
def Data.toV (x : Data) : V := .agg [.sl 0 (x.rows.map Val.toVS)]
@[simp] theorem Data.forget (x : Data) : x.toV.forget = x.toV := by simp [Data.toV]
@[simp] theorem Data.dat (x : Data) : x.toV.dat = true := by simp [Data.toV]
def Data.toVS (l : List Data) : V := .sl 0 (l.map Data.toV)
@[simp] theorem Data.forgetS (l : List Data) : (Data.toVS l).forget = Data.toVS l := by simp [Data.toVS]
@[simp] theorem Data.datS (l : List Data) : (Data.toVS l).dat = true := by simp [Data.toVS]
def Data.wt (x : Data) : Nat := slW (slW Val.wt) x.rows
structure Db where
  tables : List Data
def Db.toV (x : Db) : V := .agg [.sl 0 (x.tables.map Data.toV)]
@[simp] theorem Db.forget (x : Db) : x.toV.forget = x.toV := by simp [Db.toV]
@[simp] theorem Db.dat (x : Db) : x.toV.dat = true := by simp [Db.toV]
def Db.toVS (l : List Db) : V := .sl 0 (l.map Db.toV)
@[simp] theorem Db.forgetS (l : List Db) : (Db.toVS l).forget = Db.toVS l := by simp [Db.toVS]
@[simp] theorem Db.datS (l : List Db) : (Db.toVS l).dat = true := by simp [Db.toVS]
def Db.wt (x : Db) : Nat := slW Data.wt x.tables
structure Token where
  kind : Int
  text : List UInt8
  pos : Int
def Token.toV (x : Token) : V := .agg [.int .i64 x.kind, .str x.text, .int .i64 x.pos]
@[simp] theorem Token.forget (x : Token) : x.toV.forget = x.toV := by simp [Token.toV]
@[simp] theorem Token.dat (x : Token) : x.toV.dat = true := by simp [Token.toV]
def Token.toVS (l : List Token) : V := .sl 0 (l.map Token.toV)
@[simp] theorem Token.forgetS (l : List Token) : (Token.toVS l).forget = Token.toVS l := by simp [Token.toVS]
@[simp] theorem Token.datS (l : List Token) : (Token.toVS l).dat = true := by simp [Token.toVS]
def Token.wt (x : Token) : Nat := x.text.length
structure Fault where
  code : Int
  pos : Int
def Fault.toV (x : Fault) : V := .agg [.int .i64 x.code, .int .i64 x.pos]
@[simp] theorem Fault.forget (x : Fault) : x.toV.forget = x.toV := by simp [Fault.toV]
@[simp] theorem Fault.dat (x : Fault) : x.toV.dat = true := by simp [Fault.toV]
def Fault.toVS (l : List Fault) : V := .sl 0 (l.map Fault.toV)
@[simp] theorem Fault.forgetS (l : List Fault) : (Fault.toVS l).forget = Fault.toVS l := by simp [Fault.toVS]
@[simp] theorem Fault.datS (l : List Fault) : (Fault.toVS l).dat = true := by simp [Fault.toVS]
def Fault.wt (x : Fault) : Nat := 0
structure RFault where
  code : Int
  name : List UInt8
def RFault.toV (x : RFault) : V := .agg [.int .i64 x.code, .str x.name]
@[simp] theorem RFault.forget (x : RFault) : x.toV.forget = x.toV := by simp [RFault.toV]
@[simp] theorem RFault.dat (x : RFault) : x.toV.dat = true := by simp [RFault.toV]
def RFault.toVS (l : List RFault) : V := .sl 0 (l.map RFault.toV)
@[simp] theorem RFault.forgetS (l : List RFault) : (RFault.toVS l).forget = RFault.toVS l := by simp [RFault.toVS]
@[simp] theorem RFault.datS (l : List RFault) : (RFault.toVS l).dat = true := by simp [RFault.toVS]
def RFault.wt (x : RFault) : Nat := x.name.length
theorem eqCol_v (x : Col) (h : x.wt ≤ 1048576) (s : S) : VCalls Tryz.prog 93 [x.toV, x.toV] s (fun v s' => v = .bool true ∧ s' = s) := by
  simp only [Col.wt] at h
  refine LCalls.pure Tryz.func93 rfl (by kernel_rfl) (by simp) ?_
  repeat' first
    | (refine kOps ?_; first | (refine LOps.nil ?_) | (refine LOps.ev tT_ok rfl ?_) | (refine kBox ?_; refine LOps.box rfl rfl rfl rfl ?_) | (refine kLoad ?_; first | (refine LOps.ans (AnsL.loadP tT_ok rfl rfl rfl rfl) ?_)))
    | (refine kWL ?_; first | (refine WL.seq ?_) | (refine WL.region (by kernel_rfl) ?_) | (refine WL.skip ?_) | (refine WL.ret ?_) | (refine kCond ?_; first | (refine WL.condF' rfl ?_ ?_; (focus (first | (simp <;> fail))))))
    | (refine lthen_n ?_)
    | (refine LPost.r1 (r := .tmp 4) (.inl rfl) (Res1.tmp rfl) ?_)
    | (refine PureR.mk ?_)
  rfl
theorem eqColS_v (xs : List Col) (h : slW Col.wt xs ≤ 1048576) (s : S) : VCalls Tryz.prog 81 [.sl 0 (xs.map Col.toV), .sl 0 (xs.map Col.toV)] s (fun v s' => v = .bool true ∧ s' = s) := by
  have hl := len_slW Col.wt xs
  refine LCalls.pure Tryz.func81 rfl (by kernel_rfl) (by simp) ?_
  repeat' first
    | (refine kOps ?_; first | (refine LOps.nil ?_) | (refine LOps.ev tT_ok rfl ?_) | (refine kLen ?_; first | (refine LOps.ans (AnsL.lenM tT_ok rfl rfl rfl) ?_)))
    | (refine kWL ?_; first | (refine WL.seq ?_) | (refine WL.region (by kernel_rfl) ?_) | (refine WL.block ?_) | (refine WL.skip ?_) | (refine kCond ?_; first | (refine WL.condF' rfl ?_ ?_; (focus (first | (simp <;> fail))))))
    | (refine lthen_n ?_)
  refine WL.loopD (fun i : Nat => xs.length - i) (fun i => [(0, .sl 0 (xs.map Col.toV)), (1, .sl 0 (xs.map Col.toV)), (5, .int .i64 (i : Int))]) (fun i => [])
    (fun i => i ≤ xs.length) 0 0 (by simp) (fun _ => rfl) ⟨rfl, rfl, rfl, trivial⟩ rfl (fun i hi => ?_) (fun i hi => ?_)
  · simp [UnderK, UnderX, V.under, V.underL]
  rcases Nat.lt_or_ge i xs.length with hlt | hge
  · have hm := mem_slW (f := Col.wt) hlt
    repeat' first
      | (refine kOps ?_; first | (refine LOps.nil ?_) | (refine LOps.ev tT_ok rfl ?_) | (refine kLen ?_; first | (refine LOps.ans (AnsL.lenM tT_ok rfl rfl rfl) ?_)) | (refine kBin ?_; first | (refine LOps.ans (AnsL.add rfl rfl ?_) ?_; (focus (constructor <;> omega)))))
      | (refine kWL ?_; first | (refine WL.seq ?_) | (refine WL.region (by kernel_rfl) ?_) | (refine WL.drawn (id := 6) [0, 1, 2, 3, 4, 5, 6, 7, 8, 9] [] [[], [], [0, 1], [0, 1, 2], [], [], [4, 5], [4, 5, 6], [0, 1, 2, 3, 4, 5, 6, 7], [0, 1, 2, 3, 4, 5, 6, 7, 8]] (by kernel_rfl) (by kernel_rfl) ?_) | (refine WL.block ?_) | (refine WL.skip ?_) | (refine kCond ?_; first | (refine WL.condF rfl ?_) | (refine WL.condT' rfl ?_ ?_; (focus (first | (simp only [decide_eq_true_eq, decide_eq_false_iff_not, Bool.not_eq_true', Bool.not_eq_false', Int.ofNat_lt, Int.ofNat_le, Int.ofNat_inj, not_true_eq_false, not_false_eq_true]; omega))))))
      | (refine kDr ?_; first | (refine LDr.nil ?_) | (refine LDr.fl rfl rfl (.ev tT_ok rfl) ?_) | (refine kDIdx rfl ?_; first | (refine LDr.fl rfl rfl (AnsL.idxA tT_ok rfl rfl rfl rfl rfl (by omega) rfl rfl) ?_)) | (refine kDCallN 93 rfl ?_; first | (refine LDr.fl rfl rfl (AnsL.callP rfl rfl rfl (ok93) (eqCol_v _ ?_ _)) ?_; (focus (omega)))))
      | (refine lthen_n ?_)
      | (refine lblock_n ?_)
    all_goals
      refine lbackD.of (i + 1) ?_ ?_ ?_ ?_
      · first | omega | (refine ⟨?_, ?_⟩; (focus (first | omega | (simp; omega))); (first | omega | (simp_all [] <;> fail) | (simp_all []; omega))) | (simp_all [] <;> fail) | (simp_all []; omega)
      · first | omega | (simp; omega) | simp_all
      · repeat' first
          | exact SubL.nil
          | (refine SubL.mk rfl ?_ ?_)
          | rfl
          | (simp [] <;> fail)
          | (simp []; omega)
      · first | rfl | (simp [] <;> fail) | (simp []; omega)
  · skip
    repeat' first
      | (refine kOps ?_; first | (refine LOps.nil ?_) | (refine LOps.ev tT_ok rfl ?_) | (refine kLen ?_; first | (refine LOps.ans (AnsL.lenM tT_ok rfl rfl rfl) ?_)))
      | (refine kWL ?_; first | (refine WL.seq ?_) | (refine WL.region (by kernel_rfl) ?_) | (refine WL.exit ?_) | (refine WL.ret ?_) | (refine kCond ?_; first | (refine WL.condF' rfl ?_ ?_; (focus (first | (simp only [decide_eq_true_eq, decide_eq_false_iff_not, Bool.not_eq_true', Bool.not_eq_false', Int.ofNat_lt, Int.ofNat_le, Int.ofNat_inj, not_true_eq_false, not_false_eq_true]; omega))))))
      | (refine lthen_n ?_)
      | (refine lthen_e ?_)
      | (refine lblock_e ?_)
      | (refine lbackD_e ?_)
      | (refine LPost.r1 (r := .tmp 4) (.inl rfl) (Res1.tmp rfl) ?_)
      | (refine PureR.mk ?_)
    rfl
theorem eqTab_v (x : Tab) (h : x.wt ≤ 1048576) (s : S) : VCalls Tryz.prog 51 [x.toV, x.toV] s (fun v s' => v = .bool true ∧ s' = s) := by
  simp only [Tab.wt] at h
  refine LCalls.pure Tryz.func51 rfl (by kernel_rfl) (by simp) ?_
  repeat' first
    | (refine kOps ?_; first | (refine LOps.nil ?_) | (refine LOps.ev tT_ok rfl ?_) | (refine kBox ?_; refine LOps.box rfl rfl rfl rfl ?_) | (refine kLoad ?_; first | (refine LOps.ans (AnsL.loadP tT_ok rfl rfl rfl rfl) ?_)) | (refine kCallN 81 ?_; first | (refine LOps.ans (AnsL.callP rfl rfl rfl (ok81) (eqColS_v _ ?_ _)) ?_; (focus (omega)))))
    | (refine kWL ?_; first | (refine WL.seq ?_) | (refine WL.region (by kernel_rfl) ?_) | (refine WL.skip ?_) | (refine WL.ret ?_) | (refine kCond ?_; first | (refine WL.condF rfl ?_) | (refine WL.condF' rfl ?_ ?_; (focus (first | (simp <;> fail))))))
    | (refine lthen_n ?_)
    | (refine LPost.r1 (r := .tmp 4) (.inl rfl) (Res1.tmp rfl) ?_)
    | (refine PureR.mk ?_)
  rfl
theorem eqTabS_v (xs : List Tab) (h : slW Tab.wt xs ≤ 1048576) (s : S) : VCalls Tryz.prog 24 [.sl 0 (xs.map Tab.toV), .sl 0 (xs.map Tab.toV)] s (fun v s' => v = .bool true ∧ s' = s) := by
  have hl := len_slW Tab.wt xs
  refine LCalls.pure Tryz.func24 rfl (by kernel_rfl) (by simp) ?_
  repeat' first
    | (refine kOps ?_; first | (refine LOps.nil ?_) | (refine LOps.ev tT_ok rfl ?_) | (refine kLen ?_; first | (refine LOps.ans (AnsL.lenM tT_ok rfl rfl rfl) ?_)))
    | (refine kWL ?_; first | (refine WL.seq ?_) | (refine WL.region (by kernel_rfl) ?_) | (refine WL.block ?_) | (refine WL.skip ?_) | (refine kCond ?_; first | (refine WL.condF' rfl ?_ ?_; (focus (first | (simp <;> fail))))))
    | (refine lthen_n ?_)
  refine WL.loopD (fun i : Nat => xs.length - i) (fun i => [(0, .sl 0 (xs.map Tab.toV)), (1, .sl 0 (xs.map Tab.toV)), (5, .int .i64 (i : Int))]) (fun i => [])
    (fun i => i ≤ xs.length) 0 0 (by simp) (fun _ => rfl) ⟨rfl, rfl, rfl, trivial⟩ rfl (fun i hi => ?_) (fun i hi => ?_)
  · simp [UnderK, UnderX, V.under, V.underL]
  rcases Nat.lt_or_ge i xs.length with hlt | hge
  · have hm := mem_slW (f := Tab.wt) hlt
    repeat' first
      | (refine kOps ?_; first | (refine LOps.nil ?_) | (refine LOps.ev tT_ok rfl ?_) | (refine kLen ?_; first | (refine LOps.ans (AnsL.lenM tT_ok rfl rfl rfl) ?_)) | (refine kBin ?_; first | (refine LOps.ans (AnsL.add rfl rfl ?_) ?_; (focus (constructor <;> omega)))))
      | (refine kWL ?_; first | (refine WL.seq ?_) | (refine WL.region (by kernel_rfl) ?_) | (refine WL.drawn (id := 6) [0, 1, 2, 3, 4, 5, 6, 7, 8, 9] [] [[], [], [0, 1], [0, 1, 2], [], [], [4, 5], [4, 5, 6], [0, 1, 2, 3, 4, 5, 6, 7], [0, 1, 2, 3, 4, 5, 6, 7, 8]] (by kernel_rfl) (by kernel_rfl) ?_) | (refine WL.block ?_) | (refine WL.skip ?_) | (refine kCond ?_; first | (refine WL.condF rfl ?_) | (refine WL.condT' rfl ?_ ?_; (focus (first | (simp only [decide_eq_true_eq, decide_eq_false_iff_not, Bool.not_eq_true', Bool.not_eq_false', Int.ofNat_lt, Int.ofNat_le, Int.ofNat_inj, not_true_eq_false, not_false_eq_true]; omega))))))
      | (refine kDr ?_; first | (refine LDr.nil ?_) | (refine LDr.fl rfl rfl (.ev tT_ok rfl) ?_) | (refine kDIdx rfl ?_; first | (refine LDr.fl rfl rfl (AnsL.idxA tT_ok rfl rfl rfl rfl rfl (by omega) rfl rfl) ?_)) | (refine kDCallN 51 rfl ?_; first | (refine LDr.fl rfl rfl (AnsL.callP rfl rfl rfl (ok51) (eqTab_v _ ?_ _)) ?_; (focus (omega)))))
      | (refine lthen_n ?_)
      | (refine lblock_n ?_)
    all_goals
      refine lbackD.of (i + 1) ?_ ?_ ?_ ?_
      · first | omega | (refine ⟨?_, ?_⟩; (focus (first | omega | (simp; omega))); (first | omega | (simp_all [] <;> fail) | (simp_all []; omega))) | (simp_all [] <;> fail) | (simp_all []; omega)
      · first | omega | (simp; omega) | simp_all
      · repeat' first
          | exact SubL.nil
          | (refine SubL.mk rfl ?_ ?_)
          | rfl
          | (simp [] <;> fail)
          | (simp []; omega)
      · first | rfl | (simp [] <;> fail) | (simp []; omega)
  · skip
    repeat' first
      | (refine kOps ?_; first | (refine LOps.nil ?_) | (refine LOps.ev tT_ok rfl ?_) | (refine kLen ?_; first | (refine LOps.ans (AnsL.lenM tT_ok rfl rfl rfl) ?_)))
      | (refine kWL ?_; first | (refine WL.seq ?_) | (refine WL.region (by kernel_rfl) ?_) | (refine WL.exit ?_) | (refine WL.ret ?_) | (refine kCond ?_; first | (refine WL.condF' rfl ?_ ?_; (focus (first | (simp only [decide_eq_true_eq, decide_eq_false_iff_not, Bool.not_eq_true', Bool.not_eq_false', Int.ofNat_lt, Int.ofNat_le, Int.ofNat_inj, not_true_eq_false, not_false_eq_true]; omega))))))
      | (refine lthen_n ?_)
      | (refine lthen_e ?_)
      | (refine lblock_e ?_)
      | (refine lbackD_e ?_)
      | (refine LPost.r1 (r := .tmp 4) (.inl rfl) (Res1.tmp rfl) ?_)
      | (refine PureR.mk ?_)
    rfl
theorem eqCat_v (x : Cat) (h : x.wt ≤ 1048576) (s : S) : VCalls Tryz.prog 6 [x.toV, x.toV] s (fun v s' => v = .bool true ∧ s' = s) := by
  simp only [Cat.wt] at h
  refine LCalls.pure Tryz.func6 rfl (by kernel_rfl) (by simp) ?_
  repeat' first
    | (refine kOps ?_; first | (refine LOps.nil ?_) | (refine LOps.ev tT_ok rfl ?_) | (refine kBox ?_; refine LOps.box rfl rfl rfl rfl ?_) | (refine kLoad ?_; first | (refine LOps.ans (AnsL.loadP tT_ok rfl rfl rfl rfl) ?_)) | (refine kCallN 24 ?_; first | (refine LOps.ans (AnsL.callP rfl rfl rfl (ok24) (eqTabS_v _ ?_ _)) ?_; (focus (omega)))))
    | (refine kWL ?_; first | (refine WL.seq ?_) | (refine WL.region (by kernel_rfl) ?_) | (refine WL.skip ?_) | (refine WL.ret ?_) | (refine kCond ?_; first | (refine WL.condF rfl ?_)))
    | (refine lthen_n ?_)
    | (refine LPost.r1 (r := .tmp 4) (.inl rfl) (Res1.tmp rfl) ?_)
    | (refine PureR.mk ?_)
  rfl
end Go.Proofs.YtbnbmcplmipgdaaGreatDoor

namespace Go.Proofs.YtbnbmcplmipgdaaGreatDoor
open Go
set_option linter.unusedSimpArgs false
set_option linter.unusedVariables false

end Go.Proofs.YtbnbmcplmipgdaaGreatDoor
