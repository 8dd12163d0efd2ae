/-
  Numbers of the program: strconv.Atoi by the library's contracts. Own work; no condition.
-/
import Derived.Test.YtbnbmcplmipgdaaGreatDoorMg34
import Derived.Test.YtbnbmcplmipgdaaGreatDoorDLexU
import Derived.Test.YtbnbmcplmipgdaaGreatDoorVCap
import Derived.Shelf.Strconv.AtoiAll
namespace Go.Proofs
open Go.Shelf
def Tryz.laysAtoi_ren : Go.Shelf.Ren := ⟨fun | 172 => 100 | 244 => 105 | 245 => 106 | 247 => 110 | 279 => 111 | 280 => 112 | 281 => 113 | 282 => 114 | 287 => 119 | 316 => 120 | 171 => 107 | 205 => 121 | 321 => 124 | 322 => 125 | 243 => 115 | 246 => 122 | 283 => 126 | 284 => 127 | 285 => 128 | 286 => 129 | 129 => 131 | 317 => 130 | 318 => 132 | 319 => 133 | 320 => 134 | 337 => 135 | 338 => 136 | n => n, fun | 9 => 9 | 3 => 3 | 75 => 108 | 76 => 109 | 4 => 4 | 5 => 5 | 167 => 118 | 37 => 99 | 0 => 0 | 85 => 119 | 2 => 2 | 168 => 121 | 53 => 126 | 175 => 127 | 46 => 105 | 210 => 130 | 127 => 134 | 145 => 137 | 143 => 135 | 21 => 21 | 171 => 138 | 173 => 141 | 212 => 148 | 51 => 112 | 20 => 20 | 213 => 149 | 232 => 152 | 233 => 153 | 80 => 154 | n => n, fun | 15 => 1 | 16 => 2 | 17 => 5 | 18 => 6 | 19 => 7 | n => n⟩
theorem Tryz.laysAtoi : Go.Proofs.LaysC.n172 Tryz.prog Tryz.laysAtoi_ren := {
  mixed := by kernel_rfl
  f129 := Tryz.func131.trans (congrArg some (by kernel_rfl))
  f171 := Tryz.func107.trans (congrArg some (by kernel_rfl))
  f172 := Tryz.func100.trans (congrArg some (by kernel_rfl))
  f205 := Tryz.func121.trans (congrArg some (by kernel_rfl))
  f243 := Tryz.func115.trans (congrArg some (by kernel_rfl))
  f244 := Tryz.func105.trans (congrArg some (by kernel_rfl))
  f245 := Tryz.func106.trans (congrArg some (by kernel_rfl))
  f246 := Tryz.func122.trans (congrArg some (by kernel_rfl))
  f247 := Tryz.func110.trans (congrArg some (by kernel_rfl))
  f279 := Tryz.func111.trans (congrArg some (by kernel_rfl))
  f280 := Tryz.func112.trans (congrArg some (by kernel_rfl))
  f281 := Tryz.func113.trans (congrArg some (by kernel_rfl))
  f282 := Tryz.func114.trans (congrArg some (by kernel_rfl))
  f283 := Tryz.func126.trans (congrArg some (by kernel_rfl))
  f284 := Tryz.func127.trans (congrArg some (by kernel_rfl))
  f285 := Tryz.func128.trans (congrArg some (by kernel_rfl))
  f286 := Tryz.func129.trans (congrArg some (by kernel_rfl))
  f287 := Tryz.func119.trans (congrArg some (by kernel_rfl))
  f316 := Tryz.func120.trans (congrArg some (by kernel_rfl))
  f317 := Tryz.func130.trans (congrArg some (by kernel_rfl))
  f318 := Tryz.func132.trans (congrArg some (by kernel_rfl))
  f319 := Tryz.func133.trans (congrArg some (by kernel_rfl))
  f320 := Tryz.func134.trans (congrArg some (by kernel_rfl))
  f321 := Tryz.func124.trans (congrArg some (by kernel_rfl))
  f322 := Tryz.func125.trans (congrArg some (by kernel_rfl))
  f337 := Tryz.func135.trans (congrArg some (by kernel_rfl))
  f338 := Tryz.func136.trans (congrArg some (by kernel_rfl))
  t0 := Tryz.underlying0
  a0 := Tryz.isAgg0
  z0 := Tryz.sizeOf0
  v0 := Tryz.zeroValue0
  t2 := Tryz.underlying2
  a2 := Tryz.isAgg2
  z2 := Tryz.sizeOf2
  v2 := Tryz.zeroValue2
  t3 := Tryz.underlying3
  a3 := Tryz.isAgg3
  z3 := Tryz.sizeOf3
  v3 := Tryz.zeroValue3
  t4 := Tryz.underlying4
  a4 := Tryz.isAgg4
  z4 := Tryz.sizeOf4
  v4 := Tryz.zeroValue4
  t5 := Tryz.underlying5
  a5 := Tryz.isAgg5
  z5 := Tryz.sizeOf5
  v5 := Tryz.zeroValue5
  t9 := Tryz.underlying9
  a9 := Tryz.isAgg9
  z9 := Tryz.sizeOf9
  v9 := Tryz.zeroValue9
  t20 := Tryz.underlying20
  a20 := Tryz.isAgg20
  z20 := Tryz.sizeOf20
  v20 := Tryz.zeroValue20
  t21 := Tryz.underlying21
  a21 := Tryz.isAgg21
  z21 := Tryz.sizeOf21
  v21 := Tryz.zeroValue21
  t37 := Tryz.underlying99
  a37 := Tryz.isAgg99
  z37 := Tryz.sizeOf99
  v37 := Tryz.zeroValue99
  t46 := Tryz.underlying105
  a46 := Tryz.isAgg105
  z46 := Tryz.sizeOf105
  v46 := Tryz.zeroValue105
  t51 := Tryz.underlying112
  a51 := Tryz.isAgg112
  z51 := Tryz.sizeOf112
  v51 := Tryz.zeroValue112
  t53 := Tryz.underlying126
  a53 := Tryz.isAgg126
  z53 := Tryz.sizeOf126
  v53 := Tryz.zeroValue126
  t75 := Tryz.underlying108
  a75 := Tryz.isAgg108
  z75 := Tryz.sizeOf108
  v75 := Tryz.zeroValue108
  t76 := Tryz.underlying109
  a76 := Tryz.isAgg109
  z76 := Tryz.sizeOf109
  v76 := Tryz.zeroValue109
  t85 := Tryz.underlying119
  a85 := Tryz.isAgg119
  z85 := Tryz.sizeOf119
  v85 := Tryz.zeroValue119
  t127 := Tryz.underlying134
  a127 := Tryz.isAgg134
  z127 := Tryz.sizeOf134
  v127 := Tryz.zeroValue134
  t143 := Tryz.underlying135
  a143 := Tryz.isAgg135
  z143 := Tryz.sizeOf135
  v143 := Tryz.zeroValue135
  t145 := Tryz.underlying137
  a145 := Tryz.isAgg137
  z145 := Tryz.sizeOf137
  v145 := Tryz.zeroValue137
  t167 := Tryz.underlying118
  a167 := Tryz.isAgg118
  z167 := Tryz.sizeOf118
  v167 := Tryz.zeroValue118
  t168 := Tryz.underlying121
  a168 := Tryz.isAgg121
  z168 := Tryz.sizeOf121
  v168 := Tryz.zeroValue121
  t171 := Tryz.underlying138
  a171 := Tryz.isAgg138
  z171 := Tryz.sizeOf138
  v171 := Tryz.zeroValue138
  t173 := Tryz.underlying141
  a173 := Tryz.isAgg141
  z173 := Tryz.sizeOf141
  v173 := Tryz.zeroValue141
  t175 := Tryz.underlying127
  a175 := Tryz.isAgg127
  z175 := Tryz.sizeOf127
  v175 := Tryz.zeroValue127
  t210 := Tryz.underlying130
  a210 := Tryz.isAgg130
  z210 := Tryz.sizeOf130
  v210 := Tryz.zeroValue130
  t212 := Tryz.underlying148
  a212 := Tryz.isAgg148
  z212 := Tryz.sizeOf148
  v212 := Tryz.zeroValue148
  t213 := Tryz.underlying149
  a213 := Tryz.isAgg149
  z213 := Tryz.sizeOf149
  t232 := Tryz.underlying152
  a232 := Tryz.isAgg152
  z232 := Tryz.sizeOf152
  v232 := Tryz.zeroValue152
  t233 := Tryz.underlying153
  a233 := Tryz.isAgg153
  z233 := Tryz.sizeOf153
  v233 := Tryz.zeroValue153
  g15 := by kernel_rfl
  g16 := by kernel_rfl
  g17 := by kernel_rfl
  g18 := by kernel_rfl
  g19 := by kernel_rfl
  t80 := Tryz.underlying154
  a80 := Tryz.isAgg154
  z80 := Tryz.sizeOf154
  v80 := Tryz.zeroValue154
  i0 := by kernel_rfl
  i2 := by kernel_rfl
  i3 := by kernel_rfl
  i4 := by kernel_rfl
  i5 := by kernel_rfl
  i9 := by kernel_rfl
  i20 := by kernel_rfl
  i21 := by kernel_rfl
  i37 := by kernel_rfl
  i46 := by kernel_rfl
  i51 := by kernel_rfl
  i53 := by kernel_rfl
  i75 := by kernel_rfl
  i76 := by kernel_rfl
  i80 := by kernel_rfl
  i85 := by kernel_rfl
  i127 := by kernel_rfl
  i143 := by kernel_rfl
  i145 := by kernel_rfl
  i167 := by kernel_rfl
  i168 := by kernel_rfl
  i171 := by kernel_rfl
  i173 := by kernel_rfl
  i175 := by kernel_rfl
  i210 := by kernel_rfl
  i212 := by kernel_rfl
  i232 := by kernel_rfl
  i233 := by kernel_rfl
  m15 := by kernel_rfl
  m16 := by kernel_rfl
  m17 := by kernel_rfl
  m18 := by kernel_rfl
  m19 := by kernel_rfl
  c0 := by kernel_rfl
  c2 := by kernel_rfl
  c3 := by kernel_rfl
  c4 := by kernel_rfl
  c5 := by kernel_rfl
  c9 := by kernel_rfl
  c20 := by kernel_rfl
  c21 := by kernel_rfl
  c37 := by kernel_rfl
  c46 := by kernel_rfl
  c51 := by kernel_rfl
  c53 := by kernel_rfl
  c75 := by kernel_rfl
  c76 := by kernel_rfl
  c80 := by kernel_rfl
  c85 := by kernel_rfl
  c127 := by kernel_rfl
  c143 := by kernel_rfl
  c145 := by kernel_rfl
  c167 := by kernel_rfl
  c168 := by kernel_rfl
  c171 := by kernel_rfl
  c173 := by kernel_rfl
  c175 := by kernel_rfl
  c210 := by kernel_rfl
  c212 := by kernel_rfl
  c213 := by kernel_rfl
  c232 := by kernel_rfl
  c233 := by kernel_rfl }
end Go.Proofs
namespace Go.Proofs.YtbnbmcplmipgdaaGreatDoor
open Go Go.RowKit
set_option linter.unusedSimpArgs false
set_option linter.unusedVariables false

theorem RelS.ifcAt {E : Env} {s : S} (h : RelS E s) {g : Nat} (hm : (g, TabK.ifc) ∈ tabL) : ∃ v : Value, E.w.cell? ⟨g, 0, none⟩ = some v ∧ (v = .nilIface ∨ ∃ t p, v = .iface t p) := (h.tab g .ifc hm).1
/-- strconv.Atoi's number, where it has one. -/
def atoiO (l : List UInt8) : Option Int := match Lib.atoiAll l with
  | .ok n => some n
  | _ => none
theorem strconvAtoi_ok (l : List UInt8) (hl : l.length ≤ 1048576) (n : Int) (h : Lib.atoiAll l = .ok n) (s : S) : VCalls Tryz.prog 100 [.str l] s (fun v s' => v = .tup [.int .i64 n, .raw .nilIface] ∧ s' = s) := by
  intro E vals h1 h2
  cases h2 with
  | cons hv ht =>
    cases ht
    cases hv
    have hsz : (⟨l.toArray⟩ : ByteArray).size = l.length := rfl
    obtain ⟨b0, b1⟩ := Lib.atoiAll_bounds h
    refine (Any.strconv_Atoi_ok Tryz.laysAtoi ⟨l.toArray⟩ (by rw [hsz]; omega) n h E.w).mono ?_
    rintro e w' ⟨rfl, hw⟩
    have hb : Below E.w.heap.size E.w w' := by
      rcases hw with rfl | ⟨t, rfl⟩
      · exact Below.refl _ _
      · exact Lib.bytesWorld_below _ _ _
    obtain ⟨a1, c1⟩ := h1.below hb
    exact ⟨_, _, _, s, rfl, rfl, ⟨rfl, rfl⟩, c1, .tup (.cons (.int b0 b1) (.cons .raw .nil)), a1⟩
theorem strconvAtoi_no (l : List UInt8) (hl : l.length ≤ 1048576) (h : ∀ n, Lib.atoiAll l ≠ .ok n) : ∃ m : Int, ∀ s : S, VCalls Tryz.prog 100 [.str l] s (fun v s' => ∃ t p, v = .tup [.int .i64 m, .raw (.iface t p)] ∧ s' = s) := by
  have hsz : (⟨l.toArray⟩ : ByteArray).size = l.length := rfl
  cases ha : Lib.atoiAll l
  · rename_i n
    exact absurd ha (h n)
  · refine ⟨0, fun s => ?_⟩
    intro E vals h1 h2
    cases h2 with
    | cons hv ht =>
      cases ht
      cases hv
      obtain ⟨ev, e1, e2⟩ := h1.ifcAt (g := 1) (.tail _ (.tail _ (.head _)))
      refine (Any.strconv_Atoi_syntax Tryz.laysAtoi ⟨l.toArray⟩ (by rw [hsz]; omega) ha ev E.w e1 e2).mono ?_
      rintro e w' ⟨N, rfl, _, _, hb⟩
      obtain ⟨a1, c1⟩ := h1.below hb
      exact ⟨_, _, _, s, rfl, rfl, ⟨_, _, rfl, rfl⟩, c1, .tup (.cons (.int (by decide) (by decide)) (.cons .raw .nil)), a1⟩
  · refine ⟨Lib.atoiSat l, fun s => ?_⟩
    obtain ⟨b0, b1⟩ := Lib.atoiSat_bounds l
    intro E vals h1 h2
    cases h2 with
    | cons hv ht =>
      cases ht
      cases hv
      obtain ⟨ev, e1, e2⟩ := h1.ifcAt (g := 2) (.tail _ (.tail _ (.tail _ (.head _))))
      refine (Any.strconv_Atoi_range Tryz.laysAtoi ⟨l.toArray⟩ (by rw [hsz]; omega) ha ev E.w e1 e2).mono ?_
      rintro e w' ⟨N, rfl, _, _, hb⟩
      obtain ⟨a1, c1⟩ := h1.below hb
      exact ⟨_, _, _, s, rfl, rfl, ⟨_, _, rfl, rfl⟩, c1, .tup (.cons (.int b0 b1) (.cons .raw .nil)), a1⟩

/-! ### An error held against nil -/
theorem AnsL.neqNil {P : Program} {L : Kn} {s : S} {T U : TypeId} {x : Operand} {e : Value} {b : Bool} (hT : P.underlying T = some (.interface (P.methodsAt T))) (hx : opd L x = some (.raw e))
    (he : (e = .nilIface ∧ b = false) ∨ (∃ t p, e = .iface t p) ∧ b = true) : AnsL P (.binOp .neq T x (.const .nilIface) U) L s (.bool b) := by
  refine .geng (vs := [.raw e, .raw .nilIface]) ?_ fun d ty p a g E A hr hrep => ?_
  · show opdL L [x, .const .nilIface] = _
    unfold opdL opdL opdL
    rw [hx]
    rfl
  · have hxe : A.eval x = e := by
      cases hrep with
      | cons h1 h2 => cases h1; rfl
    refine .same hr (m := do eqGuard .neq T x (.const .nilIface) (A.eval x) (A.eval (.const .nilIface)); binOp .neq T (A.eval x) (A.eval (.const .nilIface))) ?_ rfl
    rw [hxe]
    have hn : A.eval (.const .nilIface) = .nilIface := rfl
    rw [hn]
    rcases he with ⟨rfl, rfl⟩ | ⟨⟨t, q, rfl⟩, rfl⟩
    · exact ⟨.bool false, by
        have h := run_neq_nil_nil (P := P) E.w T hT
        have g : (eqGuard .neq T x (.const .nilIface) .nilIface .nilIface).run P E.w = .ok () E.w := by simp [eqGuard]
        rw [Sem.run_bind, g]
        exact h, .bool⟩
    · exact ⟨.bool true, by
        have h := run_neq_held_nil (P := P) E.w T t q hT
        have g : (eqGuard .neq T x (.const .nilIface) (.iface t q) .nilIface).run P E.w = .ok () E.w := by simp [eqGuard]
        rw [Sem.run_bind, g]
        exact h, .bool⟩

def numJ (l : List UInt8) : Option Int := match atoiO l with
  | some n => if n < 0 then none else if Lib.itoa n = l then some n else none
  | none => none
def numI (l : List UInt8) : Bool := (numJ l).isSome
set_option maxHeartbeats 2000000 in
theorem implNumber_v (l : List UInt8) (hl : l.length ≤ 1048576) (s : S) : VCalls Tryz.prog 89 [.str l] s (fun v s' => v = numV (numJ l) ∧ s' = s) := by
  cases ha : atoiO l with
  | none =>
    have e : numJ l = none := by unfold numJ; rw [ha]
    have hno : ∀ n, Lib.atoiAll l ≠ .ok n := fun n h => by unfold atoiO at ha; rw [h] at ha; cases ha
    obtain ⟨m, hm⟩ := strconvAtoi_no l hl hno
    rw [e]
    refine LCalls.pure Tryz.func89 rfl (by kernel_rfl) (by simp) ?_
    repeat' first
      | (refine kCallN 100 ?_ ; refine LOps.call rfl rfl (appO_nil _) ok100 (hm _) ?_ ; rintro v s' ⟨t, p, rfl, rfl⟩)
      | (refine kOps ?_; first | (refine LOps.nil ?_) | (refine kG ?_; first | (refine LOps.gF rfl rfl rfl ?_)) | (refine LOps.ev tT_ok rfl ?_) | (refine kBin ?_; first | (refine LOps.ans (AnsL.neqNil (b := true) (by kernel_rfl) rfl (.inr ⟨⟨_, _, rfl⟩, rfl⟩)) ?_)))
      | (refine kWL ?_; first | (refine WL.seq ?_) | (refine WL.region (by kernel_rfl) ?_) | (refine WL.ret ?_) | (refine kCond ?_; first | (refine WL.condT rfl ?_)))
      | (refine lthen_n ?_)
      | (refine lthen_r ?_)
      | (refine LPost.r2 (r := .tmp 2) (r' := .tmp 3) (.inl rfl) (Res1.tmp rfl) (Res1.tmp rfl) ?_)
      | (refine PureR.mk ?_)
    rfl
  | some n =>
    have hok : Lib.atoiAll l = .ok n := by
      unfold atoiO at ha
      split at ha
      · rename_i k hk; cases ha; exact hk
      · cases ha
    have hA := fun t => strconvAtoi_ok l hl n hok t
    have hD := fun t => implDigits_v n t
    by_cases c1 : n < 0
    · have e : numJ l = none := by unfold numJ; rw [ha]; exact if_pos c1
      rw [e]
      refine LCalls.pure Tryz.func89 rfl (by kernel_rfl) (by simp) ?_
      repeat' first
        | (refine kOps ?_; first | (refine LOps.nil ?_) | (refine kG ?_; first | (refine LOps.gT rfl rfl rfl ?_) | (refine LOps.gF rfl rfl rfl ?_) | (refine LOps.gD true rfl rfl rfl ?_ ?_; (focus (first | (exact decide_eq_true (by assumption)))))) | (refine LOps.ev tT_ok rfl ?_) | (refine kBin ?_; first | (refine LOps.ans (AnsL.neqNil (b := false) (by kernel_rfl) rfl (.inl ⟨rfl, rfl⟩)) ?_)) | (refine kCallN 100 ?_; first | (refine LOps.ans (AnsL.callP rfl rfl rfl (ok100) (hA _)) ?_)))
        | (refine kWL ?_; first | (refine WL.seq ?_) | (refine WL.region (by kernel_rfl) ?_) | (refine WL.ret ?_) | (refine kCond ?_; first | (refine WL.condT rfl ?_)))
        | (refine lthen_n ?_)
        | (refine lthen_r ?_)
        | (refine LPost.r2 (r := .tmp 2) (r' := .tmp 3) (.inl rfl) (Res1.tmp rfl) (Res1.tmp rfl) ?_)
        | (refine PureR.mk ?_)
      rfl
    by_cases c2 : Lib.itoa n = l
    · have e : numJ l = some n := by
        unfold numJ; rw [ha]
        show (if n < 0 then none else if Lib.itoa n = l then some n else none) = some n
        rw [if_neg c1, if_pos c2]
      rw [e]
      have c2' : ¬ Lib.itoa n ≠ l := fun h => h c2
      refine LCalls.pure Tryz.func89 rfl (by kernel_rfl) (by simp) ?_
      repeat' first
        | (refine kOps ?_; first | (refine LOps.nil ?_) | (refine kG ?_; first | (refine LOps.gT rfl rfl rfl ?_) | (refine LOps.gD false rfl rfl rfl ?_ ?_; (focus (first | (exact decide_eq_false (by assumption)))))) | (refine LOps.ev tT_ok rfl ?_) | (refine kBin ?_; first | (refine LOps.ans (AnsL.neqNil (b := false) (by kernel_rfl) rfl (.inl ⟨rfl, rfl⟩)) ?_)) | (refine kCallN 100 ?_; first | (refine LOps.ans (AnsL.callP rfl rfl rfl (ok100) (hA _)) ?_)) | (refine kCallN 101 ?_; first | (refine LOps.ans (AnsL.callP rfl rfl rfl (ok101) (hD _)) ?_)))
        | (refine kWL ?_; first | (refine WL.seq ?_) | (refine WL.region (by kernel_rfl) ?_) | (refine WL.skip ?_) | (refine WL.ret ?_) | (refine kCond ?_; first | (refine WL.condF' rfl ?_ ?_; (focus (first | (simp only [decide_eq_true_eq, decide_eq_false_iff_not, Bool.not_eq_true', Bool.not_eq_false', Int.ofNat_lt, Int.ofNat_le, Int.ofNat_inj, not_true_eq_false, not_false_eq_true]; omega))))))
        | (refine lthen_n ?_)
        | (refine LPost.r2 (r := .tmp 2) (r' := .tmp 3) (.inl rfl) (Res1.tmp rfl) (Res1.tmp rfl) ?_)
        | (refine PureR.mk ?_)
      rfl
    · have e : numJ l = none := by
        unfold numJ; rw [ha]
        show (if n < 0 then none else if Lib.itoa n = l then some n else none) = none
        rw [if_neg c1, if_neg c2]
      rw [e]
      refine LCalls.pure Tryz.func89 rfl (by kernel_rfl) (by simp) ?_
      repeat' first
        | (refine kOps ?_; first | (refine LOps.nil ?_) | (refine kG ?_; first | (refine LOps.gT rfl rfl rfl ?_) | (refine LOps.gD false rfl rfl rfl ?_ ?_; (focus (first | (exact decide_eq_false (by assumption)))))) | (refine LOps.ev tT_ok rfl ?_) | (refine kBin ?_; first | (refine LOps.ans (AnsL.neqNil (b := false) (by kernel_rfl) rfl (.inl ⟨rfl, rfl⟩)) ?_)) | (refine kCallN 100 ?_; first | (refine LOps.ans (AnsL.callP rfl rfl rfl (ok100) (hA _)) ?_)) | (refine kCallN 101 ?_; first | (refine LOps.ans (AnsL.callP rfl rfl rfl (ok101) (hD _)) ?_)))
        | (refine kWL ?_; first | (refine WL.seq ?_) | (refine WL.region (by kernel_rfl) ?_) | (refine WL.ret ?_) | (refine kCond ?_; first | (refine WL.condT' rfl ?_ ?_; (focus (first | (simp only [decide_eq_true_eq, decide_eq_false_iff_not, Bool.not_eq_true', Bool.not_eq_false', Int.ofNat_lt, Int.ofNat_le, Int.ofNat_inj, not_true_eq_false, not_false_eq_true]; omega))))))
        | (refine lthen_n ?_)
        | (refine lthen_r ?_)
        | (refine LPost.r2 (r := .tmp 2) (r' := .tmp 3) (.inl rfl) (Res1.tmp rfl) (Res1.tmp rfl) ?_)
        | (refine PureR.mk ?_)
      rfl

end Go.Proofs.YtbnbmcplmipgdaaGreatDoor
