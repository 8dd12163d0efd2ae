/-
  What marks data and what finds it marked. Own work; no condition.
-/
import Derived.Test.YtkkifdgnebbghaaVFill
import Derived.Test.YtkkifdgnebbghaaDScope
namespace Go.Proofs.Ytkkifdgnebbghaa
open Go
set_option linter.unusedSimpArgs false
set_option linter.unusedVariables false

@[simp] theorem nk_int' (i : IntKind) (n k : Int) : nk (.int i n) k = k + 1 := by simp only [nk]
@[simp] theorem nk_bool' (b : Bool) (k : Int) : nk (.bool b) k = k + 1 := by simp only [nk]
@[simp] theorem nk_str' (b : List UInt8) (k : Int) : nk (.str b) k = k + 1 := by simp only [nk]
section
variable {P : Program} {L : Kn} {s : S} {tt : BT}
theorem AnsL.toStr (ht : tt.ok P) {U T e : TypeId} {u t te : Ty} {x : Operand} {id : Nat} {us : List V} {bs : List UInt8} (hx : opd L x = some (.sl id us)) (hU : tt.get U = some u) (hku : u.kd = .slice e) (hT : tt.get T = some t) (hkt : t.kd = .string)
    (hte : tt.get e = some te) (hke : te.kd = .int .u8) (hsz : Nat.beq te.size 1 = true) (hb : vbytes us = some bs) : AnsL P (.convert U T x) L s (.str bs) :=
  .of fun σ hσ _ _ _ _ _ => by
    have h1 : te.size = 1 := Nat.eq_of_beq_eq_true hsz
    simp only [vop, opd_eq hσ hx, vconvert, vtoStr, ht.get hU, ht.get hT, hku, hkt, ht.get hte, hke, h1, if_true, elemsOf, hb, Option.bind_some, Option.map_some]
end

theorem mtA_pos (f : Nat) {k : Int} (out : List UInt8) (h : 0 < k) : mtA (f + 1) k out = mtA f (IntKind.i64.wrap (k.tdiv 10)) (UInt8.ofNat (IntKind.u8.wrap (IntKind.i64.wrap (48 + k.tmod 10))).toNat :: out) := by
  rw [mtA, if_pos h]


theorem slm_len {x : Cp} {l o n : Nat} {k : V} (h : [V.slm x l o n, k].all V.wf = true) : n < 9223372036854775808 := by
  rw [List.all_cons, Bool.and_eq_true] at h
  have h1 : n ≤ maxLen := of_decide_eq_true h.1
  unfold maxLen at h1
  omega
theorem map_ne {α : Type} {f : α → V} {l : List α} (h : ¬ l = []) : (l.map f).isEmpty = false := by cases l <;> simp_all
theorem sl_len {id : Nat} {xs : List V} {k : V} (h : [V.sl id xs, k].all V.wf = true) : xs.length < 9223372036854775808 := by
  rw [List.all_cons, Bool.and_eq_true] at h
  have h2 := h.1
  simp only [V.wf, Bool.and_eq_true] at h2
  have h1 : xs.length ≤ maxLen := of_decide_eq_true h2.1
  unfold maxLen at h1
  omega
theorem thw_sl_cells (n i : Nat) (xs : List V) : (thw n (.sl i xs)).1.cells = [(thw n (.sl i xs)).1] := by
  unfold thw
  cases xs.isEmpty <;> rfl

theorem plainL_cons {v : V} {vs : List V} (h1 : v.plain = true) (h2 : V.plainL vs = true) : V.plainL (v :: vs) = true := by simp only [V.plainL, h1, h2, Bool.and_self]
theorem plain_IntS (l : List Int) : V.plain (.sl 0 (l.map iV)) = true := plain_map (f := iV) 1 (fun _ => rfl) (fun _ => rfl) l
theorem plain_StringS (l : List (List UInt8)) : V.plain (.sl 0 (l.map sV)) = true := plain_map (f := sV) 1 (fun _ => rfl) (fun _ => rfl) l
theorem plain_ValueS (l : List Val) : V.plain (.sl 0 (l.map Val.toV)) = true := plain_map (f := Val.toV) 3 (fun x => (plainL_cons rfl (plainL_cons rfl (plainL_cons rfl rfl)))) (fun _ => rfl) l
theorem plain_ColS (l : List Col) : V.plain (.sl 0 (l.map Col.toV)) = true := plain_map (f := Col.toV) 2 (fun x => (plainL_cons rfl (plainL_cons rfl rfl))) (fun _ => rfl) l
theorem plain_NamedS (l : List Named) : V.plain (.sl 0 (l.map Named.toV)) = true := plain_map (f := Named.toV) 3 (fun x => (plainL_cons rfl (plainL_cons rfl (plainL_cons rfl rfl)))) (fun _ => rfl) l
theorem plain_BindS (l : List Bind) : V.plain (.sl 0 (l.map Bind.toV)) = true := plain_map (f := Bind.toV) 3 (fun x => (plainL_cons rfl (plainL_cons rfl (plainL_cons rfl rfl)))) (fun _ => rfl) l
theorem plain_TokenS (l : List Token) : V.plain (.sl 0 (l.map Token.toV)) = true := plain_map (f := Token.toV) 3 (fun x => (plainL_cons rfl (plainL_cons rfl (plainL_cons rfl rfl)))) (fun _ => rfl) l
theorem plain_IntSS (l : List (List Int)) : V.plain (.sl 0 (l.map ints)) = true := plain_map (f := ints) 1 (fun x => plain_IntS x) (fun _ => rfl) l
theorem plain_ValueSS (l : List (List Val)) : V.plain (.sl 0 (l.map Val.toVS)) = true := plain_map (f := Val.toVS) 1 (fun x => plain_ValueS x) (fun _ => rfl) l
theorem plain_TableS (l : List Tab) : V.plain (.sl 0 (l.map Tab.toV)) = true := plain_map (f := Tab.toV) 2 (fun x => (plainL_cons rfl (plainL_cons (plain_ColS x.cols) rfl))) (fun _ => rfl) l
theorem plain_DataS (l : List Data) : V.plain (.sl 0 (l.map Data.toV)) = true := plain_map (f := Data.toV) 1 (fun x => (plainL_cons (plain_ValueSS x.rows) rfl)) (fun _ => rfl) l
theorem plain_ScopeS (l : List Scope) : V.plain (.sl 0 (l.map Scope.toV)) = true := plain_map (f := Scope.toV) 1 (fun x => (plainL_cons (plain_NamedS x.names) rfl)) (fun _ => rfl) l

end Go.Proofs.Ytkkifdgnebbghaa
