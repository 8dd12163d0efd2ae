/-
  Slices of the caller's that a call appends to. Own work; no condition.
-/
import Derived.Test.YtolhegocbkckdaaVNil
namespace Go.Proofs.Ytolhegocbkckdaa
open Go
/-- A slice of nothing as the last argument may be taken for one that is appended to. -/
theorem VCalls.zfamL {P : Program} {f : FuncId} {pre : List V} {s : S} {R : V → S → Prop} (sz : Nat) (h : VCalls P f (pre ++ [.sl s.next []]) (s.newFam 0 sz) R) : VCalls P f (pre ++ [.zsl]) s R := by
  intro E vals h1 h2
  obtain ⟨st, r⟩ := step_emptyFam h1 sz
  obtain ⟨a, b, rfl, ha, hb⟩ := RepL.split h2
  have hb' : RepL { E with fam := fun x => if x = s.next then some ⟨0, none, 0, sz⟩ else E.fam x } [.sl s.next []] b := by
    cases hb with
    | cons k1 k2 =>
      cases k2
      refine .cons ?_ .nil
      cases k1
      exact .slz (.inr ⟨⟨0, none, 0, sz⟩, by simp, fun _ => rfl⟩)
  refine (h _ (a ++ b) r ((ha.evolve st.ev).append hb')).mono fun e w' ⟨E1, v, val, s', x1, x2, x3, k, r', st'⟩ => ?_
  exact ⟨E1, v, val, s', x1, x2, x3, k, r', st.trans st'⟩
@[simp] theorem setFam_setFam (t : S) (id a b c d : Nat) : (t.setFam id a b).setFam id c d = t.setFam id c d := by
  refine S.ext_eq (fun _ => rfl) (fun x => ?_) rfl
  simp only [S.setFam]
  by_cases h : x = id <;> simp [h]
theorem ext_setFam_lt {t : S} {id : Nat} (h : id < t.next) (xs : List Own) (n sz : Nat) : (t.ext xs).setFam id n sz = (t.setFam id n sz).ext xs := by
  refine S.ext_eq (fun _ => rfl) (fun x => ?_) rfl
  simp only [S.setFam, S.ext]
  by_cases h1 : x = id
  · simp [h1, h]
  · simp [h1]
@[simp] theorem setFam_next (t : S) (id n sz : Nat) : (t.setFam id n sz).next = t.next := rfl
@[simp] theorem setFam_vars (t : S) (id n sz l : Nat) : (t.setFam id n sz).vars l = t.vars l := rfl
section
variable {P : Program} {N : Nat} {ops : Array Oper} {l : List Oper} {K : Kn → S → Prop} {L : Kn} {t : S} {xs : List Own} {tt : BT} {d : Nat} {ty : TypeId} {p : String} {a : Array Edge}
/-- An append to the caller's slice. -/
theorem LOps.appO (ht : tt.ok P) {T U e : TypeId} {u te : Ty} {x y : Operand} {id n sz : Nat} {us vs : List V} {w : V} (hx : opd L x = some (.sl id us)) (hlt : id < t.next) (hy : opd L y = some w) (hw : spreadO w = some vs)
    (hT : tt.get T = some u) (hkd : u.kd = .slice e) (hte : tt.get e = some te) (hz : (Nat.beq te.zero.length te.size && Nat.blt 0 te.size) = true) (hm : Nat.beq sz te.size = true) (hU : Nat.beq U T = true) (hn : n = us.length) (hall : Elems te vs) (hb : AppB (us.length + vs.length) te.bytes)
    (hk : LOps P N ops l K ((d, .sl id (us ++ vs)) :: L) ((t.setFam id (us.length + vs.length) sz).ext xs)) : LOps P N ops (⟨some d, appCall x y #[T, U], ty, p, a, none⟩ :: l) K L ((t.setFam id n sz).ext xs) := by
  simp only [Bool.and_eq_true] at hz
  have hU' := Nat.eq_of_beq_eq_true hU
  subst hU'
  subst hn
  have hm' := Nat.eq_of_beq_eq_true hm
  subst hm'
  refine .st (fun σ hσ => ?_) hk
  have hf : ((t.setFam id us.length te.size).ext xs).fams id = some (us.length, te.size) := by rw [ext_fams_lt _ _ (by simpa using hlt)]; simp [S.setFam]
  simp only [appCall, vop, vevL, opd_eq hσ hx, opd_eq hσ hy, vbuiltin, vappend, ht.get hT, hkd, ht.get hte, spreadO_eq hw, Option.bind_some, Option.map_some, if_true]
  rw [if_pos ⟨Nat.eq_of_beq_eq_true hz.1, by simpa using hz.2, hall⟩, hf]
  simp only [Option.bind_some]
  rw [if_pos ⟨trivial, trivial, hb.1, hb.2⟩, ext_setFam_lt (by simpa using hlt), setFam_setFam]
end
theorem Own2.famAt {α : Type} {f : α → V} {cs : List α} {t : S} {id szf : Nat} (sz : Nat) (hk : t.fams id = some (cs.length, szf)) (h1 : ∀ x, (f x).cells.length = sz) (h2 : ∀ x, (f x).cells.all V.scal = true) : Own2 (.sl 0 (cs.map f)) (.sl id (cs.map f)) t := by
  cases cs with
  | nil => exact ⟨[], .emp, List.nodup_nil⟩
  | cons c cs =>
    refine ⟨[] ++ [(false, id)], .sl (sz := szf) (sz' := sz) rfl rfl (cells_map h1 (c :: cs)) (by rw [hk, List.length_map]) (TrL.scal ?_), by simp⟩
    rw [List.all_eq_true]
    intro v hv
    simp only [V.flat, List.mem_flatMap, List.mem_map] at hv
    obtain ⟨_, ⟨x, _, rfl⟩, hv⟩ := hv
    exact List.all_eq_true.1 (h2 x) v hv
theorem Own2.famC {α : Type} {f : α → V} {cs : List α} {s : S} {xs : List Own} {k : Nat} (sz : Nat) {n szf : Nat} (hk : nthO xs k = some (.fam n szf)) (hn : n = cs.length) (h1 : ∀ x, (f x).cells.length = sz) (h2 : ∀ x, (f x).cells.all V.scal = true) : Own2 (.sl 0 (cs.map f)) (.sl (s.next + k) (cs.map f)) (s.ext xs) := by
  subst hn
  exact Own2.famAt sz (by rw [ext_fams, nthO_eq hk]; rfl) h1 h2
end Go.Proofs.Ytolhegocbkckdaa
