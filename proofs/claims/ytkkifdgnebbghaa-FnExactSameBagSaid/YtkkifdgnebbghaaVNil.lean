/-
  A slice compared with nil: of an empty one it cannot be told which it is. Own work; no condition.
-/
import Derived.Test.YtkkifdgnebbghaaVFill
namespace Go.Proofs.Ytkkifdgnebbghaa
open Go
variable {P : Program} {N : Nat} {L : Kn} {s : S} {tt : BT}

theorem run_equalIn_slice_nil (w : World) (d : Nat) (T e : TypeId) (ad : Option Addr) (n c n' c' : Nat) (h : P.underlying T = some (.slice e)) :
    (Op.equalIn (d + 1) T (.slice ad n c) (.slice none n' c')).run P w = .ok ad.isNone w := by
  cases ad <;> simp [Op.equalIn, run_underlying h]
theorem run_guardNil {T : TypeId} (ad : Option Addr) (n c : Nat) (X Y : Operand) (w : World) : (eqGuard .eql T X Y (.slice ad n c) (.slice none 0 0)).run P w = .ok () w := by simp [eqGuard]
theorem run_eqNil {T e : TypeId} (hT : P.underlying T = some (.slice e)) (ad : Option Addr) (n c : Nat) (w : World) : (binOp .eql T (.slice ad n c) (.slice none 0 0)).run P w = .ok (.bool ad.isNone) w := by
  simp only [binOp]
  simp [Op.equal, Op.maxDepth, run_equalIn_slice_nil w 9999 T e ad n c 0 0 hT]

/-- The region that compares a slice with nil: both answers, where it is empty. -/
theorem WL.regionNil (ht : tt.ok P) {id d1 d2 i : Nat} {x : Operand} {T e ty1 ty2 X : TypeId} {t : Ty} {p1 p2 : String} {a1 a2 : Array Edge} {us : List V} {Q : Exit → Kn → S → Prop} (hx : opd L x = some (.sl i us)) (hT : tt.get T = some t) (hkd : t.kd = .slice e)
    (hN : (Nat.blt d1 N && Nat.blt d2 N) = true) (h : ∀ b : Bool, (us.isEmpty = false → b = false) → Q .normal ((d2, .bool b) :: (d1, .sl i us) :: L) s) :
    WL P N (.region id #[⟨some d1, .move x, ty1, p1, a1, none⟩, ⟨some d2, .binOp .eql T (.tmp d1) (.const (.slice none 0 0)) X, ty2, p2, a2, none⟩] false) Q L s := by
  simp only [Bool.and_eq_true] at hN
  have hN1 : d1 < N := by simpa using hN.1
  have hN2 : d2 < N := by simpa using hN.2
  obtain ⟨ti, td, _, hd, hk, _⟩ := tyOf_parts (ht.get hT)
  have hT' : ∃ e', P.underlying T = some (.slice e') := by
    rw [hkd] at hk
    cases td <;> simp_all [kdOf]
  obtain ⟨e', hT'⟩ := hT'
  refine ⟨fun σ hσ E a h1 h2 => wp_region_list ?_⟩
  show wpList P _ _ [_, _] a E.w
  unfold wpList
  rw [if_pos (vwanted_sound (b := true) h2 rfl)]
  left
  have k1 := VOp_sound (P := P) (N := N) (o := ⟨some d1, .move x, ty1, p1, a1, none⟩) (K := fun σ' s' => σ' = put σ d1 (.sl i us) ∧ s' = s) (σ := σ) (s := s) (VOp_of_vop (v := .sl i us) (s' := s) (by simp only [vop, opd_eq hσ hx, Option.map_some]) ⟨rfl, rfl⟩) (by simp [dstOk, hN1]) h1 h2
  refine Oper.wp_mono (fun a' w' hk => ?_) (k1 _)
  obtain ⟨E', σ', s', rfl, ⟨rfl, rfl⟩, k2, k3, k4⟩ := hk
  unfold wpList
  rw [if_pos (vwanted_sound (b := true) k3 rfl)]
  left
  have hv := vev_sound k3 (show vev (put σ d1 (.sl i us)) (.tmp d1) = some (.sl i us) by simp [vev, put])
  have hxv : ∃ ad n c, a'.eval (.tmp d1) = .slice ad n c ∧ (us.isEmpty = false → ad.isNone = false) := by
    generalize a'.eval (.tmp d1) = xv at hv
    cases hv with
    | sl _ _ _ _ _ _ => exact ⟨_, _, _, rfl, fun _ => rfl⟩
    | slz _ => exact ⟨_, _, _, rfl, fun h => by cases h⟩
  obtain ⟨ad, n, c, e1, e2⟩ := hxv
  have hrun : (execOp a'.eval ⟨some d2, .binOp .eql T (.tmp d1) (.const (.slice none 0 0)) X, ty2, p2, a2, none⟩).run P E'.w = .ok (.value (.bool ad.isNone)) E'.w := by
    have e4 : execOp a'.eval ⟨some d2, .binOp .eql T (.tmp d1) (.const (.slice none 0 0)) X, ty2, p2, a2, none⟩ = (do pure (.value (← (do eqGuard .eql T (.tmp d1) (.const (.slice none 0 0)) (a'.eval (.tmp d1)) (.slice none 0 0); binOp .eql T (a'.eval (.tmp d1)) (.slice none 0 0) : Sem Value)))) := by
      simp only [execOp]
      try rfl
    rw [e4, e1]
    simp [run_guardNil (P := P) (T := T) ad n c (.tmp d1) (.const (.slice none 0 0)) E'.w, run_eqNil hT' ad n c E'.w]
  unfold Oper.wp
  rw [hrun, Oper.upon_value]
  exact ⟨E', put (put σ d1 (.sl i us)) d2 (.bool ad.isNone), s', rfl, ⟨_, (hσ.cons d1 _).cons d2 _, h _ e2⟩, k2, k3.put hN2 .bool, k4⟩

end Go.Proofs.Ytkkifdgnebbghaa
