/-
  Made slices filled from head to end with what calls have answered in new memory. Own work; no condition.
-/
import Derived.Test.YtkkifdgnebbghaaVBook
namespace Go.Proofs.Ytkkifdgnebbghaa
open Go
variable {P : Program} {N : Nat} {ops : Array Oper} {l : List Oper} {K : Kn → S → Prop} {L : Kn} {s : S} {xs : List Own} {tt : BT} {d : Nat} {ty : TypeId} {p : String} {a : Array Edge}

theorem thwL_len' : ∀ (vs : List V) (n : Nat), (thwL n vs).1.length = vs.length := thwL_len

theorem AppB.ofW {n b : Nat} (h : n ≤ 68719476736) (hb : Nat.ble b 2048 = true) : AppB n b := by
  have hb' : b ≤ 2048 := Nat.le_of_ble_eq_true hb
  refine ⟨?_, by omega⟩
  have := Nat.mul_le_mul h hb'
  omega

/-- A store over some cells in the midst of the first variable. -/
theorem LOps.storeX (ht : tt.ok P) {T : TypeId} {u : Ty} {x y : Operand} {off m q : Nat} {v dv : V} {CA z CZ : List V} {B : List Own} (hq : CA.length = q) (hx : opd L x = some (.ptr (s.next + 0) off)) (ho : off = 0 + q) (hy : opd L y = some v) (hT : tt.get T = some u)
    (hv : v = (thw m dv).1) (h1 : dv.cells.all V.one = true) (hn : Nat.beq dv.cells.length u.size = true) (hz : Nat.beq z.length dv.cells.length = true) (hk : LOps P N ops l K L (s.ext (.var (CA ++ ((thw m dv).1.cells ++ CZ)) :: B))) :
    LOps P N ops (⟨none, .store T x y, ty, p, a, none⟩ :: l) K L (s.ext (.var (CA ++ (z ++ CZ)) :: B)) := by
  refine .stN (v := .und) (fun σ hσ => ?_) hk
  subst hv
  have h4 : dv.cells.length = u.size := Nat.eq_of_beq_eq_true hn
  have h5 : z.length = dv.cells.length := Nat.eq_of_beq_eq_true hz
  have hl := thw_cells_len dv m
  have hvar : (s.ext (.var (CA ++ (z ++ CZ)) :: B)).vars (s.next + 0) = some (CA ++ (z ++ CZ)) := by rw [ext_vars]; rfl
  simp only [vop, opd_eq hσ hx, opd_eq hσ hy, vstore, ht.get hT, hvar, Option.bind_some]
  have h6 := splice_mid (CA := CA) (CZ := CZ) (ce := z) (f := 0) (vs := (thw m dv).1.cells) (by omega)
  rw [Nat.add_zero, hq, show q = off by omega] at h6
  rw [if_pos ⟨by omega, by simp only [List.length_append]; omega, thw_cells_ones m h1⟩, h6, Option.map_some, ext_setVar _ _ _ _ rfl]
  have e : splice z 0 (thw m dv).1.cells = (thw m dv).1.cells := by
    unfold splice
    simp only [List.take_zero, List.nil_append, Nat.zero_add]
    rw [List.drop_of_length_le (by omega), List.append_nil]
  rw [e]
  rfl

theorem flat_rep (z : List V) : ∀ n, (List.replicate n z).flatten.length = n * z.length
  | 0 => by simp
  | n + 1 => by rw [List.replicate_succ, List.flatten_cons, List.length_append, flat_rep z n, Nat.add_mul]; omega
/-- The loop that fills a made slice. -/
theorem WL.loopFill {c : Code} {Q : Exit → Kn → S → Prop} (ds : List V) (z : List V) (LI : Nat → Kn) (hsz : ∀ x ∈ ds, x.cells.length = z.length) (hx : xs = [.var (List.replicate ds.length z).flatten]) (hL : SubL (LI 0) L)
    (round : ∀ (i : Nat) (hi : i < ds.length) (m : Nat) (B : List Own) (CA CZ : List V), CA.length = i * z.length → s.next + (B.length + 1) = m →
      WL P N c (lmark (LI (i + 1)) (s.ext (.var (CA ++ ((thw m ds[i]).1.cells ++ CZ)) :: (B ++ thawed m ds[i])))) (LI i) (s.ext (.var (CA ++ (z ++ CZ)) :: B)))
    (fin : WL P N c (lfin Q) (LI ds.length) (s.ext (.var (V.flat (thwL (s.next + 1) ds).1) :: thawedL (s.next + 1) ds))) : WL P N (.loop c) Q L (s.ext xs) := by
  refine WL.loop0 (fun i : Nat => ds.length - i) LI (fun i => s.ext (.var (V.flat (thwL (s.next + 1) (ds.take i)).1 ++ (List.replicate (ds.length - i) z).flatten) :: thawedL (s.next + 1) (ds.take i))) (fun i => i ≤ ds.length) 0 (by omega) hL ?_ fun i hi => ?_
  · rw [hx, List.take_zero]
    rfl
  · rcases Nat.lt_or_ge i ds.length with hlt | hge
    · have hr : (List.replicate (ds.length - i) z).flatten = z ++ (List.replicate (ds.length - (i + 1)) z).flatten := by
        rw [show ds.length - i = (ds.length - (i + 1)) + 1 by omega, List.replicate_succ, List.flatten_cons]
      rw [hr]
      refine (round i hlt (s.next + 1 + cvL (ds.take i)) (thawedL (s.next + 1) (ds.take i)) (V.flat (thwL (s.next + 1) (ds.take i)).1) _ ?_ (by rw [thawedL_length]; omega)).mono ?_
      · rw [flat_len_sz (sz := z.length) fun x hx => hsz x (List.mem_of_mem_take hx), List.length_take, Nat.min_eq_left (by omega)]
      · rintro e L' s' ⟨rfl, h2, h3⟩
        refine lback.of (i + 1) (by omega) (by omega) h2 ?_
        rw [h3, thawedL_take_succ hlt, thwL_take_succ hlt, V.flat_append, List.append_assoc]
        simp only [V.flat, List.flatMap_cons, List.flatMap_nil, List.append_nil]
    · have hi2 : i = ds.length := by omega
      subst hi2
      simp only [List.take_length, Nat.sub_self, List.replicate_zero, List.flatten_nil, List.append_nil]
      refine fin.mono ?_
      rintro e L' s' ⟨h⟩
      cases e with
      | normal => exact h.elim
      | _ => exact ⟨h⟩

theorem Own2.filled {ds : List V} {ex : Cp} {n sz : Nat} (hn : n = ds.length) (hp : V.plainL ds = true) (hsz : ∀ x ∈ ds, x.cells.length = sz) :
    Own2 (.sl 0 ds) (.slm ex (s.next + 0) 0 n) (s.ext (.var (V.flat (thwL (s.next + 1) ds).1) :: thawedL (s.next + 1) ds)) := by
  subst hn
  cases h : ds.isEmpty with
  | true =>
    have : ds = [] := by simpa using h
    subst this
    exact ⟨[], .emp', List.nodup_nil⟩
  | false =>
    refine ⟨_, .slm h rfl hsz (by rw [ext_vars]; rfl) (TrL_flat ds (s.next + 1) hp ?_), ?_⟩
    · have := HasV.ext (s := s) (A := [.var (V.flat (thwL (s.next + 1) ds).1)]) (B := []) (os := (thwL (s.next + 1) ds).2) (n := s.next + 1) (by simp)
      rw [List.append_nil] at this
      exact this
    · rw [List.nodup_append]
      refine ⟨vl_nodup _ _, by simp, ?_⟩
      intro p hp q hq e
      subst e
      rw [mem_vl] at hp
      simp only [List.mem_singleton] at hq
      subst hq
      simp only at hp
      omega

/-- A result that lies behind some of one's own. -/
theorem Own2.thwE {A : List Own} {m : Nat} {dv v : V} {xs : List Own} (hp : dv.plain = true) (hv : v = (thw m dv).1) (hm : m = s.next + A.length) (hx : xs = A ++ thawed m dv) : Own2 dv v (s.ext xs) := by
  subst hv hx
  exact ⟨_, Tr_thw _ _ hp (HasV.extC A hm), vl_nodup _ _⟩
theorem Own2.thwK (K : Nat) {m : Nat} {dv v : V} {xs : List Own} (hp : dv.plain = true) (hv : v = (thw m dv).1) (hm : m = s.next + K) (hK : K ≤ xs.length) (hx : xs.drop K = thawed m dv) : Own2 dv v (s.ext xs) :=
  Own2.thwE (A := xs.take K) hp hv (by rw [List.length_take, Nat.min_eq_left hK]; exact hm) (by rw [← hx, List.take_append_drop])
/-- A call that answers new memory; what it is written out as. -/
theorem LOps.lendE {f : Operand} {g : FuncId} {args : Array Operand} {B : Array TypeId} {ws : List V} {dv v : V} {m : Nat} (hf : opd L f = some (.fn g [])) (ha : opdL L args.toList = some ws) (hok : CallOk P g)
    (hp : V.plainL ws = true) (hc : ∀ t, VCalls P g ws t (fun v t' => Own2 dv v t')) (hm : s.next + xs.length = m) (hv : (thw m dv).1 = v) (hk : LOps P N ops l K ((d, v) :: L) (s.ext (xs ++ thawed m dv))) :
    LOps P N ops (⟨some d, .call ⟨.value f, args, B⟩, ty, p, a, none⟩ :: l) K L (s.ext xs) := by
  subst hv
  exact LOps.lend hf ha (appO_nil _) hok (VCalls.lend2 (RdL.plain _ hp) hc) hm hk

end Go.Proofs.Ytkkifdgnebbghaa
