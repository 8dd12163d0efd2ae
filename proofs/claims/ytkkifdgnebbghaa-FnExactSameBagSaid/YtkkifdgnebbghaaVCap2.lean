/-
  An element of an owned slice, taken out and put back. Own work; no condition.
-/
import Derived.Test.YtkkifdgnebbghaaVCap
import Derived.Test.YtkkifdgnebbghaaVTurn
namespace Go.Proofs.Ytkkifdgnebbghaa
open Go

theorem OwL.sizes {s : S} {sz : Nat} : ∀ {vs ds : List V} {ls : List (Bool × Nat)}, OwL s vs ds ls → (∀ d ∈ ds, d.cells.length = sz) → ∀ v ∈ vs, v.cells.length = sz
  | _, _, _, .nil, _ => fun v hv => by cases hv
  | _, _, _, .cons h t, hd => fun v hv => by
    rcases List.mem_cons.1 hv with rfl | hv
    · rw [← h.rd.cells_len]; exact hd _ (by simp)
    · exact t.sizes (fun d h => hd d (by simp [h])) v hv
theorem flat_app (a b : List V) : V.flat (a ++ b) = V.flat a ++ V.flat b := by simp [V.flat]

theorem LeL.perm {a b : List (Bool × Nat)} (h : a.Perm b) : LeL a b := ⟨fun n => h.nodup_iff.2 n, fun _ hp => h.mem_iff.1 hp⟩
/-- An element of an owned slice, by itself. -/
theorem Hold.openO {s : S} {b : Nat} {H : List BE} {c l n : Nat} {dA dZ : List V} {d : V} (sz : Nat) (h : Hold s b (.own (.slm (.is c) l 0 n) (.sl 0 (dA ++ d :: dZ)) :: H)) (hsz : ∀ x ∈ dA ++ d :: dZ, x.cells.length = sz) :
    ∃ (A Z : List V) (u : V) (rest : List V), (V.flat A).length = dA.length * sz ∧ rest.length = (c - n) * sz ∧ n ≤ c ∧ n = (dA ++ d :: dZ).length ∧
      Hold s b (.cell l (V.flat A ++ (u.cells ++ (V.flat Z ++ rest))) :: .own u d :: .own (.agg A) (.agg dA) :: .own (.agg Z) (.agg dZ) :: H) := by
  obtain ⟨ls, h1, h2, h3⟩ := h.ex
  cases h1 with
  | @cons _ a0 _ b0 k1 k2 =>
    have k1' : Ow s (.slm (.is c) l 0 n) (.sl 0 (dA ++ d :: dZ)) a0 := k1
    generalize hds : dA ++ d :: dZ = ds at k1' hsz
    cases k1' with
    | slm0 => simp at hds
    | @slc _ _ _ sz0 us _ rest la q1 q2 q3 q4 q5 q0 q6 =>
      subst hds
      obtain ⟨A, R, la1, la2, rfl, rfl, w1, w2⟩ := q6.split
      cases w2 with
      | @cons u Z _ _ lu lz w3 w4 =>
        have hus := q6.sizes hsz
        have hu : u.cells.length = sz := hus u (by simp)
        have hsz0 : sz0 = sz := by rw [← q3 u (by simp), hu]
        subst hsz0
        have hp : LeL ([(true, l)] ++ (lu ++ (la1 ++ (lz ++ b0)))) (((la1 ++ (lu ++ lz)) ++ [(true, l)]) ++ b0) := LeL.perm (List.perm_iff_count.2 fun x => by simp only [List.count_append]; omega)
        refine ⟨A, Z, u, rest, ?_, q4, q5, by rw [q6.len, q2], [(true, l)] ++ (lu ++ (la1 ++ (lz ++ b0))), .cons ⟨rfl, ?_⟩ (.cons w3 (.cons (show BOk s (.own (.agg A) (.agg dA)) la1 from .agg w1) (.cons (show BOk s (.own (.agg Z) (.agg dZ)) lz from .agg w4) k2))), hp.1 h2, fun p hp' => h3 p (hp.2 p hp')⟩
        · rw [flat_uniform (fun x hx => q3 x (by simp [hx])), w1.len]
        · rw [q1, flat_app, flat_cons]
          simp only [List.append_assoc]
theorem Hold.shutO {s : S} {b : Nat} {H : List BE} {c l n : Nat} {dA dZ A Z rest ce : List V} {u d : V} (sz : Nat) (h : Hold s b (.cell l (V.flat A ++ (ce ++ (V.flat Z ++ rest))) :: .own u d :: .own (.agg A) (.agg dA) :: .own (.agg Z) (.agg dZ) :: H)) (hce : ce = u.cells)
    (hsz : ∀ x ∈ dA ++ d :: dZ, x.cells.length = sz) (hr : rest.length = (c - n) * sz) (hnc : n ≤ c) (hn : n = (dA ++ d :: dZ).length) : Hold s b (.own (.slm (.is c) l 0 n) (.sl 0 (dA ++ d :: dZ)) :: H) := by
  subst hce
  obtain ⟨ls, h1, h2, h3⟩ := h.ex
  cases h1 with
  | @cons _ a0 _ b0 k1 h1 => cases h1 with
    | @cons _ a1 _ b1 k2 h1 => cases h1 with
      | @cons _ a2 _ b2 k3 h1 => cases h1 with
        | @cons _ a3 _ b3 k4 h1 =>
          obtain ⟨e1, e2⟩ := k1
          have k2' : Ow s u d a1 := k2
          have k3' : OwL s A dA a2 := by
            have k : Ow s (.agg A) (.agg dA) a2 := k3
            cases k with
            | scal h => simp [V.scal] at h
            | agg h => exact h
          have k4' : OwL s Z dZ a3 := by
            have k : Ow s (.agg Z) (.agg dZ) a3 := k4
            cases k with
            | scal h => simp [V.scal] at h
            | agg h => exact h
          have hw : OwL s (A ++ u :: Z) (dA ++ d :: dZ) (a2 ++ (a1 ++ a3)) := k3'.append (.cons k2' k4')
          have hp : LeL (((a2 ++ (a1 ++ a3)) ++ [(true, l)]) ++ b3) (a0 ++ (a1 ++ (a2 ++ (a3 ++ b3)))) := by
            rw [e1]
            exact LeL.perm (List.perm_iff_count.2 fun x => by simp only [List.count_append]; omega)
          refine ⟨_, .cons (show BOk s (.own _ _) _ from .slc (us := A ++ u :: Z) (rest := rest) ?_ (by rw [hn, hw.len]) (hw.sizes hsz) hr hnc (by simp) hw) h1, hp.1 h2, fun p hp' => h3 p (hp.2 p hp')⟩
          rw [e2, flat_app, flat_cons]
          simp only [List.append_assoc]
theorem Hold.unscal {s : S} {b : Nat} {H : List BE} {v d : V} {vs ds : List V} (h : Hold s b (.own (.agg (v :: vs)) (.agg (d :: ds)) :: H)) (hd : d.scal = true) : v = d ∧ Hold s b (.own (.agg vs) (.agg ds) :: H) :=
  ⟨h.unagg.scalOk hd, h.unagg.drop1⟩

theorem AnsL.idxO {P : Program} {L : Kn} {s : S} {tt : BT} (ht : tt.ok P) {T e : TypeId} {t te : Ty} {x i : Operand} {ex : Cp} {b off len j : Nat} {k : IntKind} (hx : opd L x = some (.slm ex b off len)) (hi : opd L i = some (.int k (j : Int))) (hT : tt.get T = some t) (hkd : t.kd = .slice e)
    (hte : tt.get e = some te) (hj : j < len) : AnsL P (.indexAddr T x i) L s (.ptr b (off + j * te.size)) := .idxM ht hx hi hT hkd hte hj

end Go.Proofs.Ytkkifdgnebbghaa
