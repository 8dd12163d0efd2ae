/-
  Made slices as results of new memory. Own work; no condition.
-/
import Derived.Test.YtejdgmdebfkkeaaVMark2
namespace Go.Proofs.Ytejdgmdebfkkeaa
open Go
variable {s : S} {xs : List Own}

theorem TrL.scal {t : S} : ∀ {l : List V}, l.all V.scal = true → TrL t l l []
  | [], _ => .nil
  | v :: l, h => by
    simp only [List.all_cons, Bool.and_eq_true] at h
    exact .cons (.scal h.1) (TrL.scal h.2)

theorem Own2.made {ds us : List V} {ls : List (Bool × Nat)} {k n : Nat} {ex : Bool} (sz : Nat) (hn : n = ds.length) (hk : nthO xs k = some (.var us)) (hsz : ∀ x ∈ ds, x.cells.length = sz) (h : TrL (s.ext xs) us (V.flat ds) ls) (hd : ls.Nodup) (hl : (true, s.next + k) ∉ ls) :
    Own2 (.sl 0 ds) (.slm ex (s.next + k) 0 n) (s.ext xs) := by
  subst hn
  cases he : ds.isEmpty with
  | true =>
    have : ds = [] := by simpa using he
    subst this
    exact ⟨[], .emp', List.nodup_nil⟩
  | false =>
    refine ⟨ls ++ [(true, s.next + k)], .slm he rfl hsz (own_vars hk) h, ?_⟩
    rw [List.nodup_append]
    exact ⟨hd, by simp, fun a ha b hb => by
      simp only [List.mem_singleton] at hb
      subst hb
      exact fun e => hl (e ▸ ha)⟩

/-- Elements without slices. -/
theorem Own2.flat {α : Type} {f : α → V} {cs : List α} {k : Nat} {ex : Bool} (sz : Nat) (hk : nthO xs k = some (.var (V.flat (cs.map f)))) (h1 : ∀ x, (f x).cells.length = sz) (h2 : ∀ x, (f x).cells.all V.scal = true) :
    Own2 (.sl 0 (cs.map f)) (.slm ex (s.next + k) 0 cs.length) (s.ext xs) := by
  refine Own2.made (ls := []) sz (by simp) hk (cells_map h1 cs) (TrL.scal ?_) List.nodup_nil (by simp)
  rw [List.all_eq_true]
  intro v hv
  simp only [V.flat, List.mem_flatMap, List.mem_map] at hv
  obtain ⟨_, ⟨x, _, rfl⟩, hv⟩ := hv
  exact List.all_eq_true.1 (h2 x) v hv

theorem thw_cellsO (n i : Nat) (xs : List V) : cellsO (thw n (.sl i xs)).1 = some [(thw n (.sl i xs)).1] := by
  unfold thw
  cases xs.isEmpty <;> rfl
theorem thw_one (n i : Nat) (xs : List V) : (thw n (.sl i xs)).1.one = true := by
  unfold thw
  cases xs.isEmpty <;> rfl
theorem thw_onesO (n i : Nat) (xs : List V) : onesO [(thw n (.sl i xs)).1] = true := by
  unfold thw
  cases xs.isEmpty <;> rfl

theorem ones_cons {v : V} {l : List V} (h : v.one = true) (k : onesO l = true) : onesO (v :: l) = true := by
  unfold onesO
  rw [h]
  exact k

section
variable {P : Program} {N : Nat} {ops : Array Oper} {l : List Oper} {K : Kn → S → Prop} {L : Kn} {d : Nat} {ty : TypeId} {p : String} {a : Array Edge}
/-- A call that answers new memory, the number of what is there already counted. -/
theorem LOps.lendK {f : Operand} {g : FuncId} {args : Array Operand} {B : Array TypeId} {caps vs ws : List V} {dv : V} {k : Nat} (hf : opd L f = some (.fn g caps)) (ha : opdL L args.toList = some vs) (hap : appO vs caps = some ws) (hok : CallOk P g)
    (hc : VCalls P g ws (s.ext xs) (fun v s' => v = (thw (s.ext xs).next dv).1 ∧ s' = (s.ext xs).ext (thawed (s.ext xs).next dv))) (hm : lenO xs = some k) (hk : LOps P N ops l K ((d, (thw (s.next + k) dv).1) :: L) (s.ext (xs ++ thawed (s.next + k) dv))) :
    LOps P N ops (⟨some d, .call ⟨.value f, args, B⟩, ty, p, a, none⟩ :: l) K L (s.ext xs) := LOps.lend hf ha hap hok hc (by rw [lenO_eq hm]) hk
end

theorem HasV.extC (A : List Own) {m : Nat} {d : V} (hm : m = s.next + A.length) : HasV (s.ext (A ++ thawed m d)) m (thw m d).2 := by
  have h := HasV.ext (s := s) (A := A) (B := []) (os := (thw m d).2) hm
  rwa [List.append_nil] at h

end Go.Proofs.Ytejdgmdebfkkeaa
