/-
  Further rules over the books: appends to a slice of nothing, slice literals of what lies in variables, a row with one more cell. Own work; no condition.
-/
import Derived.Test.YtkkifdgnebbghaaVTree
namespace Go.Proofs.Ytkkifdgnebbghaa
open Go

section
variable {P : Program} {N : Nat} {ops : Array Oper} {l : List Oper} {K : Kn → S → Prop} {L : Kn} {s : S} {tt : BT} {d : Nat} {ty : TypeId} {p : String} {a : Array Edge} {H : List BE}
/-- An append to a slice of nothing. -/
theorem LOps.appZ (ht : tt.ok P) {T U e : TypeId} {t te : Ty} {x y : Operand} {vs ds2 : List V} {u w : V} {H2 : List BE} (hx : opd L x = some u) (hu : nilO u = true) (hy : opd L y = some w)
    (hT : tt.get T = some t) (hkd : t.kd = .slice e) (hte : tt.get e = some te) (hz : (Nat.beq te.zero.length te.size && Nat.blt 0 te.size) = true) (hU : Nat.beq U T = true) (hh : Hold s s.next H)
    (hc : ConsSp H w vs ds2 H2) (hall : Elems te vs) (hb : AppB vs.length te.bytes)
    (hk : ∀ (s' : S) (n : Nat), Hold s' s'.next (.acc n te.size vs ds2 :: H2) → LOps P N ops l K ((d, .sl n vs) :: L) (s'.ext [])) : LOps P N ops (⟨some d, appCall x y #[T, U], ty, p, a, none⟩ :: l) K L (s.ext []) := by
  simp only [Bool.and_eq_true] at hz
  have hU' := Nat.eq_of_beq_eq_true hU
  subst hU'
  have hels : ∀ v ∈ vs, v.cells.length = te.size := fun v hv => by
    unfold Elems at hall
    have := List.all_eq_true.1 hall v hv
    rw [Bool.and_eq_true, decide_eq_true_eq] at this
    exact this.1
  obtain ⟨ls, h1, h2, h3⟩ := hh.ex
  obtain ⟨hw, b2, l2, m1, m2, m3⟩ := hc.sound h1
  have hnd := m3.1 h2
  have hlt : ∀ p ∈ b2 ++ l2, p.2 < s.next := fun p hp => h3 p (m3.2 p hp)
  have hnew : Hold (s.ext [.fam vs.length te.size]) (s.ext [.fam vs.length te.size]).next (.acc s.next te.size vs ds2 :: H2) := by
    refine ⟨(b2 ++ [(false, s.next)]) ++ l2, .cons ⟨b2, rfl, m1.congr fun p hp => .lt (hlt p (List.mem_append_left _ hp)), by rw [ext_fams0]; rfl, m1.sizes hels⟩ (m2.congr (by rw [ext_next]; omega) fun p hp => .lt (hlt p (List.mem_append_right _ hp))), ?_, fun p hp => ?_⟩
    · have hr : LeL ((b2 ++ [(false, s.next)]) ++ l2) ([(false, s.next)] ++ (b2 ++ l2)) := by
        rw [← List.append_assoc]
        exact (LeL.comm b2 _).app (LeL.refl l2)
      refine hr.1 ?_
      rw [List.singleton_append, List.nodup_cons]
      exact ⟨fun hm => by have := hlt _ hm; simp at this, hnd⟩
    · rw [ext_next]
      simp only [List.mem_append, List.mem_singleton] at hp
      rcases hp with (hp | rfl) | hp
      · have := hlt p (List.mem_append_left _ hp); simp only [List.length_singleton]; omega
      · simp
      · have := hlt p (List.mem_append_right _ hp); simp only [List.length_singleton]; omega
  refine .st (v := .sl s.next vs) (s' := (s.ext [.fam vs.length te.size]).ext []) (fun σ hσ => ?_) (hk _ _ hnew)
  simp only [appCall, vop, vevL, opd_eq hσ hx, opd_eq hσ hy, vbuiltin, vappend, ht.get hT, hkd, ht.get hte, spreadO_eq hw, Option.bind_some, Option.map_some, if_true]
  rw [if_pos ⟨Nat.eq_of_beq_eq_true hz.1, by simpa using hz.2, hall⟩]
  have hk : u = .zsl ∨ u = .nilsl := by
    unfold nilO at hu
    split at hu
    · exact .inl rfl
    · exact .inr rfl
    · cases hu
  rcases hk with rfl | rfl
  all_goals
    simp only
    rw [if_pos ⟨hb.1, hb.2⟩, ext_newFam, List.nil_append, ext_ext_nil]
    rfl
end

/-- A slice literal of what lies in variables, that nobody appends to: it changes nothing that anybody sees. -/
theorem AnsL.bslE {P : Program} {L : Kn} {s : S} {tt : BT} (ht : tt.ok P) {T e : TypeId} {t te : Ty} {m : Nat} {parts : Array (Nat × Operand)} {ps : List (Nat × V)} {vs : List V} (hp : opdP L parts.toList = some ps) (hT : tt.get T = some t) (hkd : t.kd = .slice e) (hte : tt.get e = some te)
    (hz : (Nat.beq te.zero.length te.size && Nat.blt 0 te.size && Nat.ble (m * te.size) 16777216) = true) (hsq : seqO 0 ps = some vs) (hlen : Nat.beq vs.length m = true) (hm : Nat.beq m 0 = false) (hel : ElsH te vs) : AnsL P (.buildSlice T m parts) L s (.sl 0 vs) := by
  simp only [Bool.and_eq_true] at hz
  have hm' : vs.length = m := Nat.eq_of_beq_eq_true hlen
  have h0 : ¬ m = 0 := fun e => by rw [e] at hm; cases hm
  have hz1 : te.zero.length = te.size := Nat.eq_of_beq_eq_true hz.1.1
  have hz2 : 0 < te.size := by simpa using hz.1.2
  have hz3 : m * te.size ≤ 16777216 := Nat.le_of_ble_eq_true hz.2
  have hcl : ∀ v ∈ vs, v.cells.length = te.size := fun v hv => (hel v hv).1
  have hf : ∀ v ∈ vs, v.fits te.agg = true := fun v hv => (hel v hv).2
  have hfill := vfill_seq (n := m) hz1 (us := []) (by simpa using hsq) (by simpa using hcl) (by simp; omega)
  rw [List.nil_append, filled_full hm', filled_nil] at hfill
  have hsz1 : te.agg = false → te.size = 1 := fun hag => by
    cases vs with
    | nil => exact absurd hm'.symm h0
    | cons v r =>
      obtain ⟨h1, h2⟩ := hel v (by simp)
      rw [← h1]
      rw [hag] at h2
      cases v <;> simp_all [V.fits, V.cells, V.one]
  have hck := chunk_flat hz2 hcl hf
  rw [hm'] at hck
  have hb : vbuildSlice P T m ps s = some (.sl s.next vs, s.newFam m te.size) := by
    simp only [vbuildSlice, ht.get hT, hkd, ht.get hte, Option.bind_some]
    rw [if_pos ⟨hz1, hz2, hz3⟩, hfill]
    simp only [Option.bind_some]
    rw [if_neg h0, if_pos (chunkOk_flat hf hsz1), hck]
  refine ⟨fun σ hσ dst ty p a g K hk => ?_⟩
  refine .inl ?_
  unfold VOp0
  exact .inr ⟨ps, .sl 0 vs, opdP_eq hσ hp, by simp only [vbsF, hb], hk⟩

/-- An empty slice literal. -/
theorem AnsL.bslZ {P : Program} {L : Kn} {s : S} {tt : BT} (ht : tt.ok P) {T e : TypeId} {t te : Ty} {parts : Array (Nat × Operand)} (hp : parts.toList = []) (hT : tt.get T = some t) (hkd : t.kd = .slice e) (hte : tt.get e = some te) (hz : (Nat.beq te.zero.length te.size && Nat.blt 0 te.size) = true) :
    AnsL P (.buildSlice T 0 parts) L s .zsl :=
  .of fun σ hσ _ _ _ _ _ => by
    simp only [Bool.and_eq_true] at hz
    simp only [vop, hp, vparts, vbuildSlice, ht.get hT, hkd, ht.get hte, Option.bind_some]
    rw [if_pos ⟨Nat.eq_of_beq_eq_true hz.1, by simpa using hz.2, by omega⟩]
    simp [vfill]
/-- A struct's fields, put in one by one. -/
inductive Fills (fs : List FieldI) : List V → List (Nat × V) → List V → Prop
  | nil {cells} : Fills fs cells [] cells
  | cons {cells cells' r vs i v rest f} : nthO fs i = some f → cellsO v = some vs → Nat.beq vs.length f.size = true → splO cells f.off vs = some cells' → Fills fs cells' rest r → Fills fs cells ((i, v) :: rest) r
theorem Fills.eq {fs : List FieldI} {cells : List V} {ps : List (Nat × V)} {r : List V} (h : Fills fs cells ps r) : vfill (placeS fs) cells ps = some r := by
  induction h with
  | nil => rfl
  | cons h1 h2 h3 h4 _ ih =>
    obtain ⟨e1, e2⟩ := splO_eq h4
    have e3 := Nat.eq_of_beq_eq_true h3
    have e4 := cellsO_eq h2
    unfold vfill
    simp only [placeS, nthO_eq h1, Option.map_some, Option.bind_some]
    rw [if_pos ⟨by rw [e4]; exact e3, by rw [← e3]; exact e2⟩, e4, ← e1]
    exact ih
theorem AnsL.buildE {P : Program} {L : Kn} {s : S} {tt : BT} (ht : tt.ok P) {T : TypeId} {sz b : Nat} {g : Bool} {zero cs : List V} {fs : List FieldI} {parts : Array (Nat × Operand)} {ps : List (Nat × V)} (hT : tt.get T = some ⟨sz, b, zero, .struct fs g⟩)
    (hz : (Nat.beq zero.length sz && Nat.blt 0 sz) = true) (hp : opdP L parts.toList = some ps) (hf : Fills fs zero ps cs) : AnsL P (.build T parts) L s (.agg cs) :=
  .of fun σ hσ _ _ _ _ _ => by
    simp only [Bool.and_eq_true] at hz
    simp only [vop, opdP_eq hσ hp, vbuild, ht.get hT, Option.bind_some]
    rw [if_pos ⟨Nat.eq_of_beq_eq_true hz.1, by simpa using hz.2⟩, hf.eq]
    rfl

/-- The same memory, told of another row of cells. -/
theorem Hold.reblk {s : S} {H : List BE} {b n : Nat} {d d' : V} (h : Hold s b (.blk n d :: H)) (hc : cv d' = cv d) (hp : d'.plain = true) (ht : (thw n d').2 = (thw n d).2) : Hold s b (.blk n d' :: H) := by
  obtain ⟨ls, h1, h2, h3⟩ := h.ex
  refine ⟨ls, ?_, h2, h3⟩
  cases h1 with
  | cons k1 k2 =>
    obtain ⟨e1, e2, e3, e4⟩ := k1
    exact .cons ⟨by rw [e1, hc], hp, by rw [ht]; exact e3, by rw [hc]; exact e4⟩ k2

end Go.Proofs.Ytkkifdgnebbghaa
