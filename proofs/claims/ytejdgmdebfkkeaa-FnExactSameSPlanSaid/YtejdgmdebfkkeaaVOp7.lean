/-
  Strings into bytes and bytes into strings at the value level. Own work; no condition.
-/
import Derived.Test.YtejdgmdebfkkeaaVOp6
import Derived.Lib.ConvBytes
import Derived.Laws.BytesString
namespace Go.Proofs.Ytejdgmdebfkkeaa
open Go

def vbytes : List V → Option (List UInt8)
  | [] => some []
  | .int .u8 n :: r => (vbytes r).map (UInt8.ofNat n.toNat :: ·)
  | _ => none

def vtoStr (P : Program) (U T : TypeId) (x : V) (s : S) : Option V :=
  (tyOf P U).bind fun u => (tyOf P T).bind fun t => match u.kd, t.kd with
    | .slice e, .string => (tyOf P e).bind fun te => match te.kd with
      | .int .u8 => if te.size = 1 then (elemsOf te x s).bind fun ys => (vbytes ys).map .str else none
      | _ => none
    | _, _ => none

theorem vbytes_sound {E : Env} : ∀ {ys : List V} {bs : List UInt8} {yv : List Value}, vbytes ys = some bs → RepL E (V.flat ys) yv → (∀ y ∈ ys, y.cells.length = 1) ∧
    ∃ ns : List Int, yv = ns.map (Value.int .u8) ∧ bs = ns.map fun n => UInt8.ofNat n.toNat
  | [], bs, yv, h, r => by
    cases h
    have : yv = [] := by cases r; rfl
    subst this
    exact ⟨by simp, [], rfl, rfl⟩
  | y :: ys, bs, yv, h, r => by
    unfold vbytes at h
    split at h
    · cases ‹_ :: _ = []›
    · rename_i n r' heq
      cases heq
      obtain ⟨bs', hbs, rfl⟩ := Option.map_eq_some_iff.1 h
      have e : V.flat (V.int .u8 n :: ys) = .int .u8 n :: V.flat ys := by simp [V.flat, V.cells]
      rw [e] at r
      cases r with
      | cons h1 h2 =>
        cases h1
        obtain ⟨k1, ns, rfl, rfl⟩ := vbytes_sound hbs h2
        exact ⟨fun y hy => by
          rcases List.mem_cons.1 hy with rfl | hy
          · rfl
          · exact k1 y hy, n :: ns, rfl, rfl⟩
    · cases h

theorem foldl_push (ns : List Int) : ∀ b : ByteArray, ns.foldl (fun r n => r.push (UInt8.ofNat n.toNat)) b = ⟨(b.data.toList ++ ns.map fun n => UInt8.ofNat n.toNat).toArray⟩ := by
  induction ns with
  | nil => intro b; simp
  | cons n ns ih =>
    intro b
    rw [List.foldl_cons, ih]
    simp [ByteArray.push]

theorem vbytes_len {ys : List V} {bs : List UInt8} (h : vbytes ys = some bs) : bs.length = ys.length := by
  induction ys generalizing bs with
  | nil => cases h; rfl
  | cons y ys ih =>
    unfold vbytes at h
    split at h
    · cases ‹_ :: _ = []›
    · rename_i heq
      cases heq
      obtain ⟨bs', hbs, rfl⟩ := Option.map_eq_some_iff.1 h
      simp [ih hbs]
    · cases h

theorem vbytes_cells : ∀ {ys : List V} {bs : List UInt8}, vbytes ys = some bs → ∀ y ∈ ys, y.cells.length = 1
  | [], _, _, y, hy => by cases hy
  | z :: zs, bs, h, y, hy => by
    unfold vbytes at h
    split at h
    · cases ‹_ :: _ = []›
    · rename_i heq
      cases heq
      obtain ⟨bs', hbs', rfl⟩ := Option.map_eq_some_iff.1 h
      rcases List.mem_cons.1 hy with rfl | hy
      · rfl
      · exact vbytes_cells hbs' y hy
    · cases h

theorem bytes_rep {E : Env} : ∀ b : List UInt8, RepL E (b.map fun c => V.int .u8 c.toNat) (b.map fun c => Value.int .u8 c.toNat)
  | [] => .nil
  | c :: b => by
    refine .cons (.int (by simp [IntKind.min, IntKind.signed]) ?_) (bytes_rep b)
    have := c.toNat_lt
    simp [IntKind.max, IntKind.signed, IntKind.bits]
    omega

theorem vtoStr_sound {P : Program} {U T : TypeId} {x v : V} {s : S} {E : Env} {xv : Value} (hr : RelS E s) (hx : RepV E x xv) (h : vtoStr P U T x s = some v) :
    ∃ val, (convert U T xv).run P E.w = .ok val E.w ∧ RepV E v val := by
  simp only [vtoStr, Option.bind_eq_some_iff] at h
  obtain ⟨u, hu, t, ht, h⟩ := h
  obtain ⟨_, d', _, hd', hk', _⟩ := tyOf_parts hu
  obtain ⟨_, d, _, hd, hk, _⟩ := tyOf_parts ht
  split at h
  case h_2 => cases h
  rename_i e hku hkt
  rw [hku] at hk'
  rw [hkt] at hk
  have : d' = .slice e := by cases d' <;> simp [kdOf] at hk'; rw [hk']
  subst this
  have : d = .string := by cases d <;> simp [kdOf] at hk; rfl
  subst this
  simp only [Option.bind_eq_some_iff] at h
  obtain ⟨te, hte, h⟩ := h
  obtain ⟨_, de, _, hde, hke, _⟩ := tyOf_parts hte
  split at h
  case h_2 => cases h
  rename_i hkte
  rw [hkte] at hke
  have : de = .int .u8 := by cases de <;> simp [kdOf] at hke; rw [hke]
  subst this
  split at h
  case isFalse => cases h
  rename_i hts
  obtain ⟨ys, hys, h⟩ := Option.bind_eq_some_iff.1 h
  obtain ⟨bs, hbs, rfl⟩ := Option.map_eq_some_iff.1 h
  have hyc : ∀ y ∈ ys, y.cells.length = te.size := by rw [hts]; exact vbytes_cells hbs
  obtain ⟨a, m, c, news, rfl, hm, hmc, hnl, hnr, hnews, hnone⟩ := elems_sound hte (by omega) hr hx hys hyc
  obtain ⟨_, ns, rfl, rfl⟩ := vbytes_sound hbs hnr
  rw [run_convert_bytes_string E.w U T e a m c hd' hde hd]
  have hlen : (ns.map fun n => UInt8.ofNat n.toNat).length ≤ maxLen := by
    have h1 := vbytes_len hbs
    rw [h1]
    cases hx with
    | sl q1 q2 q3 => cases hys; omega
    | slz => have : ys.length = 0 := by omega
             rw [this]; exact Nat.zero_le _
    | zsl => have : ys.length = 0 := by omega
             rw [this]; exact Nat.zero_le _
    | nilsl => have : ys.length = 0 := by omega
               rw [this]; exact Nat.zero_le _
    | slm q1 q2 q3 _ => omega
    | raw => cases hys
  cases a with
  | none =>
    have h0 : ns = [] := by
      have := hnone rfl
      rw [this] at hnl
      simpa using hnl
    subst h0
    refine ⟨.string .empty, by simp [Conv.bytesToString], ?_⟩
    have := RepV.str (E := E) (s := []) (Nat.zero_le _)
    exact this
  | some b =>
    have hload : (loadCells b m).run P E.w = .ok (ns.map (Value.int .u8)).toArray E.w := by
      have := run_loadCells_list (P := P) E.w b (ns.map (Value.int .u8)) (fun j u hj => hnews b rfl j u hj)
      rwa [hnl, hts, Nat.mul_one] at this
    rw [run_bytesToString E.w b m c ns hload, foldl_push]
    refine ⟨_, rfl, ?_⟩
    have := RepV.str (E := E) hlen
    simpa using this

theorem bytesWorld_eq (w : World) (e : TypeId) (s : ByteArray) :
    Lib.bytesWorld w e s = w.drew.alloc (.cells (Lib.bytesCells w e s) e ((Lib.bytesCells w e s).size, (Lib.bytesCells w e s).size + 1)) := by
  have h : (Lib.bytesWorld w e s).heap = (w.drew.alloc (.cells (Lib.bytesCells w e s) e ((Lib.bytesCells w e s).size, (Lib.bytesCells w e s).size + 1))).heap := by
    apply Array.ext_getElem?
    intro i
    rcases Nat.lt_trichotomy i w.heap.size with hi | rfl | hi
    · rw [Lib.bytesWorld_at_old w e s i hi]
      show _ = (w.heap.push _)[i]?
      rw [Array.getElem?_push, if_neg (by omega)]
    · rw [Lib.bytesWorld_at_new]
      show _ = (w.heap.push _)[w.heap.size]?
      simp
    · rw [Array.getElem?_eq_none (by rw [Lib.bytesWorld_size]; omega)]
      show _ = (w.heap.push _)[i]?
      rw [Array.getElem?_eq_none (by simp; omega)]
  unfold Lib.bytesWorld World.freeze at *
  simp only [Nat.one_ne_zero, if_false] at h ⊢
  unfold World.alloc World.drew at *
  simp only at h
  rw [h]

def vtoBytes (P : Program) (U T : TypeId) (x : V) (s : S) : Option (V × S) :=
  (tyOf P U).bind fun _ => (tyOf P T).bind fun t => match t.kd, x with
    | .slice e, .str b => (tyOf P e).bind fun te => match te.kd with
      | .int .u8 => some (.slm false s.next 0 b.length, s.newVar (b.map fun c => .int .u8 c.toNat))
      | _ => none
    | _, _ => none

theorem vtoBytes_sound {P : Program} {U T : TypeId} {x v : V} {s s' : S} {E : Env} {xv : Value} (hr : RelS E s) (hx : RepV E x xv) (h : vtoBytes P U T x s = some (v, s')) : Does P (convert U T xv) E s v s' := by
  simp only [vtoBytes, Option.bind_eq_some_iff] at h
  obtain ⟨u, hu, t, ht, h⟩ := h
  obtain ⟨_, d', _, hd', _⟩ := tyOf_parts hu
  obtain ⟨_, d, _, hd, hk, _⟩ := tyOf_parts ht
  split at h
  case h_2 => cases h
  rename_i e b hkd
  rw [hkd] at hk
  have : d = .slice e := by cases d <;> simp [kdOf] at hk; rw [hk]
  subst this
  obtain ⟨te, hte, h⟩ := Option.bind_eq_some_iff.1 h
  obtain ⟨_, de, _, hde, hke, _⟩ := tyOf_parts hte
  split at h
  case h_2 => cases h
  rename_i hkte
  rw [hkte] at hke
  have : de = .int .u8 := by cases de <;> simp [kdOf] at hke; rw [hke]
  subst this
  cases h
  cases hx with
  | str hl =>
    have hrun := Lib.run_convert_string_bytes (P := P) E.w U T e ⟨b.toArray⟩ hd' hd hde
    rw [bytesWorld_eq] at hrun
    obtain ⟨k0, kr⟩ := step_drew hr
    have hbs : (⟨b.toArray⟩ : ByteArray).size = b.length := by simp [ByteArray.size]
    have hge := grownCap_ge E.w b.length 0 e
    have hcm := grownCap_le_maxLen E.w b.length 0 e hl
    have hcells : (Lib.bytesCells E.w e ⟨b.toArray⟩).toList = b.map (fun c => Value.int .u8 c.toNat) ++ List.replicate (grownCap E.w b.length 0 e - b.length) (.int .u8 0) := by
      simp [Lib.bytesCells, hbs]
    have hsz : (Lib.bytesCells E.w e ⟨b.toArray⟩).size = grownCap E.w b.length 0 e := by
      rw [← Array.length_toList, hcells]
      simp
      omega
    have hrep : RepL E.drew (b.map fun c => V.int .u8 c.toNat) (b.map fun c => Value.int .u8 c.toNat) := bytes_rep b
    obtain ⟨k1, k2⟩ := step_newVar (arr := Lib.bytesCells E.w e ⟨b.toArray⟩) (cs := b.map fun c => V.int .u8 c.toNat) kr (by
        rw [hcells, List.length_map, List.take_append_of_le_length (by simp), List.take_of_length_le (by simp)]
        exact hrep) (by rw [hsz, List.length_map]; exact hge) e ((Lib.bytesCells E.w e ⟨b.toArray⟩).size, (Lib.bytesCells E.w e ⟨b.toArray⟩).size + 1) (fun o ho hc => by
        rw [List.length_map] at ho
        rw [hsz] at hc
        omega)
    refine ⟨_, _, hrun, k0.trans k1, k2, ?_⟩
    rw [hbs]
    exact .slm (by simp [Env.newVar]; rfl) hge hcm (fun e => by cases e)

end Go.Proofs.Ytejdgmdebfkkeaa
