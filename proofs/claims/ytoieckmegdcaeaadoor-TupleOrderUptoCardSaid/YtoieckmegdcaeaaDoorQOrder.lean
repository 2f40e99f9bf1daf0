-- Packed by a program of this session (pack.py) from texts of this claim.
import Derived.Test.YtoieckmegdcaeaaDoorKOrder
import Derived.Test.YtoieckmegdcaeaaDoorP9
import Derived.Lib.Strings
import Derived.Test.YtoieckmegdcaeaaDoorP10a
import Derived.Test.YtoieckmegdcaeaaDoorP12a
import Derived.Test.YtoieckmegdcaeaaDoorP13
import Derived.Test.YtoieckmegdcaeaaDoorP11b
import Derived.Test.YtoieckmegdcaeaaDoorP12b
import Derived.Test.YtoieckmegdcaeaaDoorP10b
import Derived.Test.YtoieckmegdcaeaaDoorP14
import Derived.Test.YtoieckmegdcaeaaDoorP1b
import Derived.Test.YtoieckmegdcaeaaDoorP0TEnc2
import Derived.Test.YtoieckmegdcaeaaDoorP0TOrd
import Derived.Test.YtoieckmegdcaeaaDoorP0GRead
import Derived.Shelf.Vars
section
namespace Go.Proofs.YtoieckmegdcaeaaDoor.T
open Go.RowKit Go.Proofs.YtoieckmegdcaeaaDoorW.PrintWords Go.Proofs.YtoieckmegdcaeaaDoorW.PrintLast Go.Proofs.YtoieckmegdcaeaaDoorW.PrintMore
open Go.Proofs.YtoieckmegdcaeaaDoor.G
set_option linter.unusedVariables false
set_option linter.unusedSimpArgs false

theorem encRes_pos {l : List V} (h : ∀ v ∈ l, valid v) : encRes l = (B (enc l), 0) := if_pos h
theorem encRes_neg {l : List V} (h : ¬ ∀ v ∈ l, valid v) : encRes l = (B [], 1) := if_neg h
/-! ### TupleEncodes -/
/-! ### TupleSpans -/
/-! ### TupleJoins -/
/-! ### TupleRound -/
theorem ok_of {l : List V} (hs : Small l) (hv : ∀ v ∈ l, valid v) : Ok l := fun v h => ⟨hv v h, (hs.2 v h).1⟩
end Go.Proofs.YtoieckmegdcaeaaDoor.T
end

section
namespace Go.Proofs.YtoieckmegdcaeaaDoor.T
open Go.RowKit Go.Proofs.YtoieckmegdcaeaaDoorW.PrintWords Go.Proofs.YtoieckmegdcaeaaDoorW.PrintLast Go.Proofs.YtoieckmegdcaeaaDoorW.PrintMore
open Go.Proofs.YtoieckmegdcaeaaDoor.G
set_option linter.unusedVariables false
set_option linter.unusedSimpArgs false

/-! ### TupleOnly -/
/-! ### TupleInside -/
/-! ### TupleOrder -/
theorem lt_same : ∀ (c x y : List UInt8), lt (c ++ x) (c ++ y) = lt x y
  | [], _, _ => rfl
  | a :: c, x, y => by
    rw [List.cons_append, List.cons_append, lt_cons, if_neg (by omega), if_neg (by omega), lt_same c]
theorem lt_head {a b : UInt8} (h : a.toNat < b.toNat) (x y : List UInt8) : lt (a :: x) (b :: y) = true := by rw [lt_cons, if_pos h]
/-- of the same length: as the numbers. -/
theorem lt_be : ∀ (l m : List UInt8), l.length = m.length → beVal l < beVal m → ∀ x y, lt (l ++ x) (m ++ y) = true
  | [], [], _, h, _, _ => absurd h (by simp [beVal])
  | [], _ :: _, h, _, _, _ => by simp at h
  | _ :: _, [], h, _, _, _ => by simp at h
  | c :: l, d :: m, hl, h, x, y => by
    have hl' : l.length = m.length := by simpa using hl
    rw [beVal_cons, beVal_cons, hl'] at h
    have h1 := beVal_lt l
    have h2 := beVal_lt m
    rw [hl'] at h1
    rw [List.cons_append, List.cons_append, lt_cons]
    by_cases q : c.toNat < d.toNat
    · rw [if_pos q]
    · by_cases q2 : d.toNat < c.toNat
      · exfalso
        have : (d.toNat + 1) * 256 ^ m.length ≤ c.toNat * 256 ^ m.length := Nat.mul_le_mul_right _ q2
        rw [Nat.add_mul, Nat.one_mul] at this
        omega
      · have e : c.toNat = d.toNat := by omega
        rw [if_neg q, if_neg q2]
        rw [e] at h
        exact lt_be l m hl' (by omega) x y
theorem lt_esc : ∀ (s t x y : List UInt8), lt s t = true → ¬ startsFF x → lt (esc s ++ 0 :: x) (esc t ++ 0 :: y) = true
  | _, [], _, _, h, _ => by rw [lt_nil] at h; exact absurd h (by decide)
  | [], d :: t, x, y, _, hx => by
    rw [esc, List.nil_append, esc]
    by_cases hd : d = 0
    · rw [if_pos hd, List.cons_append, List.cons_append, lt_cons, if_neg (by decide), if_neg (by decide)]
      cases x with
      | nil => rfl
      | cons c x =>
        refine lt_head ?_ _ _
        have hc := c.toNat_lt
        have : c.toNat ≠ 255 := fun he => hx (UInt8.toNat_inj.1 he)
        have e : (255 : UInt8).toNat = 255 := rfl
        omega
    · rw [if_neg hd, List.cons_append]
      refine lt_head ?_ _ _
      have : d.toNat ≠ 0 := fun he => hd (UInt8.toNat_inj.1 he)
      have e : (0 : UInt8).toNat = 0 := rfl
      omega
  | c :: s, d :: t, x, y, h, hx => by
    rw [lt_cons] at h
    have e0 : (0 : UInt8).toNat = 0 := rfl
    by_cases q : c.toNat < d.toNat
    · have hd : d ≠ 0 := by rintro rfl; omega
      rw [esc, esc, if_neg hd]
      by_cases hc : c = 0
      · rw [if_pos hc, List.cons_append, List.cons_append]
        exact lt_head (by omega) _ _
      · rw [if_neg hc, List.cons_append, List.cons_append]
        exact lt_head q _ _
    · rw [if_neg q] at h
      by_cases q2 : d.toNat < c.toNat
      · rw [if_pos q2] at h; exact absurd h (by decide)
      · rw [if_neg q2] at h
        obtain rfl : c = d := UInt8.toNat_inj.1 (by omega)
        have ih := lt_esc s t x y h hx
        rw [esc, esc]
        by_cases hc : c = 0
        · rw [if_pos hc, if_pos hc]
          exact (lt_same [0, 255] _ _).trans ih
        · rw [if_neg hc, if_neg hc]
          exact (lt_same [c] _ _).trans ih
theorem digs_mono {m n : Nat} (h : m < n) : (digs m).length ≤ (digs n).length := by
  refine digs_length m _ ?_
  have := beVal_lt (digs n)
  rw [beVal_digs] at this
  omega
theorem lt_int (u v : Int) (hu : -9223372036854775808 ≤ u ∧ u ≤ 9223372036854775807) (hv : -9223372036854775808 ≤ v ∧ v ≤ 9223372036854775807) (h : u < v) (x y : List UInt8) : lt (intCode u ++ x) (intCode v ++ y) = true := by
  have h8u := digs8 (m := u.natAbs) (by omega)
  have h8v := digs8 (m := v.natAbs) (by omega)
  have o : ∀ n : Nat, n < 256 → (UInt8.ofNat n).toNat = n := fun n hn => by rw [UInt8.toNat_ofNat', Nat.mod_eq_of_lt (by exact hn)]
  unfold intCode
  by_cases u0 : u < 0
  · have hne := digs_ne (m := u.natAbs) (by omega)
    rw [if_pos u0, List.cons_append]
    by_cases v0 : v < 0
    · rw [if_pos v0, List.cons_append]
      have hm := digs_mono (m := v.natAbs) (n := u.natAbs) (by omega)
      by_cases q : (digs v.natAbs).length < (digs u.natAbs).length
      · refine lt_head ?_ _ _
        rw [o _ (by omega), o _ (by omega)]
        omega
      · have e : (digs v.natAbs).length = (digs u.natAbs).length := by omega
        have f1 := beVal_flip (digs u.natAbs)
        have f2 := beVal_flip (digs v.natAbs)
        rw [beVal_digs] at f1 f2
        rw [e] at f2
        rw [e]
        refine (lt_same [UInt8.ofNat (24 - (digs u.natAbs).length)] _ _).trans ?_
        exact lt_be _ _ (by rw [flip_length, flip_length, e]) (by omega) x y
    · rw [if_neg v0, List.cons_append]
      refine lt_head ?_ _ _
      rw [o _ (by omega), o _ (by omega)]
      omega
  · have v0 : ¬ v < 0 := by omega
    rw [if_neg u0, if_neg v0, List.cons_append, List.cons_append]
    have hm := digs_mono (m := u.natAbs) (n := v.natAbs) (by omega)
    by_cases q : (digs u.natAbs).length < (digs v.natAbs).length
    · refine lt_head ?_ _ _
      rw [o _ (by omega), o _ (by omega)]
      omega
    · have e : (digs u.natAbs).length = (digs v.natAbs).length := by omega
      rw [e]
      refine (lt_same [UInt8.ofNat (24 + (digs v.natAbs).length)] _ _).trans ?_
      exact lt_be _ _ e (by rw [beVal_digs, beVal_digs]; omega) x y
/-- the head of a value's code tells its kind. -/
def headK (k : Int) : Nat × Nat := if k = 0 then (1, 1) else if k = 1 then (2, 3) else if k = 2 then (16, 32) else (48, 48)
theorem code_head (v : V) (hv : valid v) (hr : inRange v) : ∃ c r, code v = c :: r ∧ (headK v.kind).1 ≤ c.toNat ∧ c.toNat ≤ (headK v.kind).2 := by
  rcases valid_cases hv with e | e | e | e
  · rw [e]; exact ⟨1, [], rfl, by decide, by decide⟩
  · rw [e]
    cases v.flag
    · exact ⟨2, [], rfl, by simp [headK], by simp [headK]⟩
    · exact ⟨3, [], rfl, by simp [headK], by simp [headK]⟩
  · have h8 := digs8 (m := v.int.natAbs) (by have := hr.1; have := hr.2; omega)
    obtain ⟨c, r, h1, h2⟩ := intCode_cons v.int
    have hk : v.kind = 2 := by rw [e]
    refine ⟨c, r, ?_, ?_⟩
    · rw [e]
      show intCode v.int = _
      exact h1
    · rw [h2, UInt8.toNat_ofNat', hk]
      show 16 ≤ _ ∧ _ ≤ 32
      split <;> omega
  · rw [e]
    exact ⟨48, _, rfl, by simp [headK], by simp [headK]⟩
theorem kind_cases {v : V} (hv : valid v) : v.kind = 0 ∨ v.kind = 1 ∨ v.kind = 2 ∨ v.kind = 3 := by
  rcases valid_cases hv with e | e | e | e <;> rw [e] <;> simp
theorem lt_code (u v : V) (hu : valid u) (hv : valid v) (ru : inRange u) (rv : inRange v) (h : bef (ofV u) (ofV v) = true) (x y : List UInt8) (hx : ¬ startsFF x) : lt (code u ++ x) (code v ++ y) = true := by
  have hb : bef (ofV u) (ofV v) = if u.kind = v.kind then (if (u.flag != v.flag) = true then v.flag else (if u.int = v.int then Op.bytesLess u.text v.text else decide (u.int < v.int))) else decide (u.kind < v.kind) := by
    unfold bef
    show (if u.kind = v.kind then (if (u.flag != v.flag) = true then v.flag else (if u.int = v.int then Op.bytesLess (B u.text).toList (B v.text).toList else decide (u.int < v.int))) else decide (u.kind < v.kind)) = _
    rw [B_toList, B_toList]
  rw [hb] at h
  by_cases hk : u.kind = v.kind
  · rw [if_pos hk] at h
    rcases valid_cases hu with e | e | e | e
    · rcases valid_cases hv with e' | e' | e' | e'
      · rw [e, e'] at h; exact absurd h (by decide)
      · rw [e, e'] at hk; exact absurd hk (by simp)
      · rw [e, e'] at hk; exact absurd hk (by simp)
      · rw [e, e'] at hk; exact absurd hk (by simp)
    · rcases valid_cases hv with e' | e' | e' | e'
      · rw [e, e'] at hk; exact absurd hk (by simp)
      · rw [e, e'] at h ⊢
        revert h
        cases u.flag <;> cases v.flag
        · intro h; exact absurd h (by decide)
        · intro _; exact lt_head (by decide) _ _
        · intro h; exact absurd h (by decide)
        · intro h; exact absurd h (by decide)
      · rw [e, e'] at hk; exact absurd hk (by simp)
      · rw [e, e'] at hk; exact absurd hk (by simp)
    · rcases valid_cases hv with e' | e' | e' | e'
      · rw [e, e'] at hk; exact absurd hk (by simp)
      · rw [e, e'] at hk; exact absurd hk (by simp)
      · have hf : ¬ (u.flag != v.flag) = true := by rw [e, e']; simp
        have ht1 : u.text = [] := by rw [e]
        have ht2 : v.text = [] := by rw [e']
        rw [if_neg hf, ht1, ht2] at h
        have hlt : u.int < v.int := by
          by_cases q : u.int = v.int
          · rw [if_pos q] at h; exact absurd h (by decide)
          · rw [if_neg q] at h; exact of_decide_eq_true h
        rw [e, e']
        exact lt_int u.int v.int ru rv hlt x y
      · rw [e, e'] at hk; exact absurd hk (by simp)
    · rcases valid_cases hv with e' | e' | e' | e'
      · rw [e, e'] at hk; exact absurd hk (by simp)
      · rw [e, e'] at hk; exact absurd hk (by simp)
      · rw [e, e'] at hk; exact absurd hk (by simp)
      · have hf : ¬ (u.flag != v.flag) = true := by rw [e, e']; simp
        have hi : u.int = v.int := by rw [e, e']
        rw [if_neg hf, if_pos hi] at h
        have := lt_esc u.text v.text x y h hx
        rw [e, e']
        have c1 : ∀ (t z : List UInt8), code ⟨3, false, 0, t⟩ ++ z = [48] ++ (esc t ++ 0 :: z) := by
          intro t z
          show (48 :: esc t ++ [0]) ++ z = _
          simp
        rw [c1, c1, lt_same]
        exact this
  · rw [if_neg hk] at h
    have hlt := of_decide_eq_true h
    obtain ⟨c, r, h1, h2, h3⟩ := code_head u hu ru
    obtain ⟨d, s, g1, g2, g3⟩ := code_head v hv rv
    rw [h1, g1, List.cons_append, List.cons_append]
    refine lt_head ?_ _ _
    have ku := kind_cases hu
    have kv := kind_cases hv
    have : (headK u.kind).2 < (headK v.kind).1 := by
      rcases ku with a | a | a | a <;> rcases kv with b | b | b | b <;> rw [a, b] at hlt ⊢ <;> first | exact absurd hlt (by decide) | decide
    omega
theorem cmpS_eq {u v : V} (h : cmpS (ofV u) (ofV v) = 0) : u = v := by
  have h1 := cmpS_vals (ofV u) (ofV v)
  have n1 : ¬ bef (ofV u) (ofV v) = true := fun hb => by have := h1.1.2 hb; rw [h] at this; exact absurd this (by decide)
  have n2 : ¬ bef (ofV v) (ofV u) = true := fun hb => by have := h1.2.2 hb; rw [h] at this; exact absurd this (by decide)
  have hb : ∀ a b : V, bef (ofV a) (ofV b) = if a.kind = b.kind then (if (a.flag != b.flag) = true then b.flag else (if a.int = b.int then Op.bytesLess a.text b.text else decide (a.int < b.int))) else decide (a.kind < b.kind) := by
    intro a b
    show (if a.kind = b.kind then (if (a.flag != b.flag) = true then b.flag else (if a.int = b.int then Op.bytesLess (B a.text).toList (B b.text).toList else decide (a.int < b.int))) else decide (a.kind < b.kind)) = _
    rw [B_toList, B_toList]
  rw [hb] at n1 n2
  obtain ⟨k, f, i, t⟩ := u
  obtain ⟨k', f', i', t'⟩ := v
  simp only at n1 n2
  by_cases ek : k = k'
  · subst ek
    rw [if_pos rfl] at n1 n2
    by_cases ef : f = f'
    · subst ef
      rw [if_neg (by simp)] at n1 n2
      by_cases ei : i = i'
      · subst ei
        rw [if_pos rfl] at n1 n2
        rw [lt_eq t t' (by simpa using n1) (by simpa using n2)]
      · rw [if_neg ei] at n1
        rw [if_neg (fun h => ei h.symm)] at n2
        have a1 : ¬ i < i' := fun h => n1 (decide_eq_true h)
        have a2 : ¬ i' < i := fun h => n2 (decide_eq_true h)
        omega
    · exfalso
      cases f <;> cases f' <;> simp_all
  · rw [if_neg ek] at n1
    rw [if_neg (fun h => ek h.symm)] at n2
    have a1 : ¬ k < k' := fun h => n1 (decide_eq_true h)
    have a2 : ¬ k' < k := fun h => n2 (decide_eq_true h)
    omega
/-- bytes sort as Compare says. -/
theorem order : ∀ (a b : List V), Ok a → Ok b → (cmpL (a.map ofV) (b.map ofV) = -1 → lt (enc a) (enc b) = true) ∧ (cmpL (a.map ofV) (b.map ofV) = 1 → lt (enc b) (enc a) = true) ∧ (cmpL (a.map ofV) (b.map ofV) = 0 → a = b) ∧
    (cmpL (a.map ofV) (b.map ofV) = -1 ∨ cmpL (a.map ofV) (b.map ofV) = 0 ∨ cmpL (a.map ofV) (b.map ofV) = 1)
  | [], [], _, _ => ⟨fun h => absurd (show (0 : Int) = -1 from h) (by decide), fun h => absurd (show (0 : Int) = 1 from h) (by decide), fun _ => rfl, .inr (.inl rfl)⟩
  | [], v :: b, _, hb => by
    have hne : lt [] (enc (v :: b)) = true := (nil_lt _).2 (by rw [enc_cons]; intro h; exact code_ne v (List.append_eq_nil_iff.1 h).1)
    exact ⟨fun _ => hne, fun h => absurd (show (-1 : Int) = 1 from h) (by decide), fun h => absurd (show (-1 : Int) = 0 from h) (by decide), .inl rfl⟩
  | u :: a, [], ha, _ => by
    have hne : lt [] (enc (u :: a)) = true := (nil_lt _).2 (by rw [enc_cons]; intro h; exact code_ne u (List.append_eq_nil_iff.1 h).1)
    exact ⟨fun h => absurd (show (1 : Int) = -1 from h) (by decide), fun _ => hne, fun h => absurd (show (1 : Int) = 0 from h) (by decide), .inr (.inr rfl)⟩
  | u :: a, v :: b, ha, hb => by
    obtain ⟨hu, ru, ha'⟩ := ha.cons
    obtain ⟨hv, rv, hb'⟩ := hb.cons
    have hvals := cmpS_vals (ofV u) (ofV v)
    have e : cmpL ((u :: a).map ofV) ((v :: b).map ofV) = if cmpS (ofV u) (ofV v) ≠ 0 then cmpS (ofV u) (ofV v) else cmpL (a.map ofV) (b.map ofV) := by
      rw [List.map_cons, List.map_cons, cmpL]
      by_cases q : cmpS (ofV u) (ofV v) = 0
      · rw [if_pos q, if_neg (fun h => h q)]
      · rw [if_neg q, if_pos q]
    rw [e]
    rcases cmpS_three (ofV u) (ofV v) with h | h | h
    · rw [h, if_pos (by decide)]
      refine ⟨fun _ => ?_, fun h => absurd h (by decide), fun h => absurd h (by decide), .inl rfl⟩
      rw [enc_cons, enc_cons]
      exact lt_code u v hu hv ru rv (hvals.1.1 h) _ _ (enc_start a ha')
    · rw [h, if_neg (by decide)]
      obtain rfl := cmpS_eq h
      obtain ⟨i1, i2, i3, i4⟩ := order a b ha' hb'
      refine ⟨fun h => ?_, fun h => ?_, fun h => by rw [i3 h], i4⟩
      · rw [enc_cons, enc_cons, lt_same]; exact i1 h
      · rw [enc_cons, enc_cons, lt_same]; exact i2 h
    · rw [h, if_pos (by decide)]
      refine ⟨fun h => absurd h (by decide), fun _ => ?_, fun h => absurd h (by decide), .inr (.inr rfl)⟩
      rw [enc_cons, enc_cons]
      exact lt_code v u hv hu rv ru (hvals.2.1 h) _ _ (enc_start b hb')
theorem law_order (a b : List V) (ha : Small a) (hb : Small b) : ∃ k, tidemarklaw25_TupleOrder.f k (a.map ofV) (b.map ofV) = some true := by
  refine Ev.rounds (g := fun k => tidemarklaw25_TupleOrder.f k (a.map ofV) (b.map ofV)) ?_
  unfold tidemarklaw25_TupleOrder.f
  have hla := ha.1
  have hlb := hb.1
  have hc0 : Ev (fun k => tuple_Compare.f k (([(⟨0, false, 0, (⟨#[]⟩ : ByteArray)⟩ : S36)] : List (S36))) ([] : List (S36))) 1 := compareL_ev _ [] (by simp) (by simp)
  refine Ev.bind (own_any a hla) (Ev.bind (tencode_ev a ha) (Ev.bind (own_any b hlb) (Ev.bind (tencode_ev b hb) (Ev.bind hc0 ?_))))
  refine Ev.congr (fun k => by rw [if_pos rfl]) (Ev.bind (rvalid_ev a hla) ?_)
  have bad : ((¬ ∀ v ∈ a, valid v) ∨ (¬ ∀ v ∈ b, valid v)) → Ev (fun k => tidemarklaw25_TupleOrder.j0 k (encRes a).1 (encRes a).2 (encRes b).1 (encRes b).2 true (a.map ofV) (b.map ofV)) true := by
    intro h
    refine Ev.step (f := fun _ => some true) (fun k => ?_) (Ev.now _)
    rw [tidemarklaw25_TupleOrder.j0, if_pos rfl]
    by_cases va : ∀ v ∈ a, valid v
    · have vb : ¬ ∀ v ∈ b, valid v := h.resolve_left (fun h => h va)
      rw [encRes_pos va, encRes_neg vb, if_neg (show ¬ (0 : Int) = 1 by decide)]
      rfl
    · rw [encRes_neg va, if_pos rfl]
  by_cases va : ∀ v ∈ a, valid v
  · rw [if_pos va]
    refine Ev.congr (fun k => by rw [if_pos rfl]) (Ev.bind (rvalid_ev b hlb) ?_)
    by_cases vb : ∀ v ∈ b, valid v
    · rw [if_pos vb, encRes_pos va, encRes_pos vb]
      have oa := ok_of ha va
      have ob := ok_of hb vb
      have hcmp := compareL_ev (a.map ofV) (b.map ofV) (by rw [List.length_map]; omega) (by rw [List.length_map]; omega)
      have hsame := same_any a b (by omega)
      refine Ev.step (fun k => by rw [tidemarklaw25_TupleOrder.j0, if_neg (show ¬ (((0 : Int) != 0) = true) by decide), if_pos rfl]) ?_
      refine Ev.step (fun k => by rw [tidemarklaw25_TupleOrder.j1, if_neg (show ¬ (((0 : Int) != 0) = true) by decide)]) (Ev.bind (own_any a hla) (Ev.bind (own_any b hlb) (Ev.bind hcmp ?_)))
      obtain ⟨o1, o2, o3, o4⟩ := order a b oa ob
      generalize cmpL (a.map ofV) (b.map ofV) = c at o1 o2 o3 o4
      simp only [B_toList]
      have irr : ∀ z : List UInt8, Op.bytesLess z z = false := bytesLess_irrefl
      rcases o4 with rfl | rfl | rfl
      · have h1 := o1 rfl
        have h2 := lt_asymm _ _ h1
        have hne : enc a ≠ enc b := fun he => by rw [he] at h1; rw [show lt (enc b) (enc b) = false from irr _] at h1; exact absurd h1 (by decide)
        have hab : a ≠ b := fun he => hne (by rw [he])
        have e1 : Op.bytesLess (enc a) (enc b) = true := h1
        have e2 : Op.bytesLess (enc b) (enc a) = false := h2
        have e3 : (enc a == enc b) = false := beq_eq_false_iff_ne.2 hne
        rw [decide_eq_false hab] at hsame
        rw [e1, e2, e3]
        exact Ev.congr (fun k => by rw [if_pos (by decide), if_pos (by decide), if_pos (by decide)]) (Ev.bind hsame (Ev.now _))
      · obtain rfl := o3 rfl
        have e3 : (enc a == enc a) = true := beq_self_eq_true _
        rw [decide_eq_true rfl] at hsame
        rw [irr, e3]
        exact Ev.congr (fun k => by rw [if_pos (by decide), if_pos (by decide), if_pos (by decide)]) (Ev.bind (f := fun _ t275 => some (true == t275)) hsame (Ev.now _))
      · have h1 := o2 rfl
        have h2 := lt_asymm _ _ h1
        have hne : enc a ≠ enc b := fun he => by rw [he] at h1; rw [show lt (enc b) (enc b) = false from irr _] at h1; exact absurd h1 (by decide)
        have hab : a ≠ b := fun he => hne (by rw [he])
        have e1 : Op.bytesLess (enc b) (enc a) = true := h1
        have e2 : Op.bytesLess (enc a) (enc b) = false := h2
        have e3 : (enc a == enc b) = false := beq_eq_false_iff_ne.2 hne
        rw [decide_eq_false hab] at hsame
        rw [e1, e2, e3]
        exact Ev.congr (fun k => by rw [if_pos (by decide), if_pos (by decide), if_pos (by decide)]) (Ev.bind hsame (Ev.now _))
    · rw [if_neg vb]
      exact bad (.inr vb)
  · rw [if_neg va]
    exact Ev.congr (fun k => by rw [if_neg (by decide)]) (bad (.inl va))
end Go.Proofs.YtoieckmegdcaeaaDoor.T
end

section
namespace Go.Proofs.YtoieckmegdcaeaaDoor.Y
open Go.RowKit Go.Proofs.YtoieckmegdcaeaaDoorW.PrintWords
open Go.Proofs.YtoieckmegdcaeaaDoor.G Go.Proofs.YtoieckmegdcaeaaDoor.T
set_option linter.unusedVariables false
theorem c36 : Tryd.prog.cellsOf 36 = 4 := by kernel_rfl
theorem c34 : Tryd.prog.cellsOf 34 = 1 := by kernel_rfl
theorem c4 : Tryd.prog.cellsOf 4 = 1 := by kernel_rfl
theorem c2 : Tryd.prog.cellsOf 2 = 1 := by kernel_rfl
theorem c9 : Tryd.prog.cellsOf 9 = 1 := by kernel_rfl
theorem c22 : Tryd.prog.cellsOf 22 = 1 := by kernel_rfl
def rho36 (x : S36) : Prop := (Lit.int .i64 x.f2).wf = true
def mu36 (x : S36) : Nat := x.f3.size + 5
theorem opens36 : ∃ (ρ : S36 → Prop) (μ : S36 → Nat) (σ : S36 → Prop), Opens Tryd.prog 36 k36 ρ μ σ ∧ (∀ x, ρ x → rho36 x) ∧ (∀ x, mu36 x ≤ μ x) :=
  ⟨_, _, _, opens_iso (fun x : S36 => (x.f0, x.f1, x.f2, x.f3)) (fun a => (⟨a.1, a.2.1, a.2.2.1, a.2.2.2⟩ : S36)) (fun _ => rfl)
    (opens_struct Tryd.underlying36 rfl c36 (opensF_cons rfl c34 (opens_int Tryd.underlying34) (opensF_cons rfl c4 (opens_bool Tryd.underlying4) (opensF_cons rfl c2 (opens_int Tryd.underlying2) (opensF_one rfl c9 (opens_string Tryd.underlying9)))))),
    fun x h => h.2.2.1, fun x => by show x.f3.size + 5 ≤ 1 + (1 + (1 + (x.f3.size + 1))) + 1; omega⟩
/-- a list of values that came in: what each holds, what it weighs. -/
def rhoL (l : List S36) : Prop := ∀ x ∈ l, rho36 x
def muL (l : List S36) : Nat := (l.map mu36).sum
theorem opens22 : ∃ (ρ : List S36 → Prop) (μ : List S36 → Nat) (σ : List S36 → Prop), Opens Tryd.prog 22 (Kd.slice 36 k36) ρ μ σ ∧ (∀ x, ρ x → rhoL x) ∧ (∀ x, muL x ≤ μ x) := by
  obtain ⟨ρ, μ, σ, h, h1, h2⟩ := opens36
  refine ⟨_, _, _, opens_slice Tryd.underlying22 c36 h, fun l hl x hx => h1 x (hl.1 x hx), fun l => ?_⟩
  show muL l ≤ (l.map μ).sum + 1
  have : ∀ q : List S36, (q.map mu36).sum ≤ (q.map μ).sum := by
    intro q
    induction q with
    | nil => exact Nat.le_refl _
    | cons x q ih => have := h2 x; simp only [List.map_cons, List.sum_cons]; omega
  have := this l
  unfold muL
  omega
theorem muL_len (l : List S36) : 5 * l.length ≤ muL l := by
  unfold muL
  induction l with
  | nil => simp
  | cons x l ih => simp only [List.map_cons, List.sum_cons, List.length_cons]; unfold mu36 at *; omega
theorem muL_mem {l : List S36} {x : S36} (h : x ∈ l) : x.f3.size + 5 ≤ muL l := by
  unfold muL
  induction l with
  | nil => simp at h
  | cons y l ih =>
    simp only [List.map_cons, List.sum_cons]
    rcases List.mem_cons.1 h with rfl | h
    · unfold mu36; omega
    · have := ih h; omega
theorem muL_append (a b : List S36) : muL (a ++ b) = muL a + muL b := by unfold muL; rw [List.map_append, List.sum_append]
theorem wf_range {n : Int} (h : (Lit.int .i64 n).wf = true) : -9223372036854775808 ≤ n ∧ n ≤ 9223372036854775807 := by
  simp [Lit.wf, IntKind.min, IntKind.max, IntKind.signed, IntKind.bits] at h
  omega
theorem back (l : List S36) : (l.map toV).map ofV = l := by
  rw [List.map_map]
  conv => rhs; rw [← List.map_id l]
  apply List.map_congr_left
  intro s _
  exact ofV_toV s
theorem small_of {l : List S36} (hr : rhoL l) (hm : muL l ≤ 1048576) : Small (l.map toV) := by
  have h1 := muL_len l
  refine ⟨by rw [List.length_map]; omega, fun v hv => ?_⟩
  obtain ⟨s, hs, rfl⟩ := List.mem_map.1 hv
  have h2 := muL_mem hs
  refine ⟨wf_range (hr s hs), ?_⟩
  show s.f3.data.toList.length ≤ _
  rw [Array.length_toList]
  show s.f3.size ≤ _
  omega
theorem enc_of {l : List S36} (hr : rhoL l) : (enc (l.map toV)).length ≤ 2 * muL l := by
  induction l with
  | nil => simp [enc]
  | cons x l ih =>
    have h1 := code_length (toV x) (wf_range (hr x (by simp)))
    have h2 := ih (fun y hy => hr y (by simp [hy]))
    have e : (toV x).text.length = x.f3.size := by show x.f3.data.toList.length = _; rw [Array.length_toList]; rfl
    rw [List.map_cons, enc_cons, List.length_append]
    have e2 : muL (x :: l) = (x.f3.size + 5) + muL l := by unfold muL mu36; simp
    omega
/-- the library's variable MaxLen holds some number: by the world's shape. -/
theorem tb_of {W : World} (h : W.ShapedOpen Tryd.prog) : Tb W :=
  cell_of_shapedOpen_int (t := 3) (zero := #[.int .i64 0]) h (by decide +kernel) (by kernel_rfl) rfl (by kernel_rfl) (by kernel_rfl) Tryd.underlying3
end Go.Proofs.YtoieckmegdcaeaaDoor.Y
end
