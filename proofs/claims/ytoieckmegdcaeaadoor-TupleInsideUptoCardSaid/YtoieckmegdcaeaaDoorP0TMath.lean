-- Packed by a program of this session (pack.py) from texts of this claim.

section
/-
  Tuples as bytes, in plain Lean: codes, what is read of them, and that the two fit. No program here.
-/
namespace Go.Proofs.YtoieckmegdcaeaaDoor.T

structure V where
  kind : Int
  flag : Bool
  int : Int
  text : List UInt8
deriving DecidableEq

/-- The value with just the field that its kind names. -/
def named (v : V) : V :=
  if v.kind = 1 then ⟨1, v.flag, 0, []⟩ else if v.kind = 2 then ⟨2, false, v.int, []⟩ else if v.kind = 3 then ⟨3, false, 0, v.text⟩ else ⟨0, false, 0, []⟩
def valid (v : V) : Prop := v = named v
instance (v : V) : Decidable (valid v) := inferInstanceAs (Decidable (v = named v))
def inRange (v : V) : Prop := -9223372036854775808 ≤ v.int ∧ v.int ≤ 9223372036854775807
theorem valid_cases {v : V} (h : valid v) : v = ⟨0, false, 0, []⟩ ∨ v = ⟨1, v.flag, 0, []⟩ ∨ v = ⟨2, false, v.int, []⟩ ∨ v = ⟨3, false, 0, v.text⟩ := by
  unfold valid named at h
  split at h
  · exact .inr (.inl h)
  · split at h
    · exact .inr (.inr (.inl h))
    · split at h
      · exact .inr (.inr (.inr h))
      · exact .inl h

theorem same_test (a b : V) : ((!(a.kind == b.kind) || (!(a.flag == b.flag) || (!(a.int == b.int) || !(a.text == b.text)))) = true) ↔ a ≠ b := by
  obtain ⟨k, f, i, t⟩ := a
  obtain ⟨k', f', i', t'⟩ := b
  simp only [ne_eq, V.mk.injEq]
  by_cases h1 : k = k' <;> by_cases h2 : f = f' <;> by_cases h3 : i = i' <;> by_cases h4 : t = t' <;> simp [h1, h2, h3, h4]
theorem take_snocV {α : Type} {l : List α} {i : Nat} {c : α} {r : List α} (h : l.drop i = c :: r) : l.take (i + 1) = l.take i ++ [c] := by
  have h0 : l[i]? = some c := by
    have := congrArg (fun q : List α => q[0]?) h
    simpa using this
  rw [List.take_add_one, h0]; rfl
/-! ### texts -/
def esc : List UInt8 → List UInt8
  | [] => []
  | c :: r => if c = 0 then 0 :: 255 :: esc r else c :: esc r
/-- The text and what is left behind its end. -/
def untext : List UInt8 → Option (List UInt8 × List UInt8)
  | [] => none
  | c :: r => if c = 0 then (match r with
      | [] => some ([], [])
      | d :: r' => if d = 255 then (untext r').map (fun p => (0 :: p.1, p.2)) else some ([], d :: r'))
    else (untext r).map (fun p => (c :: p.1, p.2))
def startsFF : List UInt8 → Prop
  | [] => False
  | c :: _ => c = 255
theorem untext_esc : ∀ (t rest : List UInt8), ¬ startsFF rest → untext (esc t ++ 0 :: rest) = some (t, rest)
  | [], rest, h => by
    cases rest with
    | nil => simp [esc, untext]
    | cons d r => simp only [startsFF] at h; simp [esc, untext, h]
  | c :: t, rest, h => by
    have ih := untext_esc t rest h
    by_cases hc : c = 0
    · subst hc; simp [esc, untext, ih]
    · rw [esc, if_neg hc, List.cons_append, untext.eq_def]; simp only; rw [if_neg hc, ih]; rfl
theorem untext_inv : ∀ (b t rest : List UInt8), untext b = some (t, rest) → b = esc t ++ 0 :: rest ∧ ¬ startsFF rest
  | [], t, rest, h => by simp [untext] at h
  | [c], t, rest, h => by
    by_cases hc : c = 0
    · subst hc
      simp [untext] at h
      obtain ⟨rfl, rfl⟩ := h
      exact ⟨rfl, by simp [startsFF]⟩
    · simp [untext, hc] at h
  | c :: d :: r, t, rest, h => by
    by_cases hc : c = 0
    · subst hc
      by_cases hd : d = 255
      · subst hd
        simp only [untext, if_true, Option.map_eq_some_iff, Prod.mk.injEq] at h
        obtain ⟨⟨t', r'⟩, h1, rfl, rfl⟩ := h
        have ih := untext_inv r t' r' h1
        exact ⟨by simp [esc, ← ih.1], ih.2⟩
      · simp only [untext, if_true, hd, if_false, Option.some.injEq, Prod.mk.injEq] at h
        obtain ⟨rfl, rfl⟩ := h
        exact ⟨by simp [esc], by simpa [startsFF] using hd⟩
    · rw [untext, if_neg hc, Option.map_eq_some_iff] at h
      obtain ⟨⟨t', r'⟩, h1, h2⟩ := h
      simp only [Prod.mk.injEq] at h2
      obtain ⟨rfl, rfl⟩ := h2
      have ih := untext_inv (d :: r) t' r' h1
      exact ⟨by simp [esc, hc, ← ih.1], ih.2⟩
theorem untext_last : untext [0] = some ([], []) := by simp [untext]
theorem untext_ff (r : List UInt8) : untext (0 :: 255 :: r) = (untext r).map (fun p => (0 :: p.1, p.2)) := by simp [untext]
theorem untext_end {d : UInt8} (r : List UInt8) (h : d ≠ 255) : untext (0 :: d :: r) = some ([], d :: r) := by simp [untext, h]
theorem untext_go {c : UInt8} (r : List UInt8) (h : c ≠ 0) : untext (c :: r) = (untext r).map (fun p => (c :: p.1, p.2)) := by
  rw [untext.eq_def]; simp only; rw [if_neg h]
theorem esc_length : ∀ t : List UInt8, (esc t).length ≤ 2 * t.length
  | [] => by simp [esc]
  | c :: t => by
    have := esc_length t
    by_cases hc : c = 0 <;> simp [esc, hc] <;> omega

/-! ### whole numbers -/
def beVal (l : List UInt8) : Nat := l.foldl (fun m c => m * 256 + c.toNat) 0
theorem beVal_append (l : List UInt8) (c : UInt8) : beVal (l ++ [c]) = beVal l * 256 + c.toNat := by simp [beVal]
theorem beVal_foldl : ∀ (l : List UInt8) (m : Nat), l.foldl (fun m c => m * 256 + c.toNat) m = m * 256 ^ l.length + beVal l
  | [], m => by simp [beVal]
  | c :: l, m => by
    have h1 := beVal_foldl l (m * 256 + c.toNat)
    have h2 := beVal_foldl l (0 * 256 + c.toNat)
    have e : beVal (c :: l) = l.foldl (fun m c => m * 256 + c.toNat) (0 * 256 + c.toNat) := rfl
    rw [List.foldl_cons, h1, e, h2, List.length_cons, Nat.pow_succ, Nat.add_mul, Nat.mul_assoc, Nat.mul_comm 256, Nat.zero_mul, Nat.zero_add]
    omega
theorem beVal_cons (c : UInt8) (l : List UInt8) : beVal (c :: l) = c.toNat * 256 ^ l.length + beVal l := by
  have := beVal_foldl l (0 * 256 + c.toNat)
  simpa [beVal] using this
theorem beVal_lt : ∀ l : List UInt8, beVal l < 256 ^ l.length
  | [] => by simp [beVal]
  | c :: l => by
    have h := beVal_lt l
    have hc := c.toNat_lt
    rw [beVal_cons, List.length_cons, Nat.pow_succ]
    have : c.toNat * 256 ^ l.length + 256 ^ l.length ≤ 256 ^ l.length * 256 := by
      have e : c.toNat * 256 ^ l.length + 256 ^ l.length = (c.toNat + 1) * 256 ^ l.length := by rw [Nat.add_mul, Nat.one_mul]
      rw [e, Nat.mul_comm (256 ^ l.length)]
      exact Nat.mul_le_mul_right _ (by omega)
    omega
/-- The least digits, the highest first. -/
def digs (m : Nat) : List UInt8 := if _h : m = 0 then [] else digs (m / 256) ++ [UInt8.ofNat (m % 256)]
termination_by m
decreasing_by omega
theorem digs_zero : digs 0 = [] := by rw [digs]; simp
theorem digs_pos {m : Nat} (h : m ≠ 0) : digs m = digs (m / 256) ++ [UInt8.ofNat (m % 256)] := by rw [digs]; simp [h]
theorem beVal_digs (m : Nat) : beVal (digs m) = m := by
  induction m using Nat.strongRecOn with
  | _ m ih =>
    by_cases h : m = 0
    · subst h; rw [digs_zero]; rfl
    · rw [digs_pos h, beVal_append, ih (m / 256) (by omega)]
      have : (UInt8.ofNat (m % 256)).toNat = m % 256 := by simp
      omega
theorem digs_head (m : Nat) : (digs m).head? ≠ some 0 := by
  induction m using Nat.strongRecOn with
  | _ m ih =>
    by_cases h : m = 0
    · subst h; rw [digs_zero]; simp
    · rw [digs_pos h]
      by_cases h1 : m / 256 = 0
      · rw [h1, digs_zero]
        intro he
        simp only [List.nil_append, List.head?_cons, Option.some.injEq] at he
        have := congrArg UInt8.toNat he
        simp at this
        omega
      · have ih' := ih (m / 256) (by omega)
        have hne : digs (m / 256) ≠ [] := by rw [digs_pos h1]; simp
        intro he
        apply ih'
        cases hd : digs (m / 256) with
        | nil => exact absurd hd hne
        | cons x y => rw [hd] at he; simpa using he
theorem digs_beVal (l : List UInt8) (h : l.head? ≠ some 0) : digs (beVal l) = l := by
  have key : ∀ n (l : List UInt8), l.length = n → l.head? ≠ some 0 → digs (beVal l) = l := by
    intro n
    induction n with
    | zero => intro l hl _; obtain rfl : l = [] := List.length_eq_zero_iff.1 hl; simp [beVal, digs_zero]
    | succ n ih =>
      intro l hl h
      obtain ⟨q, c, rfl⟩ : ∃ q c, l = q ++ [c] := ⟨l.dropLast, l.getLast (by rintro rfl; simp at hl), (List.dropLast_concat_getLast _).symm⟩
      have hc := c.toNat_lt
      rw [beVal_append]
      by_cases hq : q = []
      · subst hq
        simp only [List.nil_append, List.head?_cons] at h
        have hc0 : c.toNat ≠ 0 := fun e => h (by rw [show c = 0 from UInt8.toNat_inj.1 (by rw [e]; rfl)])
        have e0 : beVal [] = 0 := rfl
        rw [e0, digs_pos (by omega), show (0 * 256 + c.toNat) / 256 = 0 by omega, digs_zero, show (0 * 256 + c.toNat) % 256 = c.toNat by omega]
        simp
      · have hh : q.head? ≠ some 0 := by
          cases q with
          | nil => exact absurd rfl hq
          | cons x y => simpa using h
        have ihq := ih q (by simp at hl; exact hl) hh
        have hm : beVal q ≠ 0 := by
          intro e
          rw [e, digs_zero] at ihq
          exact hq ihq.symm
        rw [digs_pos (by omega), show (beVal q * 256 + c.toNat) / 256 = beVal q by omega, ihq, show (beVal q * 256 + c.toNat) % 256 = c.toNat by omega]
        simp
  exact key l.length l rfl h
theorem digs_length (m n : Nat) (h : m < 256 ^ n) : (digs m).length ≤ n := by
  induction n generalizing m with
  | zero => obtain rfl : m = 0 := by simpa using h
            rw [digs_zero]; simp
  | succ n ih =>
    by_cases hm : m = 0
    · subst hm; rw [digs_zero]; simp
    · rw [digs_pos hm]
      have := ih (m / 256) (by rw [Nat.pow_succ] at h; omega)
      simp; exact this
def flip (l : List UInt8) : List UInt8 := l.map fun c => 255 - c
theorem sub255 (c : UInt8) : (255 - c : UInt8).toNat = 255 - c.toNat := by
  have := c.toNat_lt
  rw [UInt8.toNat_sub]
  simp
  omega
theorem flip_flip (l : List UInt8) : flip (flip l) = l := by
  unfold flip
  rw [List.map_map]
  conv => rhs; rw [← List.map_id l]
  apply List.map_congr_left
  intro c _
  have hc := c.toNat_lt
  apply UInt8.toNat_inj.1
  simp only [Function.comp, sub255, id]
  omega
theorem flip_length (l : List UInt8) : (flip l).length = l.length := by simp [flip]

def intCode (v : Int) : List UInt8 :=
  if v < 0 then UInt8.ofNat (24 - (digs v.natAbs).length) :: flip (digs v.natAbs) else UInt8.ofNat (24 + (digs v.natAbs).length) :: digs v.natAbs
def code (v : V) : List UInt8 :=
  if v.kind = 1 then (if v.flag then [3] else [2]) else if v.kind = 2 then intCode v.int else if v.kind = 3 then 48 :: esc v.text ++ [0] else [1]
/-- Of a run of bytes behind a whole number's head: its value. -/
def intOf (c : Nat) (rest : List UInt8) : Option (Int × List UInt8) :=
  let n := if c < 24 then 24 - c else c - 24
  let bs := if c < 24 then flip (rest.take n) else rest.take n
  if rest.length < n then none else if bs.head? = some 0 then none
  else if c < 24 then (if beVal bs ≤ 9223372036854775808 then some (-(beVal bs : Int), rest.drop n) else none)
  else if beVal bs ≤ 9223372036854775807 then some ((beVal bs : Int), rest.drop n) else none
def first : List UInt8 → Option (V × List UInt8)
  | [] => none
  | c :: rest => if c = 1 then some (⟨0, false, 0, []⟩, rest) else if c = 2 ∨ c = 3 then some (⟨1, c == 3, 0, []⟩, rest)
    else if c = 48 then (untext rest).map (fun p => (⟨3, false, 0, p.1⟩, p.2))
    else if c.toNat < 16 ∨ 32 < c.toNat then none else (intOf c.toNat rest).map (fun p => (⟨2, false, p.1, []⟩, p.2))
theorem digs8 {m : Nat} (h : m ≤ 9223372036854775808) : (digs m).length ≤ 8 := digs_length m 8 (by have : (256 : Nat) ^ 8 = 18446744073709551616 := by decide
                                                                                                   omega)
theorem digs_ne {m : Nat} (h : m ≠ 0) : 1 ≤ (digs m).length := by rw [digs_pos h]; simp
/-- What is written is read back. -/
theorem intOf_code (v : Int) (h1 : -9223372036854775808 ≤ v) (h2 : v ≤ 9223372036854775807) (rest : List UInt8) :
    ∃ c r, intCode v ++ rest = c :: r ∧ 16 ≤ c.toNat ∧ c.toNat ≤ 32 ∧ intOf c.toNat r = some (v, rest) := by
  have h8 := digs8 (m := v.natAbs) (by omega)
  unfold intCode
  by_cases hv : v < 0
  · have hn := digs_ne (m := v.natAbs) (by omega)
    have hc : (UInt8.ofNat (24 - (digs v.natAbs).length)).toNat = 24 - (digs v.natAbs).length := by
      rw [UInt8.toNat_ofNat']; omega
    rw [if_pos hv]
    refine ⟨_, flip (digs v.natAbs) ++ rest, rfl, by omega, by omega, ?_⟩
    have hlen := flip_length (digs v.natAbs)
    unfold intOf
    rw [hc]
    have hlt : 24 - (digs v.natAbs).length < 24 := by omega
    simp only [hlt, if_true]
    rw [show 24 - (24 - (digs v.natAbs).length) = (flip (digs v.natAbs)).length by omega, List.take_left, List.drop_left, flip_flip, if_neg (by simp), if_neg (digs_head _), beVal_digs, if_pos (by omega)]
    congr 2
    omega
  · have hc : (UInt8.ofNat (24 + (digs v.natAbs).length)).toNat = 24 + (digs v.natAbs).length := by
      rw [UInt8.toNat_ofNat']; omega
    rw [if_neg hv]
    refine ⟨_, digs v.natAbs ++ rest, rfl, by omega, by omega, ?_⟩
    unfold intOf
    rw [hc]
    have hlt : ¬ 24 + (digs v.natAbs).length < 24 := by omega
    simp only [hlt, if_false]
    rw [show 24 + (digs v.natAbs).length - 24 = (digs v.natAbs).length by omega, List.take_left, List.drop_left, if_neg (by simp), if_neg (digs_head _), beVal_digs, if_pos (by omega)]
    congr 2
    omega
theorem intOf_inv (c : UInt8) (r : List UInt8) (v : Int) (rest : List UInt8) (h16 : 16 ≤ c.toNat) (h32 : c.toNat ≤ 32) (h : intOf c.toNat r = some (v, rest)) :
    c :: r = intCode v ++ rest ∧ -9223372036854775808 ≤ v ∧ v ≤ 9223372036854775807 := by
  unfold intOf at h
  by_cases hc : c.toNat < 24
  · simp only [hc, if_true] at h
    split at h
    · exact absurd h (by simp)
    · rename_i hl
      split at h
      · exact absurd h (by simp)
      · rename_i hh
        split at h
        · rename_i hm
          simp only [Option.some.injEq, Prod.mk.injEq] at h
          obtain ⟨rfl, rfl⟩ := h
          have hlen : (flip (r.take (24 - c.toNat))).length = 24 - c.toNat := by rw [flip_length, List.length_take]; omega
          have hd := digs_beVal _ hh
          have hpos : beVal (flip (r.take (24 - c.toNat))) ≠ 0 := by
            intro e
            rw [e, digs_zero] at hd
            rw [← hd] at hlen
            simp at hlen
            omega
          refine ⟨?_, by omega, by omega⟩
          unfold intCode
          rw [if_pos (by omega)]
          have ena : (-(beVal (flip (r.take (24 - c.toNat))) : Int)).natAbs = beVal (flip (r.take (24 - c.toNat))) := by omega
          rw [ena, hd, hlen, flip_flip]
          have e1 : UInt8.ofNat (24 - (24 - c.toNat)) = c := by
            apply UInt8.toNat_inj.1
            rw [UInt8.toNat_ofNat']; omega
          rw [e1, List.cons_append, List.take_append_drop]
        · exact absurd h (by simp)
  · simp only [hc, if_false] at h
    split at h
    · exact absurd h (by simp)
    · rename_i hl
      split at h
      · exact absurd h (by simp)
      · rename_i hh
        split at h
        · rename_i hm
          simp only [Option.some.injEq, Prod.mk.injEq] at h
          obtain ⟨rfl, rfl⟩ := h
          have hlen : (r.take (c.toNat - 24)).length = c.toNat - 24 := by rw [List.length_take]; omega
          have hd := digs_beVal _ hh
          refine ⟨?_, by omega, by omega⟩
          unfold intCode
          rw [if_neg (by omega)]
          have ena : ((beVal (r.take (c.toNat - 24)) : Nat) : Int).natAbs = beVal (r.take (c.toNat - 24)) := by omega
          rw [ena, hd, hlen]
          have e1 : UInt8.ofNat (24 + (c.toNat - 24)) = c := by
            apply UInt8.toNat_inj.1
            rw [UInt8.toNat_ofNat']; omega
          rw [e1, List.cons_append, List.take_append_drop]
        · exact absurd h (by simp)
theorem u8_ne {c : UInt8} {n : Nat} (d : UInt8) (hd : d.toNat = n) (h : c.toNat ≠ n) : c ≠ d := by rintro rfl; exact h hd
theorem first_int {c : UInt8} {r rest : List UInt8} {v : Int} (h16 : 16 ≤ c.toNat) (h32 : c.toNat ≤ 32) (h : intOf c.toNat r = some (v, rest)) : first (c :: r) = some (⟨2, false, v, []⟩, rest) := by
  have n1 := u8_ne (c := c) (n := 1) 1 rfl (by omega)
  have n2 := u8_ne (c := c) (n := 2) 2 rfl (by omega)
  have n3 := u8_ne (c := c) (n := 3) 3 rfl (by omega)
  have n4 := u8_ne (c := c) (n := 48) 48 rfl (by omega)
  simp only [first, n1, n2, n3, n4, if_false, or_self, h]
  rw [if_neg (by omega)]
  rfl
/-- WHAT IS WRITTEN IS READ BACK. -/
theorem first_code (v : V) (hv : valid v) (hr : inRange v) (rest : List UInt8) (hf : ¬ startsFF rest) : first (code v ++ rest) = some (v, rest) := by
  rcases valid_cases hv with e | e | e | e
  · rw [e]; simp [code, first]
  · rw [e]; cases v.flag <;> simp [code, first]
  · obtain ⟨c, r, h1, h2, h3, h4⟩ := intOf_code v.int hr.1 hr.2 rest
    rw [e]
    rw [show code ⟨2, false, v.int, []⟩ = intCode v.int by simp [code], h1]
    exact first_int h2 h3 h4
  · rw [e]
    rw [show code ⟨3, false, 0, v.text⟩ = 48 :: (esc v.text ++ [0]) by simp [code]]
    simp [first, untext_esc _ _ hf]
/-- WHAT IS READ WAS WRITTEN SO. -/
theorem first_inv (b : List UInt8) (v : V) (rest : List UInt8) (h : first b = some (v, rest)) : b = code v ++ rest ∧ valid v ∧ inRange v := by
  match b, h with
  | [], h => simp [first] at h
  | c :: r, h =>
    by_cases n1 : c = 1
    · simp only [first, n1, if_true, Option.some.injEq, Prod.mk.injEq] at h
      obtain ⟨rfl, rfl⟩ := h
      exact ⟨by simp [code, n1], rfl, by simp [inRange]⟩
    · by_cases n2 : c = 2 ∨ c = 3
      · simp only [first, n1, n2, if_true, if_false, Option.some.injEq, Prod.mk.injEq] at h
        obtain ⟨rfl, rfl⟩ := h
        refine ⟨?_, by simp [valid, named], by simp [inRange]⟩
        rcases n2 with rfl | rfl <;> simp [code]
      · by_cases n4 : c = 48
        · have hfirst : first (c :: r) = (untext r).map (fun p => (⟨3, false, 0, p.1⟩, p.2)) := by simp [first, n4]
          rw [hfirst, Option.map_eq_some_iff] at h
          simp only [Prod.mk.injEq] at h
          obtain ⟨⟨t, q⟩, h1, rfl, rfl⟩ := h
          have hu := untext_inv r t q h1
          refine ⟨?_, by simp [valid, named], by simp [inRange]⟩
          rw [n4, hu.1]
          simp [code]
        · simp only [first, n1, n2, n4, if_false] at h
          split at h
          · exact absurd h (by simp)
          · rename_i hr
            simp only [Option.map_eq_some_iff, Prod.mk.injEq] at h
            obtain ⟨⟨i, q⟩, h1, rfl, rfl⟩ := h
            have hi := intOf_inv c r i q (by omega) (by omega) h1
            refine ⟨?_, by simp [valid, named], hi.2⟩
            rw [hi.1]
            simp [code]
theorem intCode_cons (v : Int) : ∃ c r, intCode v = c :: r ∧ c = UInt8.ofNat (if v < 0 then 24 - (digs v.natAbs).length else 24 + (digs v.natAbs).length) := by
  unfold intCode
  by_cases h : v < 0
  · exact ⟨_, _, by rw [if_pos h], by rw [if_pos h]⟩
  · exact ⟨_, _, by rw [if_neg h], by rw [if_neg h]⟩
theorem code_ne (v : V) : code v ≠ [] := by
  unfold code
  split
  · split <;> simp
  · split
    · obtain ⟨c, r, h, _⟩ := intCode_cons v.int; rw [h]; simp
    · split <;> simp
theorem code_start (v : V) (hr : inRange v) (l : List UInt8) : ¬ startsFF (code v ++ l) := by
  unfold code
  split
  · split <;> simp [startsFF]
  · split
    · obtain ⟨c, r, h, hc⟩ := intCode_cons v.int
      rw [h, hc]
      show ¬ (_ = _)
      intro he
      have := congrArg UInt8.toNat he
      rw [UInt8.toNat_ofNat'] at this
      have h8 := digs8 (m := v.int.natAbs) (by have := hr.1; have := hr.2; omega)
      have e255 : (255 : UInt8).toNat = 255 := rfl
      rw [e255] at this
      split at this <;> omega
    · split <;> simp [startsFF]
theorem code_length (v : V) (hr : inRange v) : (code v).length ≤ 2 * v.text.length + 9 := by
  have h8 := digs8 (m := v.int.natAbs) (by have := hr.1; have := hr.2; omega)
  have he := esc_length v.text
  unfold code intCode
  split
  · split <;> simp <;> omega
  · split
    · split
      · rw [List.length_cons, flip_length]; omega
      · rw [List.length_cons]; omega
    · split <;> simp <;> omega

/-! ### tuples -/
def enc (ts : List V) : List UInt8 := ts.flatMap code
theorem enc_cons (v : V) (ts : List V) : enc (v :: ts) = code v ++ enc ts := by simp [enc]
theorem enc_append (a b : List V) : enc (a ++ b) = enc a ++ enc b := by simp [enc]
def Ok (ts : List V) : Prop := ∀ v ∈ ts, valid v ∧ inRange v
theorem Ok.cons {v : V} {ts : List V} (h : Ok (v :: ts)) : valid v ∧ inRange v ∧ Ok ts := ⟨(h v (by simp)).1, (h v (by simp)).2, fun u hu => h u (by simp [hu])⟩
theorem enc_start (ts : List V) (h : Ok ts) : ¬ startsFF (enc ts) := by
  cases ts with
  | nil => simp [enc, startsFF]
  | cons v ts => rw [enc_cons]; exact code_start v h.cons.2.1 _
/-- The tuple of bytes (n: at least their number). -/
def dec : Nat → List UInt8 → Option (List V)
  | 0, _ => none
  | n + 1, b => if b = [] then some [] else match first b with
    | none => none
    | some (v, rest) => (dec n rest).map (v :: ·)
theorem dec_enc : ∀ (n : Nat) (ts : List V), Ok ts → (enc ts).length < n → dec n (enc ts) = some ts
  | 0, ts, _, h => absurd h (Nat.not_lt_zero _)
  | n + 1, [], _, _ => by simp [dec, enc]
  | n + 1, v :: ts, h, hn => by
    have hc := h.cons
    have hne : enc (v :: ts) ≠ [] := by rw [enc_cons]; simp [code_ne]
    have hl : 1 ≤ (code v).length := by
      have := code_ne v
      cases hcode : code v with
      | nil => exact absurd hcode this
      | cons x y => simp
    rw [enc_cons, List.length_append] at hn
    rw [dec, if_neg hne, enc_cons, first_code v hc.1 hc.2.1 _ (enc_start ts hc.2.2)]
    simp only
    rw [dec_enc n ts hc.2.2 (by omega)]
    rfl
theorem dec_inv : ∀ (n : Nat) (b : List UInt8) (ts : List V), dec n b = some ts → b = enc ts ∧ Ok ts
  | 0, b, ts, h => by simp [dec] at h
  | n + 1, b, ts, h => by
    rw [dec] at h
    split at h
    · rename_i hb
      obtain rfl := Option.some.inj h
      exact ⟨hb, fun v hv => by simp at hv⟩
    · split at h
      · exact absurd h (by simp)
      · rename_i v rest hf
        obtain ⟨us, h1, rfl⟩ := Option.map_eq_some_iff.1 h
        have hi := first_inv b v rest hf
        have ih := dec_inv n rest us h1
        refine ⟨by rw [enc_cons, hi.1, ← ih.1], fun u hu => ?_⟩
        rcases List.mem_cons.1 hu with rfl | hu
        · exact hi.2
        · exact ih.2 u hu
end Go.Proofs.YtoieckmegdcaeaaDoor.T
end
