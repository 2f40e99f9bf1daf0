-- Packed by a program of this session (pack.py) from texts of this claim.
import Derived.Test.YtoieckmegdcaeaaDoorP1b
section
namespace Go.Proofs.YtoieckmegdcaeaaDoor.T
open G (bytesLess_irrefl bytesLess_tri bytesLess_le)
set_option linter.unusedVariables false

abbrev lt (a b : List UInt8) : Bool := Op.bytesLess a b
theorem lt_nil (a : List UInt8) : lt a [] = false := by cases a <;> rfl
theorem nil_lt (a : List UInt8) : lt [] a = true ↔ a ≠ [] := by cases a <;> simp [lt, Op.bytesLess]
theorem lt_cons (a b : UInt8) (x y : List UInt8) : lt (a :: x) (b :: y) = (if a.toNat < b.toNat then true else if b.toNat < a.toNat then false else lt x y) := by
  simp only [lt, Op.bytesLess]
  rcases Nat.lt_trichotomy a.toNat b.toNat with h | h | h
  · have h1 : a < b := UInt8.lt_iff_toNat_lt.2 h
    rw [if_pos h]; simp [h1]
  · obtain rfl : a = b := UInt8.toNat_inj.1 h
    simp
  · have h1 : ¬ a < b := fun h' => by have := UInt8.lt_iff_toNat_lt.1 h'; omega
    have h3 : (a == b) = false := by rw [beq_eq_false_iff_ne]; rintro rfl; omega
    rw [if_neg (by omega), if_pos h]; simp [h1, h3]
theorem lt_eq : ∀ a b : List UInt8, lt a b = false → lt b a = false → a = b
  | [], [], _, _ => rfl
  | [], b :: y, h, _ => by simp [lt, Op.bytesLess] at h
  | a :: x, [], _, h => by simp [lt, Op.bytesLess] at h
  | a :: x, b :: y, h1, h2 => by
    rw [lt_cons] at h1 h2
    have hab : ¬ a.toNat < b.toNat := fun h => by rw [if_pos h] at h1; exact absurd h1 (by decide)
    have hba : ¬ b.toNat < a.toNat := fun h => by rw [if_pos h] at h2; exact absurd h2 (by decide)
    rw [if_neg hab, if_neg hba] at h1
    rw [if_neg hba, if_neg hab] at h2
    have e : a = b := UInt8.toNat_inj.1 (by omega)
    rw [e, lt_eq x y h1 h2]
theorem lt_trans : ∀ a b c : List UInt8, lt a b = true → lt b c = true → lt a c = true
  | _, _, [], _, h => by rw [lt_nil] at h; exact absurd h (by decide)
  | _, [], _ :: _, h, _ => by rw [lt_nil] at h; exact absurd h (by decide)
  | [], _ :: _, _ :: _, _, _ => rfl
  | a :: x, b :: y, c :: z, h1, h2 => by
    rw [lt_cons] at *
    by_cases q1 : a.toNat < b.toNat
    · by_cases q5 : b.toNat < c.toNat
      · rw [if_pos (by omega)]
      · rw [if_neg q5] at h2
        have q6 : ¬ c.toNat < b.toNat := fun h => by rw [if_pos h] at h2; exact absurd h2 (by decide)
        rw [if_pos (by omega)]
    · rw [if_neg q1] at h1
      have q2 : ¬ b.toNat < a.toNat := fun h => by rw [if_pos h] at h1; exact absurd h1 (by decide)
      rw [if_neg q2] at h1
      by_cases q3 : b.toNat < c.toNat
      · rw [if_pos (by omega)]
      · rw [if_neg q3] at h2
        have q4 : ¬ c.toNat < b.toNat := fun h => by rw [if_pos h] at h2; exact absurd h2 (by decide)
        rw [if_neg q4] at h2
        rw [if_neg (by omega), if_neg (by omega)]
        exact lt_trans x y z h1 h2
theorem lt_asymm (a b : List UInt8) (h : lt a b = true) : lt b a = false := by
  cases h2 : lt b a with
  | false => rfl
  | true => have := lt_trans a b a h h2; rw [show lt a a = false from bytesLess_irrefl a] at this; exact absurd this (by decide)
theorem lt_of_le_lt {a b c : List UInt8} (h : lt b a = false) (h2 : lt b c = true) : lt a c = true := by
  cases h1 : lt a b with
  | true => exact lt_trans a b c h1 h2
  | false => rw [lt_eq a b h1 h]; exact h2
theorem lt_of_lt_le {a b c : List UInt8} (h : lt a b = true) (h2 : lt c b = false) : lt a c = true := by
  cases h1 : lt b c with
  | true => exact lt_trans a b c h h1
  | false => rw [← lt_eq b c h1 h2]; exact h
theorem le_trans' {a b c : List UInt8} (h : lt b a = false) (h2 : lt c b = false) : lt c a = false := by
  cases h1 : lt c a with
  | false => rfl
  | true => have := lt_of_lt_le h1 h; rw [this] at h2; exact absurd h2 (by decide)

/-- sorted from last on, none longer than 32. -/
def Srt : List UInt8 → List ByteArray → Bool
  | _, [] => true
  | last, k :: r => lt last k.toList && (decide (k.size ≤ 32) && Srt k.toList r)
theorem Srt_cons {last : List UInt8} {k : ByteArray} {r : List ByteArray} : Srt last (k :: r) = true ↔ lt last k.toList = true ∧ k.size ≤ 32 ∧ Srt k.toList r = true := by
  simp [Srt]
/-- how many of l are at most key. -/
def cnt (l : List ByteArray) (key : List UInt8) : Nat := (l.filter fun k => !lt key k.toList).length
theorem cnt_nil (key : List UInt8) : cnt [] key = 0 := rfl
theorem cnt_pos {k : ByteArray} {r : List ByteArray} {key : List UInt8} (h : lt key k.toList = true) : cnt (k :: r) key = cnt r key := by
  unfold cnt; rw [List.filter_cons_of_neg (by rw [h]; decide)]
theorem cnt_neg {k : ByteArray} {r : List ByteArray} {key : List UInt8} (h : lt key k.toList = false) : cnt (k :: r) key = cnt r key + 1 := by
  unfold cnt; rw [List.filter_cons_of_pos (by rw [h]; decide)]; rfl
theorem cnt_le (l : List ByteArray) (key : List UInt8) : cnt l key ≤ l.length := List.length_filter_le _ _
theorem cnt_below : ∀ (l : List ByteArray) (last key : List UInt8), Srt last l = true → lt last key = false → cnt l key = 0
  | [], _, _, _, _ => rfl
  | k :: r, last, key, hs, h => by
    obtain ⟨h1, _, h3⟩ := Srt_cons.1 hs
    have h2 : lt key k.toList = true := lt_of_le_lt h h1
    rw [cnt_pos h2]
    exact cnt_below r k.toList key h3 (lt_asymm _ _ h2)
/-- the j-th is at most the key just if more than j are. -/
theorem cnt_at : ∀ (l : List ByteArray) (last key : List UInt8) (j : Nat) (k : ByteArray), Srt last l = true → l[j]? = some k → (lt key k.toList = false ↔ j < cnt l key)
  | [], _, _, _, _, _, h => by simp at h
  | k :: r, last, key, 0, k', hs, h => by
    simp at h; subst h
    obtain ⟨_, _, h3⟩ := Srt_cons.1 hs
    cases h2 : lt key k.toList with
    | true => rw [cnt_pos h2, cnt_below r k.toList key h3 (lt_asymm _ _ h2)]; simp
    | false => rw [cnt_neg h2]; simp
  | k :: r, last, key, j + 1, k', hs, h => by
    obtain ⟨_, _, h3⟩ := Srt_cons.1 hs
    have h' : r[j]? = some k' := by simpa using h
    have ih := cnt_at r k.toList key j k' h3 h'
    cases h2 : lt key k.toList with
    | true =>
      rw [cnt_pos h2, ih, cnt_below r k.toList key h3 (lt_asymm _ _ h2)]; simp
    | false => rw [cnt_neg h2, ih]; omega
/-- rising. -/
theorem Srt_lt : ∀ (l : List ByteArray) (last : List UInt8) (j : Nat) (k : ByteArray), Srt last l = true → l[j]? = some k → lt last k.toList = true
  | [], _, _, _, _, h => by simp at h
  | k :: r, last, 0, k', hs, h => by
    simp at h; subst h
    exact (Srt_cons.1 hs).1
  | k :: r, last, j + 1, k', hs, h => by
    obtain ⟨h1, _, h3⟩ := Srt_cons.1 hs
    exact lt_trans _ _ _ h1 (Srt_lt r k.toList j k' h3 (by simpa using h))
theorem Srt_pair : ∀ (l : List ByteArray) (last : List UInt8) (i j : Nat) (a b : ByteArray), Srt last l = true → i < j → l[i]? = some a → l[j]? = some b → lt a.toList b.toList = true
  | [], _, _, _, _, _, _, _, h, _ => by simp at h
  | k :: r, last, 0, j + 1, a, b, hs, _, h1, h2 => by
    simp at h1; subst h1
    exact Srt_lt r k.toList j b (Srt_cons.1 hs).2.2 (by simpa using h2)
  | k :: r, last, i + 1, j + 1, a, b, hs, hij, h1, h2 => Srt_pair r k.toList i j a b (Srt_cons.1 hs).2.2 (by omega) (by simpa using h1) (by simpa using h2)
/-- the owner of the i-th split key. -/
theorem cnt_split (l : List ByteArray) (last : List UInt8) (i : Nat) (k : ByteArray) (hs : Srt last l = true) (hk : l[i]? = some k) : cnt l k.toList = i + 1 := by
  have h1 : i < cnt l k.toList := (cnt_at l last k.toList i k hs hk).1 (bytesLess_irrefl _)
  have hle := cnt_le l k.toList
  by_cases h2 : i + 1 < cnt l k.toList
  · obtain ⟨b, hb⟩ : ∃ b, l[i + 1]? = some b := ⟨l[i + 1]'(by omega), List.getElem?_eq_getElem _⟩
    have h3 := (cnt_at l last k.toList (i + 1) b hs hb).2 h2
    rw [Srt_pair l last i (i + 1) k b hs (by omega) hk hb] at h3
    exact absurd h3 (by decide)
  · omega
theorem cnt_mono {l : List ByteArray} {a b : List UInt8} (h : lt b a = false) : cnt l a ≤ cnt l b := by
  induction l with
  | nil => exact Nat.le_refl _
  | cons k r ih =>
    cases h1 : lt a k.toList with
    | true =>
      rw [cnt_pos h1]
      cases h2 : lt b k.toList with
      | true => rw [cnt_pos h2]; exact ih
      | false => rw [cnt_neg h2]; omega
    | false =>
      have h2 : lt b k.toList = false := by
        cases h3 : lt b k.toList with
        | false => rfl
        | true => have := lt_of_le_lt h h3; rw [this] at h1; exact absurd h1 (by decide)
      rw [cnt_neg h1, cnt_neg h2]; omega
/-- behind the splits that are at most lo. -/
theorem Srt_drop : ∀ (l : List ByteArray) (last lo : List UInt8), Srt last l = true → Srt lo (l.drop (cnt l lo)) = true
  | [], _, _, _ => rfl
  | k :: r, last, lo, hs => by
    obtain ⟨h1, h2, h3⟩ := Srt_cons.1 hs
    cases h : lt lo k.toList with
    | true =>
      rw [cnt_pos h, cnt_below r k.toList lo h3 (lt_asymm _ _ h)]
      exact Srt_cons.2 ⟨h, h2, h3⟩
    | false =>
      rw [cnt_neg h, List.drop_succ_cons]
      exact Srt_drop r k.toList lo h3
theorem cnt_drop : ∀ (l : List ByteArray) (last lo key : List UInt8), Srt last l = true → lt key lo = false → cnt l key = cnt l lo + cnt (l.drop (cnt l lo)) key
  | [], _, _, _, _, _ => rfl
  | k :: r, last, lo, key, hs, hk => by
    obtain ⟨h1, h2, h3⟩ := Srt_cons.1 hs
    cases h : lt lo k.toList with
    | true =>
      have e : cnt (k :: r) lo = 0 := by rw [cnt_pos h, cnt_below r k.toList lo h3 (lt_asymm _ _ h)]
      rw [e, List.drop_zero, Nat.zero_add]
    | false =>
      have h4 : lt key k.toList = false := by
        cases h5 : lt key k.toList with
        | false => rfl
        | true => have := lt_of_le_lt hk h5; rw [this] at h; exact absurd h (by decide)
      rw [cnt_neg h, cnt_neg h4, List.drop_succ_cons, cnt_drop r k.toList lo key h3 hk]
      omega
end Go.Proofs.YtoieckmegdcaeaaDoor.T
end
