-- Packed by a program of this session (pack.py) from texts of this claim.
import Derived.Test.YtoieckmegdcaeaaDoorP0TMath
import Derived.Test.YtoieckmegdcaeaaDoorP0TByt
import Derived.Test.YtoieckmegdcaeaaDoorP12a
section
namespace Go.Proofs.YtoieckmegdcaeaaDoor.T
open Go.RowKit Go.Proofs.YtoieckmegdcaeaaDoorW.PrintWords Go.Proofs.YtoieckmegdcaeaaDoorW.PrintLast Go.Proofs.YtoieckmegdcaeaaDoorW.PrintMore
open Go.Proofs.YtoieckmegdcaeaaDoor.G

def ofV (v : V) : S36 := ⟨v.kind, v.flag, v.int, B v.text⟩
def toV (s : S36) : V := ⟨s.f0, s.f1, s.f2, s.f3.data.toList⟩
theorem ofV_toV (s : S36) : ofV (toV s) = s := rfl
theorem toV_ofV (v : V) : toV (ofV v) = v := rfl

def textRes (acc : List UInt8) (L : Nat) : Option (List UInt8 × List UInt8) → ByteArray × Int × Bool
  | some p => (B (acc ++ p.1), (L : Int) - (p.2.length : Int), true)
  | none => (B [], 0, false)
theorem text_ev (b : List UInt8) (hb : b.length ≤ 4194304) : ∀ (n i : Nat) (acc : List UInt8), b.length - i = n → i ≤ b.length → acc.length ≤ i →
    Ev (fun k => tuple_text.l0 k (B b) (nums8 acc) (i : Int)) (textRes acc b.length (untext (b.drop i))) := by
  intro n
  induction n using Nat.strongRecOn with
  | _ n ih =>
    intro i acc hn hi ha
    have hal : (nums8 acc).length < 140737488355328 := by rw [nums8_length]; omega
    cases hd : b.drop i with
    | nil =>
      have hl : b.length ≤ i := by simpa using hd
      refine Ev.step (f := fun _ => some (B [], 0, false)) (fun k => ?_) (Ev.now _)
      simp only [tuple_text.l0]
      rw [if_neg (by rw [B_size]; omega)]
      rfl
    | cons c r =>
      obtain ⟨h1, h2, h3⟩ := drop_cons_lt hd
      have hi' : i ≤ 1073741824 := by omega
      have hbt := bt_at_B hd
      by_cases hc : c = 0
      · subst hc
        have hb0 : bt (B b) (i : Int) = 0 := by rw [hbt]; simp
        clear hbt
        cases r with
        | nil =>
          simp only [List.length_nil] at h3
          refine Ev.step (f := fun _ => some (strOfNums (nums8 acc), wrap64 ((i : Int) + 1), true)) (fun k => ?_) ?_
          · simp only [tuple_text.l0]
            rw [if_pos (by rw [B_size]; omega), if_pos (by omega), if_pos hb0, if_pos (by rw [wn _ hi', B_size]; omega)]
          · have e : textRes acc b.length (untext [0]) = (strOfNums (nums8 acc), wrap64 ((i : Int) + 1), true) := by
              rw [wn _ hi', strOf_nums8, untext_last]
              show (B (acc ++ []), (b.length : Int) - (([] : List UInt8).length : Int), true) = _
              rw [List.append_nil, show (b.length : Int) - (([] : List UInt8).length : Int) = ((i + 1 : Nat) : Int) from by rw [List.length_nil]; omega]
            rw [e]; exact Ev.now _
        | cons d r' =>
          simp only [List.length_cons] at h3
          obtain ⟨h4, h5, h6⟩ := drop_cons_lt h2
          have hbt2 := bt_at_B h2
          by_cases hdd : d = 255
          · subst hdd
            have hb255 : bt (B b) ((i + 1 : Nat) : Int) = 255 := by rw [hbt2]; simp
            clear hbt2
            have hi2 : i + 1 ≤ 1073741824 := by omega
            have ih' := ih (b.length - (i + 2)) (by omega) (i + 2) (acc ++ [0]) rfl (by omega) (by rw [List.length_append, List.length_singleton]; omega)
            have e : textRes acc b.length (untext (0 :: 255 :: r')) = textRes (acc ++ [0]) b.length (untext (b.drop (i + 2))) := by
              rw [h5, untext_ff]
              cases untext r' with
              | none => rfl
              | some p => show (B (acc ++ 0 :: p.1), _, _) = (B (acc ++ [0] ++ p.1), _, _); rw [List.append_assoc]; rfl
            rw [e]
            refine Ev.step (fun k => ?_) ih'
            simp only [tuple_text.l0]
            rw [if_pos (by rw [B_size]; omega), if_pos (by omega), if_pos hb0, wn _ hi', if_neg (by rw [B_size]; omega), if_pos (by omega), if_pos (by rw [B_size]; omega), if_pos hb255, if_pos hal, wn _ hi2, nums8_append, nums8_zero]
          · refine Ev.step (f := fun _ => some (strOfNums (nums8 acc), ((i + 1 : Nat) : Int), true)) (fun k => ?_) ?_
            · simp only [tuple_text.l0]
              rw [if_pos (by rw [B_size]; omega), if_pos (by omega), if_pos hb0, wn _ hi', if_neg (by rw [B_size]; omega), if_pos (by omega), if_pos (by rw [B_size]; omega), if_neg]
              rw [hbt2]
              exact u8_ff hdd
            · have e : textRes acc b.length (untext (0 :: d :: r')) = (strOfNums (nums8 acc), ((i + 1 : Nat) : Int), true) := by
                rw [strOf_nums8, untext_end _ hdd]
                show (B (acc ++ []), (b.length : Int) - ((d :: r').length : Int), true) = _
                rw [List.append_nil, show (b.length : Int) - ((d :: r').length : Int) = ((i + 1 : Nat) : Int) from by rw [List.length_cons]; omega]
              rw [e]; exact Ev.now _
      · have ih' := ih (b.length - (i + 1)) (by omega) (i + 1) (acc ++ [c]) rfl (by omega) (by rw [List.length_append, List.length_singleton]; omega)
        have e : textRes acc b.length (untext (c :: r)) = textRes (acc ++ [c]) b.length (untext (b.drop (i + 1))) := by
          rw [h2, untext_go _ hc]
          cases untext r with
          | none => rfl
          | some p => show (B (acc ++ c :: p.1), _, _) = (B (acc ++ [c] ++ p.1), _, _); rw [List.append_assoc]; rfl
        rw [e]
        refine Ev.step (fun k => ?_) ih'
        simp only [tuple_text.l0]
        rw [if_pos (by rw [B_size]; omega), if_pos (by omega), if_neg, if_pos hal, wn _ hi', nums8_append, hbt, nums8_one]
        · rw [hbt]
          exact u8_pos hc

/-! ### whole numbers -/
theorem flip_drop (l : List UInt8) (i : Nat) : (flip l).drop i = flip (l.drop i) := by simp [flip, List.map_drop]
theorem flip_take (l : List UInt8) (i : Nat) : (flip l).take i = flip (l.take i) := by simp [flip, List.map_take]
def bytesOf (below : Bool) (r : List UInt8) (n : Nat) : List UInt8 := if below then flip (r.take n) else r.take n
def wholeRes (below : Bool) (m : Nat) : Int × Bool := if below then (wrap64 (-(wrap64 (m : Int))), decide ((m : Int) ≤ 9223372036854775808)) else (wrap64 (m : Int), decide ((m : Int) ≤ 9223372036854775807))
theorem take_succ_of {l : List UInt8} {i : Nat} {c : UInt8} {r : List UInt8} (h : l.drop i = c :: r) : l.take (i + 1) = l.take i ++ [c] := by
  have h0 : l[i]? = some c := by
    have := congrArg (fun q : List UInt8 => q[0]?) h
    simpa using this
  rw [List.take_add_one, h0]; rfl
theorem beVal_take8 (l : List UInt8) (i : Nat) (h : i ≤ 7) : beVal (l.take i) < 72057594037927936 := by
  have h1 := beVal_lt (l.take i)
  have h2 : (l.take i).length ≤ 7 := by rw [List.length_take]; omega
  have h3 : 256 ^ (l.take i).length ≤ 256 ^ 7 := Nat.pow_le_pow_right (by decide) h2
  have e : (256 : Nat) ^ 7 = 72057594037927936 := by decide
  omega
theorem whole_ev (below : Bool) (r : List UInt8) (n : Nat) (hn : n ≤ 8) (hr : n ≤ r.length) : ∀ (d i : Nat), n - i = d → i ≤ n → (i = 0 ∨ (bytesOf below r n).head? ≠ some 0) →
    Ev (fun k => tuple_whole.l0 k (B r) (n : Int) below (beVal ((bytesOf below r n).take i) : Int) (i : Int)) (if (bytesOf below r n).head? = some 0 then (0, false) else wholeRes below (beVal (bytesOf below r n))) := by
  intro d
  induction d with
  | zero =>
    intro i hd hi hh
    obtain rfl : i = n := by omega
    have hlen : (bytesOf below r i).length = i := by unfold bytesOf; cases below <;> simp [flip_length] <;> omega
    have hne : (bytesOf below r i).head? ≠ some 0 := by
      rcases hh with rfl | hh
      · have : bytesOf below r 0 = [] := List.length_eq_zero_iff.1 hlen
        rw [this]; simp
      · exact hh
    rw [if_neg hne]
    refine Ev.step (f := fun _ => some (wholeRes below (beVal (bytesOf below r i)))) (fun k => ?_) (Ev.now _)
    simp only [tuple_whole.l0]
    rw [if_neg (by omega), List.take_of_length_le (by omega)]
    cases below <;> rfl
  | succ d ih =>
    intro i hd hi hh
    have hlen : (bytesOf below r n).length = n := by unfold bytesOf; cases below <;> simp [flip_length] <;> omega
    obtain ⟨c, q, hq⟩ : ∃ c q, r.drop i = c :: q := by
      cases e : r.drop i with
      | nil => rw [List.drop_eq_nil_iff] at e; omega
      | cons c q => exact ⟨c, q, rfl⟩
    obtain ⟨h1, h2, h3⟩ := drop_cons_lt hq
    have hbt := bt_at_B hq
    obtain ⟨c', q', hq', hcc⟩ : ∃ c' q', (bytesOf below r n).drop i = c' :: q' ∧ (c'.toNat : Int) = if below then 255 - (c.toNat : Int) else (c.toNat : Int) := by
      obtain ⟨z, hz⟩ : ∃ z, n - i = z + 1 := ⟨n - i - 1, by omega⟩
      have e : (r.take n).drop i = c :: q.take z := by rw [List.drop_take, hq, hz, List.take_succ_cons]
      cases below
      · exact ⟨c, q.take z, e, rfl⟩
      · refine ⟨255 - c, flip (q.take z), by show (flip (r.take n)).drop i = _; rw [flip_drop, e]; rfl, ?_⟩
        have := c.toNat_lt
        rw [sub255]; simp only [if_true]; omega
    have hc' := c'.toNat_lt
    have hcl := c.toNat_lt
    have hm := beVal_take8 (bytesOf below r n) i (by omega)
    have hi' : i ≤ 1073741824 := by omega
    have hstep : Go.bits .or .u64 (IntKind.u64.wrap ((beVal ((bytesOf below r n).take i) : Int) * 256)) (IntKind.u64.wrap (c'.toNat : Int)) = (beVal ((bytesOf below r n).take (i + 1)) : Int) := by
      rw [take_succ_of hq', beVal_append, wu64 (by omega) (by omega), wu64 (by omega) (by omega), or256 (by omega) (by omega) (by omega) (by omega)]
      omega
    have hbit : (if below then Go.bits .xor .u8 IntKind.u8.max (bt (B r) (i : Int)) else bt (B r) (i : Int)) = (c'.toNat : Int) := by
      rw [hbt, hcc]; cases below
      · rfl
      · simp only [if_true]; exact xor255 c
    by_cases h0 : i = 0
    · subst h0
      have hhd : (bytesOf below r n).head? = some c' := by
        have := congrArg List.head? hq'
        simpa using this
      by_cases hz : c' = 0
      · rw [if_pos (by rw [hhd, hz])]
        refine Ev.step (f := fun _ => some (0, false)) (fun k => ?_) (Ev.now _)
        have hz' : (c'.toNat : Int) = 0 := by rw [hz]; rfl
        simp only [tuple_whole.l0]
        rw [if_pos (by omega), if_pos (by omega), if_pos (by rw [B_size]; omega)]
        cases below
        · rw [if_neg (by decide), if_pos (by omega), if_pos (by simp only [Bool.false_eq_true, if_false] at hbit; rw [hbit, hz'])]
        · rw [if_pos rfl, if_pos (by omega), if_pos (by simp only [if_true] at hbit; rw [hbit, hz'])]
      · have hne : (bytesOf below r n).head? ≠ some 0 := by rw [hhd]; intro he; exact hz (Option.some.inj he)
        have ih' := ih 1 (by omega) (by omega) (.inr hne)
        have hz' := u8_pos hz
        refine Ev.step (fun k => ?_) ih'
        simp only [tuple_whole.l0]
        rw [if_pos (by omega), if_pos (by omega), if_pos (by rw [B_size]; omega)]
        cases below
        · simp only [Bool.false_eq_true, if_false] at hbit
          rw [if_neg (by decide), if_pos (by omega), if_neg (by rw [hbit]; exact hz'), hbit, hstep, wn _ hi']
        · simp only [if_true] at hbit
          rw [if_pos rfl, if_pos (by omega), if_neg (by rw [hbit]; exact hz'), hbit, hstep, wn _ hi']
    · have ih' := ih (i + 1) (by omega) (by omega) (.inr (hh.resolve_left h0))
      refine Ev.step (fun k => ?_) ih'
      simp only [tuple_whole.l0]
      rw [if_pos (by omega), if_pos (by omega), if_pos (by rw [B_size]; omega)]
      cases below
      · simp only [Bool.false_eq_true, if_false] at hbit
        rw [if_neg (by decide), if_neg (by omega), hbit, hstep, wn _ hi']
      · simp only [if_true] at hbit
        rw [if_pos rfl, if_neg (by omega), hbit, hstep, wn _ hi']
end Go.Proofs.YtoieckmegdcaeaaDoor.T
end
