-- Packed by a program of this session (pack.py) from texts of this claim.
import Derived.Test.YtoieckmegdcaeaaDoorP0TEnc
import Derived.Test.YtoieckmegdcaeaaDoorP0TCmp
import Derived.Test.YtoieckmegdcaeaaDoorP0TSays
import Derived.Test.YtoieckmegdcaeaaDoorP13
import Derived.Test.YtoieckmegdcaeaaDoorP10a
import Derived.Lib.SplitLaws
import Derived.Lib.ItoaNum
section
namespace Go.Proofs.YtoieckmegdcaeaaDoor.T
open Go.RowKit Go.Proofs.YtoieckmegdcaeaaDoorW.PrintWords Go.Proofs.YtoieckmegdcaeaaDoorW.PrintLast Go.Proofs.YtoieckmegdcaeaaDoorW.PrintMore
open Go.Proofs.YtoieckmegdcaeaaDoor.G
set_option linter.unusedVariables false
set_option linter.unusedSimpArgs false

/-! ### texts -/
theorem repl_cons (c : UInt8) (hc : c ≠ 0) (r : List UInt8) : ∀ n, Lib.replaceK [0] [0, 255] n (c :: r) = c :: Lib.replaceK [0] [0, 255] n r
  | 0 => rfl
  | n + 1 => by
    have hp : ([0] : List UInt8).isPrefixOf (c :: r) = false := by
      simp [List.isPrefixOf]
      exact fun h => hc h.symm
    have hi : Lib.index (c :: r) [0] = if (Lib.index r [0] == -1) = true then -1 else Lib.index r [0] + 1 := by
      rw [Lib.index, if_neg (by rw [hp]; decide)]
    have hge := Lib.index_ge r [0]
    by_cases h : Lib.index r [0] = -1
    · have h1 : Lib.index (c :: r) [0] = -1 := by rw [hi, h]; rfl
      rw [Lib.replaceK, Lib.replaceK, h1, h]
      rfl
    · obtain ⟨i, hi2⟩ : ∃ i : Nat, Lib.index r [0] = i := ⟨(Lib.index r [0]).toNat, by omega⟩
      have h1 : Lib.index (c :: r) [0] = ((i + 1 : Nat) : Int) := by
        rw [hi, if_neg (by simpa using h), hi2]; omega
      rw [Lib.replaceK_hit _ _ _ _ _ h1, Lib.replaceK_hit _ _ _ _ _ hi2]
      simp
theorem repl_esc : ∀ s : List UInt8, Lib.replaceK [0] [0, 255] (Lib.count s [0]) s = esc s
  | [] => by rw [Lib.count_one]; rfl
  | c :: r => by
    by_cases h : c = 0
    · subst h
      have h0 : Lib.index (0 :: r) [0] = ((0 : Nat) : Int) := by simp [Lib.index, List.isPrefixOf]
      rw [Lib.count_cons_eq, Nat.add_comm, Lib.replaceK_hit _ _ _ _ _ h0]
      simp only [List.take_zero, List.nil_append, esc, if_true]
      show [0, 255] ++ Lib.replaceK [0] [0, 255] (Lib.count r [0]) r = _
      rw [repl_esc r]
      rfl
    · rw [Lib.count_cons_ne c 0 r h, repl_cons c h, repl_esc r, esc, if_neg h]
theorem replaceAll_esc (s : List UInt8) : Lib.replaceAll s [0] [0, 255] = esc s := by
  unfold Lib.replaceAll Lib.replace
  rw [if_neg (by decide)]
  have : Lib.replaceNum s [0] (-1) = Lib.count s [0] := by unfold Lib.replaceNum; rw [if_pos (.inl (by decide))]
  rw [this]
  exact repl_esc s

/-! ### whole numbers -/
theorem be_add : ∀ (n a b : Nat), be (a * 256 ^ n + b) n = be b n
  | 0, _, _ => rfl
  | n + 1, a, b => by
    have e : a * 256 ^ (n + 1) + b = (a * 256) * 256 ^ n + b := by rw [Nat.pow_succ, Nat.mul_assoc, Nat.mul_comm 256]
    rw [be, be, e, be_add n (a * 256) b]
    congr 2
    rw [Nat.mul_comm (a * 256), Nat.mul_add_div (Nat.pow_pos (by decide))]
    omega
theorem be_beVal : ∀ l : List UInt8, be (beVal l) l.length = nums8 l
  | [] => rfl
  | c :: r => by
    have hlt := beVal_lt r
    have hc := c.toNat_lt
    have e : beVal (c :: r) / 256 ^ r.length = c.toNat := by
      rw [beVal_cons, Nat.mul_comm, Nat.mul_add_div (Nat.pow_pos (by decide)), Nat.div_eq_of_lt hlt, Nat.add_zero]
    rw [List.length_cons, be, e, Nat.mod_eq_of_lt hc, beVal_cons, be_add, be_beVal r]
    rfl
theorem beVal_flip : ∀ l : List UInt8, beVal (flip l) + beVal l + 1 = 256 ^ l.length
  | [] => rfl
  | c :: r => by
    have ih := beVal_flip r
    have hc := c.toNat_lt
    have e : flip (c :: r) = (255 - c) :: flip r := rfl
    rw [e, beVal_cons, beVal_cons, flip_length, sub255, List.length_cons, Nat.pow_succ]
    have e2 : (255 - c.toNat) * 256 ^ r.length + c.toNat * 256 ^ r.length = 255 * 256 ^ r.length := by rw [← Nat.add_mul]; congr 1; omega
    omega
theorem pow8 (n : Nat) : 256 ^ n = 2 ^ (8 * n) := by rw [Nat.pow_mul]
theorem nbytes_digs (m : Nat) (h : m < 18446744073709551616) : nbytes m = (digs m).length := by
  by_cases h0 : m = 0
  · subst h0
    rw [digs_zero]
    have : Lib.bitLen 0 = 0 := Lib.bitLenAux_zero 64
    unfold nbytes; rw [this]; rfl
  · have hb := Lib.bitLenAux_bounds 64 m (by rw [show (2 : Nat) ^ 64 = 18446744073709551616 from by decide]; exact h) h0
    have e : Lib.bitLen m = Lib.bitLenAux 64 m := rfl
    unfold nbytes
    rw [e]
    generalize Lib.bitLenAux 64 m = b at hb
    obtain ⟨b1, b2, b3⟩ := hb
    have up : (digs m).length ≤ (b + 7) / 8 := by
      refine digs_length m _ ?_
      rw [pow8]
      exact Nat.lt_of_lt_of_le b3 (Nat.pow_le_pow_right (by decide) (by omega))
    have lo : (b + 7) / 8 ≤ (digs m).length := by
      have h1 := beVal_lt (digs m)
      rw [beVal_digs, pow8] at h1
      have h2 : 2 ^ (b - 1) < 2 ^ (8 * (digs m).length) := Nat.lt_of_le_of_lt b2 h1
      have h3 := (Nat.pow_lt_pow_iff_right (by decide : 1 < 2)).1 h2
      omega
    omega
theorem ofNat_int {n : Nat} (h : n < 256) : ((UInt8.ofNat n).toNat : Int) = (n : Int) := by
  rw [UInt8.toNat_ofNat', Nat.mod_eq_of_lt (by exact h)]
theorem intCode_eq (v : Int) (h1 : -9223372036854775808 ≤ v) (h2 : v ≤ 9223372036854775807) : G.intCode v = nums8 (intCode v) := by
  have hn := nbytes_digs v.natAbs (by omega)
  have h8 := digs8 (m := v.natAbs) (by omega)
  have hv := beVal_digs v.natAbs
  unfold G.intCode G.intHead G.intM intCode
  rw [hn]
  by_cases hv0 : v < 0
  · rw [if_pos hv0, if_pos hv0, if_pos hv0]
    have hf := beVal_flip (digs v.natAbs)
    rw [hv] at hf
    have hlen := flip_length (digs v.natAbs)
    have hbe := be_beVal (flip (digs v.natAbs))
    rw [hlen] at hbe
    obtain ⟨d, hd⟩ : ∃ d, 8 = d + (digs v.natAbs).length := ⟨8 - (digs v.natAbs).length, by omega⟩
    have hp : (18446744073709551616 : Nat) = 256 ^ d * 256 ^ (digs v.natAbs).length := by rw [← Nat.pow_add, ← hd]
    have hpos : 1 ≤ 256 ^ d := Nat.pow_pos (by decide)
    have e : 18446744073709551615 - v.natAbs = (256 ^ d - 1) * 256 ^ (digs v.natAbs).length + beVal (flip (digs v.natAbs)) := by
      rw [Nat.sub_mul, Nat.one_mul, ← hp]
      have : 256 ^ (digs v.natAbs).length ≤ 18446744073709551616 := by rw [hp]; exact Nat.le_mul_of_pos_left _ hpos
      omega
    rw [e, be_add, hbe]
    show _ = ((UInt8.ofNat (24 - (digs v.natAbs).length)).toNat : Int) :: nums8 (flip (digs v.natAbs))
    rw [ofNat_int (by omega)]
    congr 1
    omega
  · rw [if_neg hv0, if_neg hv0, if_neg hv0]
    have hbe := be_beVal (digs v.natAbs)
    rw [hv] at hbe
    rw [hbe]
    show _ = ((UInt8.ofNat (24 + (digs v.natAbs).length)).toNat : Int) :: nums8 (digs v.natAbs)
    rw [ofNat_int (by omega)]
    congr 1

/-! ### Valid -/
theorem beq_nil (l : List UInt8) : (l == ([] : List UInt8)) = decide (l = []) := by
  cases l <;> rfl
theorem tvalid_eq (v : V) : tuple_valid.f v.kind v.flag v.int (B v.text) = some (decide (valid v)) := by
  obtain ⟨k, f, n, t⟩ := v
  unfold tuple_valid.f
  simp only [B_toList]
  by_cases h0 : k = 0
  · subst h0
    rw [if_pos rfl]
    congr 1
    have : valid ⟨0, f, n, t⟩ ↔ f = false ∧ n = 0 ∧ t = [] := by unfold valid named; simp
    rw [Bool.eq_iff_iff]
    simp [this]
  · rw [if_neg h0]
    by_cases h1 : k = 1
    · subst h1
      rw [if_pos rfl]
      have : valid ⟨1, f, n, t⟩ ↔ n = 0 ∧ t = [] := by unfold valid named; simp
      by_cases hn : n = 0
      · rw [if_pos hn]; congr 1; rw [Bool.eq_iff_iff, beq_iff_eq, decide_eq_true_iff, this]; simp [hn]
      · rw [if_neg hn]; congr 1; rw [Bool.eq_iff_iff, decide_eq_true_iff, this]; simp [hn]
    · rw [if_neg h1]
      by_cases h2 : k = 2
      · subst h2
        rw [if_pos rfl]
        have : valid ⟨2, f, n, t⟩ ↔ f = false ∧ t = [] := by unfold valid named; simp
        cases f with
        | true => rw [if_pos rfl, decide_eq_false (by rw [this]; simp)]
        | false => rw [if_neg (by decide)]; congr 1; rw [Bool.eq_iff_iff]; simp [this]
      · rw [if_neg h2]
        by_cases h3 : k = 3
        · subst h3
          rw [if_pos rfl]
          have : valid ⟨3, f, n, t⟩ ↔ f = false ∧ n = 0 := by unfold valid named; simp
          cases f with
          | true => rw [if_pos rfl, decide_eq_false (by rw [this]; simp)]
          | false => rw [if_neg (by decide)]; congr 1; rw [Bool.eq_iff_iff]; simp [this]
        · rw [if_neg h3]
          have : ¬ valid ⟨k, f, n, t⟩ := by
            unfold valid named
            rw [if_neg h1, if_neg h2, if_neg h3]
            intro h
            injection h with h4
            exact h0 h4
          rw [decide_eq_false this]
theorem tvalid_l0 (l : List V) (hl : l.length ≤ 1048577) : ∀ (r : List V) (i : Nat), l.drop i = r →
    Ev (fun k => tuple_Valid.l0 k (l.map ofV) (l.length : Int) (i : Int)) (if ∀ v ∈ r, valid v then 0 else 1)
  | [], i, hd => by
    have hge : l.length ≤ i := List.drop_eq_nil_iff.mp hd
    rw [if_pos (fun v hv => by simp at hv)]
    exact Ev.step (f := fun _ => some 0) (fun k => by rw [tuple_Valid.l0, if_neg (by omega)]) (Ev.now _)
  | v :: r, i, hd => by
    obtain ⟨h1, h2, h3⟩ := drop_cons_lt hd
    have hrd := rd_ofV l i v r hd
    have hst : ∀ k, tuple_Valid.l0 (k + 1) (l.map ofV) (l.length : Int) (i : Int) = if valid v then tuple_Valid.l0 k (l.map ofV) (l.length : Int) ((i + 1 : Nat) : Int) else some 1 := by
      intro k
      rw [tuple_Valid.l0, if_pos (by omega), if_pos (by omega), if_pos (by rw [List.length_map]; omega), hrd]
      show ((tuple_valid.f v.kind v.flag v.int (B v.text)).bind _) = _
      rw [tvalid_eq, Option.bind_some, wn i (by omega)]
      by_cases hv : valid v
      · rw [if_pos hv, decide_eq_true hv, if_pos rfl]
      · rw [if_neg hv, decide_eq_false hv, if_neg (by decide)]
    by_cases hv : valid v
    · have e : (∀ u ∈ v :: r, valid u) ↔ ∀ u ∈ r, valid u := by simp [hv]
      simp only [e]
      exact Ev.step (fun k => by rw [hst, if_pos hv]) (tvalid_l0 l hl r (i + 1) h2)
    · rw [if_neg (fun h => hv (h v (by simp)))]
      exact Ev.step (f := fun _ => some 1) (fun k => by rw [hst, if_neg hv]) (Ev.now _)
theorem tvalid_ev (l : List V) (hl : l.length ≤ 1048577) : Ev (fun k => tuple_Valid.f k (l.map ofV)) (if ∀ v ∈ l, valid v then 0 else 1) := by
  unfold tuple_Valid.f
  rw [List.length_map]
  exact tvalid_l0 l hl l 0 rfl
theorem rvalid_ev (l : List V) (hl : l.length ≤ 1048577) : Ev (fun k => tidemarkref25_Valid.f k (l.map ofV)) (if ∀ v ∈ l, valid v then 0 else 1) :=
  valid_ev l hl l.length 0 (by omega) (by omega) (fun v hv => by rw [List.take_zero] at hv; exact absurd hv (by simp))

/-! ### value, Encode -/
theorem bytesOf_B (l : List UInt8) : Go.Proofs.YtoieckmegdcaeaaDoorW.PrintWords.bytesOf (B l) = nums8 l := by
  simp [Go.Proofs.YtoieckmegdcaeaaDoorW.PrintWords.bytesOf, nums8, B]
theorem value_f (acc : List UInt8) (v : V) (hv : valid v) (hr : inRange v) (ht : v.text.length ≤ 1048576) (ha : acc.length ≤ 100000000000000) :
    tuple_value.f (nums8 acc) v.kind v.flag v.int (B v.text) = some (nums8 (acc ++ code v)) := by
  have hl := nums8_length acc
  rw [nums8_append]
  rcases valid_cases hv with e | e | e | e
  · rw [e]; unfold tuple_value.f code
    rw [if_pos rfl, if_pos (by omega), if_neg (by decide), if_neg (by decide), if_neg (by decide)]
    rfl
  · rw [e]; unfold tuple_value.f code
    rw [if_neg (show ¬ (1 : Int) = 0 by decide), if_neg (show ¬ (1 : Int) = 2 by decide), if_neg (show ¬ (1 : Int) = 3 by decide), if_pos (show (1 : Int) = 1 from rfl)]
    cases v.flag
    · rw [if_neg (by decide), if_pos (by omega), if_neg (by decide)]; rfl
    · rw [if_pos rfl, if_pos (by omega), if_pos rfl]; rfl
  · rw [e]; unfold tuple_value.f code tuple_integer.f
    have hr1 := hr.1
    have hr2 := hr.2
    rw [if_neg (show ¬ (2 : Int) = 0 by decide), if_pos rfl, if_pos ⟨hr1, hr2, by omega⟩, Option.bind_some, if_neg (show ¬ (2 : Int) = 1 by decide), if_pos (show (2 : Int) = 2 from rfl), intCode_eq v.int hr1 hr2]
  · rw [e]; unfold tuple_value.f code
    have hesc := esc_length v.text
    have hcnt := Lib.count_le v.text [0]
    have hrep : strings_ReplaceAll.f (B v.text) ⟨#[0]⟩ ⟨#[0, 255]⟩ = some (B (esc v.text)) := by
      unfold strings_ReplaceAll.f
      rw [if_pos ⟨by rw [B_size]; omega, by decide, by
        show (B v.text).size + Lib.count v.text [0] * 2 ≤ _
        rw [B_size]; omega⟩]
      show some (B (Lib.replaceAll v.text [0] [0, 255])) = _
      rw [replaceAll_esc]
    have n1 := nums8_length (esc v.text)
    rw [if_neg (show ¬ (3 : Int) = 0 by decide), if_neg (show ¬ (3 : Int) = 2 by decide), if_pos rfl, if_pos (by omega), Option.bind_some, hrep, Option.bind_some, bytesOf_B, B_size, if_pos (by rw [List.length_append, List.length_singleton]; omega), Option.bind_some, if_pos (by rw [List.length_append, List.length_append, List.length_singleton]; omega), if_neg (show ¬ (3 : Int) = 1 by decide), if_neg (show ¬ (3 : Int) = 2 by decide), if_pos (show (3 : Int) = 3 from rfl)]
    simp [nums8]
theorem tencode_l0 (l : List V) (hs : Small l) (hv : ∀ v ∈ l, valid v) : ∀ (r : List V) (i : Nat), l.drop i = r →
    Ev (fun k => tuple_Encode.l0 k (nums8 (enc (l.take i))) (l.map ofV) (l.length : Int) (i : Int)) (B (enc l), 0)
  | [], i, hd => by
    have hge : l.length ≤ i := List.drop_eq_nil_iff.mp hd
    rw [List.take_of_length_le hge]
    refine Ev.step (f := fun _ => some (B (enc l), 0)) (fun k => ?_) (Ev.now _)
    rw [tuple_Encode.l0, if_neg (by omega), strOf_nums8]
  | v :: r, i, hd => by
    obtain ⟨h1, h2, h3⟩ := drop_cons_lt hd
    have hln := hs.1
    have hrd := rd_ofV l i v r hd
    have hmem : v ∈ l := by rw [← List.take_append_drop i l, hd]; exact List.mem_append_right _ (List.mem_cons_self ..)
    have hb1 := enc_length (l.take i) (fun u hu => hs.2 u (List.mem_of_mem_take hu))
    have hb3 : (l.take i).length ≤ 1048577 := by rw [List.length_take]; omega
    have ih := tencode_l0 l hs hv r (i + 1) h2
    have e : l.take (i + 1) = l.take i ++ [v] := take_snocV hd
    rw [e, enc_append, show enc [v] = code v by simp [enc]] at ih
    refine Ev.step (fun k => ?_) ih
    rw [tuple_Encode.l0, if_pos (by omega), if_pos (by omega), if_pos (by rw [List.length_map]; omega), hrd]
    show ((tuple_value.f _ v.kind v.flag v.int (B v.text)).bind _) = _
    rw [value_f _ v (hv v hmem) (hs.2 v hmem).1 (hs.2 v hmem).2 (by omega), Option.bind_some, wn i (by omega)]
/-- what a tuple's bytes are. -/
def encRes (l : List V) : ByteArray × Int := if ∀ v ∈ l, valid v then (B (enc l), 0) else (B [], 1)
theorem tencode_ev (l : List V) (hs : Small l) : Ev (fun k => tuple_Encode.f k (l.map ofV)) (encRes l) := by
  unfold tuple_Encode.f encRes
  rw [List.length_map]
  refine Ev.bind (tvalid_ev l hs.1) ?_
  by_cases hv : ∀ v ∈ l, valid v
  · rw [if_pos hv, if_pos hv]
    exact Ev.congr (fun k => by rw [if_pos rfl]; rfl) (tencode_l0 l hs hv l 0 rfl)
  · rw [if_neg hv, if_neg hv]
    exact Ev.congr (fun k => by rw [if_neg (by decide)]; rfl) (Ev.now _)

/-! ### Same, joined, over -/
theorem same_l0 (a b : List V) (ha : a.length ≤ 2097152) (hb : b.length = a.length) : ∀ (ra rb : List V) (i : Nat), a.drop i = ra → b.drop i = rb →
    Ev (fun k => tidemarkref25_Same.l0 k (a.map ofV) (b.map ofV) (i : Int)) (decide (ra = rb))
  | [], rb, i, hda, hdb => by
    have hge : a.length ≤ i := List.drop_eq_nil_iff.mp hda
    have : rb = [] := by rw [← hdb]; exact List.drop_eq_nil_iff.mpr (by omega)
    rw [decide_eq_true this.symm]
    exact Ev.step (f := fun _ => some true) (fun k => by rw [tidemarkref25_Same.l0, if_neg (by rw [List.length_map]; omega)]) (Ev.now _)
  | v :: ra, [], i, hda, hdb => by
    obtain ⟨h1, _, _⟩ := drop_cons_lt hda
    have hge : b.length ≤ i := List.drop_eq_nil_iff.mp hdb
    omega
  | v :: ra, u :: rb, i, hda, hdb => by
    obtain ⟨h1, h2, h3⟩ := drop_cons_lt hda
    obtain ⟨g1, g2, g3⟩ := drop_cons_lt hdb
    have hst : ∀ k, tidemarkref25_Same.l0 (k + 1) (a.map ofV) (b.map ofV) (i : Int) = if v ≠ u then some false else tidemarkref25_Same.l0 k (a.map ofV) (b.map ofV) ((i + 1 : Nat) : Int) := by
      intro k
      rw [tidemarkref25_Same.l0, if_pos (by rw [List.length_map]; omega), if_pos (by omega), if_pos (by rw [List.length_map]; omega), rd_ofV a i v ra hda, rd_ofV b i u rb hdb, wn i (by omega)]
      by_cases hne : v ≠ u
      · rw [if_pos hne]; exact if_pos ((same_testB v u).2 hne)
      · rw [if_neg hne]; exact if_neg (fun h => hne ((same_testB v u).1 h))
    by_cases hne : v ≠ u
    · rw [decide_eq_false (by simp [hne])]
      exact Ev.step (f := fun _ => some false) (fun k => by rw [hst, if_pos hne]) (Ev.now _)
    · have e : v = u := Classical.byContradiction hne
      have : decide (v :: ra = u :: rb) = decide (ra = rb) := by rw [e]; simp
      rw [this]
      exact Ev.step (fun k => by rw [hst, if_neg hne]) (same_l0 a b ha hb ra rb (i + 1) h2 g2)
theorem same_any (a b : List V) (ha : a.length ≤ 2097152) : Ev (fun k => tidemarkref25_Same.f k (a.map ofV) (b.map ofV)) (decide (a = b)) := by
  unfold tidemarkref25_Same.f
  by_cases hl : a.length = b.length
  · exact Ev.congr (fun k => by rw [if_pos (by rw [List.length_map, List.length_map, hl])]; rfl) (same_l0 a b ha hl.symm a b 0 rfl rfl)
  · rw [decide_eq_false (fun h => hl (by rw [h]))]
    exact Ev.congr (fun k => by rw [if_neg (by rw [List.length_map, List.length_map]; omega)]) (Ev.now _)
theorem joined_l1 (b : List S36) (hb : b.length ≤ 1048577) : ∀ (r : List S36) (i : Nat) (acc : List S36), b.drop i = r → acc.length ≤ 1048577 + i →
    Ev (fun k => tidemarklaw25_joined.l1 k b acc (i : Int)) (acc ++ r)
  | [], i, acc, hd, ha => by
    have hge : b.length ≤ i := List.drop_eq_nil_iff.mp hd
    rw [List.append_nil]
    exact Ev.step (f := fun _ => some acc) (fun k => by rw [tidemarklaw25_joined.l1, if_neg (by omega)]) (Ev.now _)
  | v :: r, i, acc, hd, ha => by
    obtain ⟨h1, h2, h3⟩ := drop_cons_lt hd
    have ih := joined_l1 b hb r (i + 1) (acc ++ [v]) h2 (by rw [List.length_append, List.length_singleton]; omega)
    rw [List.append_assoc] at ih
    refine Ev.step (fun k => ?_) ih
    rw [tidemarklaw25_joined.l1, if_pos (by omega), if_pos (by omega), if_pos (by omega), rd_S b i v r hd, wn i (by omega)]
theorem joined_l0 (a b : List S36) (ha : a.length ≤ 1048577) (hb : b.length ≤ 1048577) : ∀ (r : List S36) (i : Nat) (acc : List S36), a.drop i = r → acc.length ≤ i → acc.length + r.length ≤ 1048577 →
    Ev (fun k => tidemarklaw25_joined.l0 k a b acc (i : Int)) (acc ++ r ++ b)
  | [], i, acc, hd, ha2, hs => by
    have hge : a.length ≤ i := List.drop_eq_nil_iff.mp hd
    rw [List.append_nil]
    exact Ev.step (fun k => by rw [tidemarklaw25_joined.l0, if_neg (by omega)]; rfl) (joined_l1 b hb b 0 acc rfl (by simp at hs; omega))
  | v :: r, i, acc, hd, ha2, hs => by
    obtain ⟨h1, h2, h3⟩ := drop_cons_lt hd
    rw [List.length_cons] at hs
    have ih := joined_l0 a b ha hb r (i + 1) (acc ++ [v]) h2 (by rw [List.length_append, List.length_singleton]; omega) (by rw [List.length_append, List.length_singleton]; omega)
    rw [show acc ++ [v] ++ r = acc ++ (v :: r) from by simp] at ih
    refine Ev.step (fun k => ?_) ih
    rw [tidemarklaw25_joined.l0, if_pos (by omega), if_pos (by omega), if_pos (by omega), rd_S a i v r hd, wn i (by omega)]
theorem joined_ev (a b : List V) (ha : a.length ≤ 1048577) (hb : b.length ≤ 1048577) : Ev (fun k => tidemarklaw25_joined.f k (a.map ofV) (b.map ofV)) ((a ++ b).map ofV) := by
  have := joined_l0 (a.map ofV) (b.map ofV) (by rw [List.length_map]; exact ha) (by rw [List.length_map]; exact hb) (a.map ofV) 0 [] rfl (Nat.zero_le _) (by simp; exact ha)
  rw [List.nil_append, ← List.map_append] at this
  exact this
def goodS (s : S36) : Prop := -9223372036854775808 ≤ s.f2 ∧ s.f2 ≤ 9223372036854775807 ∧ s.f3 = ⟨#[]⟩
theorem over_l0 : ∀ (n i : Nat) (x : List S36), x.length - i = n → i ≤ x.length → x.length ≤ 1048577 → (∀ s ∈ x.take i, goodS s) →
    ∃ q : List S36, q.length = x.length ∧ (∀ s ∈ q, goodS s) ∧ Ev (fun k => tidemarklaw25_over.l0 k x (i : Int)) q
  | 0, i, x, hn, hi, hx, hg => by
    obtain rfl : i = x.length := by omega
    rw [List.take_length] at hg
    exact ⟨x, rfl, hg, Ev.step (f := fun _ => some x) (fun k => by rw [tidemarklaw25_over.l0, if_neg (by omega)]) (Ev.now _)⟩
  | n + 1, i, x, hn, hi, hx, hg => by
    have hil : i < x.length := by omega
    have hgood : goodS ⟨2, false, wrap64 ((i : Int) - 3), ⟨#[]⟩⟩ := by
      rw [w64 (by omega) (by omega)]
      exact ⟨by show _ ≤ (i : Int) - 3; omega, by show (i : Int) - 3 ≤ _; omega, rfl⟩
    obtain ⟨q, hq, hq2, hq3⟩ := over_l0 n (i + 1) (x.set i ⟨2, false, wrap64 ((i : Int) - 3), ⟨#[]⟩⟩) (by rw [List.length_set]; omega) (by rw [List.length_set]; omega) (by rw [List.length_set]; exact hx)
      (by
        intro s hs
        rw [List.take_add_one, List.mem_append] at hs
        rcases hs with hs | hs
        · rw [List.take_set_of_le (Nat.le_refl i)] at hs
          exact hg s hs
        · rw [List.getElem?_set_self hil] at hs
          simp at hs
          rw [hs]
          exact hgood)
    rw [List.length_set] at hq
    refine ⟨q, hq, hq2, Ev.step (fun k => ?_) hq3⟩
    rw [tidemarklaw25_over.l0, if_pos (by omega), if_pos (by omega), wn i (by omega)]
    rfl
theorem over_any (l : List V) (hl : l.length ≤ 1048577) : ∃ us : List V, Small us ∧ us.length = l.length ∧ Ev (fun k => tidemarklaw25_over.f k (l.map ofV)) (us.map ofV) := by
  obtain ⟨q, hq, hq2, hq3⟩ := over_l0 l.length 0 (l.map ofV) (by rw [List.length_map]; omega) (Nat.zero_le _) (by rw [List.length_map]; exact hl) (fun s hs => by rw [List.take_zero] at hs; exact absurd hs (by simp))
  rw [List.length_map] at hq
  refine ⟨q.map toV, ⟨by rw [List.length_map]; omega, ?_⟩, by rw [List.length_map]; exact hq, ?_⟩
  · intro v hv
    obtain ⟨s, hs, rfl⟩ := List.mem_map.1 hv
    obtain ⟨g1, g2, g3⟩ := hq2 s hs
    refine ⟨⟨g1, g2⟩, ?_⟩
    show s.f3.data.toList.length ≤ _
    rw [g3]
    simp
  · have : (q.map toV).map ofV = q := by
      rw [List.map_map]
      conv => rhs; rw [← List.map_id q]
      apply List.map_congr_left
      intro s _
      exact ofV_toV s
    rw [this]
    exact hq3
theorem own_any (l : List V) (hl : l.length ≤ 1048577) : Ev (fun k => tidemarklaw25_own.f k (l.map ofV)) (l.map ofV) := own_ev _ (by rw [List.length_map]; omega)
theorem left_any (l : List V) (hl : l.length ≤ 1048577) : Ev (fun k => tidemarklaw25_left.f k (l.map ofV) (l.map ofV)) true := left_ev _ (by rw [List.length_map]; omega)
end Go.Proofs.YtoieckmegdcaeaaDoor.T
end
