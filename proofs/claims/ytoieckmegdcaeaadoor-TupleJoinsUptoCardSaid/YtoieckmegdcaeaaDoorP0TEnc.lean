-- Packed by a program of this session (pack.py) from texts of this claim.
import Derived.Test.YtoieckmegdcaeaaDoorP0TDec
import Derived.Test.YtoieckmegdcaeaaDoorP13
import Derived.Test.YtoieckmegdcaeaaDoorP11b
section
namespace Go.Proofs.YtoieckmegdcaeaaDoor.T
open Go.RowKit Go.Proofs.YtoieckmegdcaeaaDoorW.PrintWords Go.Proofs.YtoieckmegdcaeaaDoorW.PrintLast Go.Proofs.YtoieckmegdcaeaaDoorW.PrintMore
open Go.Proofs.YtoieckmegdcaeaaDoor.G

theorem named_eq (v : V) : tidemarkref25_named.f v.kind v.flag v.int (B v.text) = some ((named v).kind, (named v).flag, (named v).int, B (named v).text) := by
  unfold tidemarkref25_named.f named
  by_cases h1 : v.kind = 1
  · rw [if_pos h1, if_pos h1]; rfl
  · rw [if_neg h1, if_neg h1]
    by_cases h2 : v.kind = 2
    · rw [if_pos h2, if_pos h2]; rfl
    · rw [if_neg h2, if_neg h2]
      by_cases h3 : v.kind = 3
      · rw [if_pos h3, if_pos h3]
      · rw [if_neg h3, if_neg h3]; rfl
theorem rd_ofV (l : List V) (i : Nat) (v : V) (r : List V) (h : l.drop i = v :: r) : rd_T36 (l.map ofV) (i : Int) = ofV v := by
  have h0 : l[i]? = some v := by
    have := congrArg (fun q : List V => q[0]?) h
    simpa using this
  unfold rd_T36
  rw [List.getD_eq_getElem?_getD, List.getElem?_map, show ((i : Int)).toNat = i from rfl, h0]
  rfl
theorem same_testB (a b : V) : ((!(a.kind == b.kind) || (!(a.flag == b.flag) || (!(a.int == b.int) || (!((B a.text).toList == (B b.text).toList))))) = true) ↔ a ≠ b := by
  rw [B_toList, B_toList]; exact same_test a b
theorem valid_ev (l : List V) (hl : l.length ≤ 1048577) : ∀ (n i : Nat), l.length - i = n → i ≤ l.length → (∀ v ∈ l.take i, valid v) →
    Ev (fun k => tidemarkref25_Valid.l0 k (l.map ofV) (i : Int)) (if ∀ v ∈ l, valid v then 0 else 1) := by
  intro n
  induction n with
  | zero =>
    intro i hn hi hv
    obtain rfl : i = l.length := by omega
    rw [List.take_length] at hv
    rw [if_pos hv]
    refine Ev.step (f := fun _ => some 0) (fun k => ?_) (Ev.now _)
    simp only [tidemarkref25_Valid.l0]
    rw [if_neg (by rw [List.length_map]; omega)]
  | succ n ih =>
    intro i hn hi hv
    obtain ⟨v, r, hd⟩ : ∃ v r, l.drop i = v :: r := by
      cases e : l.drop i with
      | nil => rw [List.drop_eq_nil_iff] at e; omega
      | cons c q => exact ⟨c, q, rfl⟩
    have hrd := rd_ofV l i v r hd
    have hi' : i ≤ 1073741824 := by omega
    have hstep : ∀ k, tidemarkref25_Valid.l0 (k + 1) (l.map ofV) (i : Int) = if v ≠ named v then some 1 else tidemarkref25_Valid.l0 k (l.map ofV) ((i + 1 : Nat) : Int) := by
      intro k
      simp only [tidemarkref25_Valid.l0]
      rw [if_pos (by rw [List.length_map]; omega), if_pos (by omega), hrd]
      show ((tidemarkref25_named.f v.kind v.flag v.int (B v.text)).bind fun bt187 => _) = _
      rw [named_eq]
      simp only [Option.bind_some]
      have ht := same_testB v (named v)
      by_cases hne : v ≠ named v
      · rw [if_pos hne]; exact if_pos (ht.2 hne)
      · rw [if_neg hne, ← wn _ hi']; exact if_neg (fun h => hne (ht.1 h))
    have hmem : v ∈ l := by rw [← List.take_append_drop i l, hd]; exact List.mem_append_right _ (List.mem_cons_self ..)
    by_cases hne : v ≠ named v
    · rw [if_neg (fun h => hne (h v hmem))]
      exact Ev.step (fun k => by rw [hstep, if_pos hne]) (Ev.now _)
    · have hvv : valid v := Classical.not_not.1 hne
      refine Ev.step (fun k => by rw [hstep, if_neg hne]) (ih (i + 1) (by omega) (by omega) (fun u hu => ?_))
      rw [take_snocV hd] at hu
      rcases List.mem_append.1 hu with hu | hu
      · exact hv u hu
      · rw [List.mem_singleton.1 hu]; exact hvv

theorem far_eq (v : Int) (h1 : -9223372036854775808 ≤ v) (h2 : v ≤ 9223372036854775807) : tidemarkref25_far.f v = some ((v.natAbs : Nat) : Int) := by
  unfold tidemarkref25_far.f
  by_cases h : v ≥ 0
  · rw [if_pos h, wu64 (by omega) (by omega)]; congr 1; omega
  · rw [if_neg h, w64 (n := v + 1) (by omega) (by omega), w64 (by omega) (by omega), wu64 (n := -(v + 1)) (by omega) (by omega), wu64 (by omega) (by omega)]; congr 1; omega
theorem u8_ofInt {x : Int} (_h0 : 0 ≤ x) (_h1 : x < 256) : strOfNums [x] = B [UInt8.ofNat x.toNat] := rfl
theorem integer_ev (v : Int) : ∀ (m : Nat) (acc : List UInt8), m < 18446744073709551616 → acc.length + (digs m).length ≤ 8 →
    Ev (fun k => tidemarkref25_integer.l0 k v (m : Int) (B acc)) (B (UInt8.ofNat (if v < 0 then 24 - (acc.length + (digs m).length) else 24 + (acc.length + (digs m).length)) :: ((if v < 0 then flip (digs m) else digs m) ++ acc))) := by
  intro m
  induction m using Nat.strongRecOn with
  | _ m ih =>
    intro acc hm hl
    by_cases h0 : m = 0
    · subst h0
      rw [digs_zero] at hl ⊢
      rw [List.length_nil] at hl
      by_cases hv : v < 0
      · refine Ev.step (f := fun _ => some (B (UInt8.ofNat (24 - acc.length) :: acc))) (fun k => ?_) (by rw [if_pos hv, if_pos hv]; exact Ev.now _)
        simp only [tidemarkref25_integer.l0]
        rw [if_neg (by omega), if_pos hv, Option.bind_some]
        rw [w64 (by rw [B_size]; omega) (by rw [B_size]; omega), if_pos (by rw [strOfNums_size, B_size, List.length_singleton]; omega), u8_ofInt (by omega) (by omega), B_append, B_size]
        rw [show ((24 - (acc.length : Int)) % 256).toNat = 24 - acc.length by omega]; rfl
      · refine Ev.step (f := fun _ => some (B (UInt8.ofNat (24 + acc.length) :: acc))) (fun k => ?_) (by rw [if_neg hv, if_neg hv]; exact Ev.now _)
        simp only [tidemarkref25_integer.l0]
        rw [if_neg (by omega), if_neg hv, Option.bind_some]
        rw [w64 (by rw [B_size]; omega) (by rw [B_size]; omega), if_pos (by rw [strOfNums_size, B_size, List.length_singleton]; omega), u8_ofInt (by omega) (by omega), B_append, B_size]
        rw [show ((24 + (acc.length : Int)) % 256).toNat = 24 + acc.length by omega]; rfl
    · have hdl : (digs m).length = (digs (m / 256)).length + 1 := by rw [digs_pos h0, List.length_append, List.length_singleton]
      have hdiv : IntKind.u64.wrap (Int.tdiv (m : Int) 256) = ((m / 256 : Nat) : Int) := by
        rw [Int.tdiv_eq_ediv_of_nonneg (by omega), wu64 (by omega) (by omega)]; omega
      have hmod : (Int.tmod (m : Int) 256) % 256 = ((m % 256 : Nat) : Int) := by
        rw [Int.tmod_eq_emod_of_nonneg (by omega)]; omega
      by_cases hv : v < 0
      · have ih' := ih (m / 256) (by omega) ((255 - UInt8.ofNat (m % 256)) :: acc) (by omega) (by rw [List.length_cons]; omega)
        rw [if_pos hv, if_pos hv, List.length_cons, show acc.length + 1 + (digs (m / 256)).length = acc.length + (digs m).length by omega] at ih'
        have e : flip (digs m) ++ acc = flip (digs (m / 256)) ++ (255 - UInt8.ofNat (m % 256)) :: acc := by
          rw [digs_pos h0]; unfold flip; rw [List.map_append, List.append_assoc]; rfl
        rw [if_pos hv, if_pos hv, e]
        refine Ev.step (fun k => ?_) ih'
        simp only [tidemarkref25_integer.l0]
        rw [if_pos (by omega), if_pos hv, Option.bind_some, if_pos (by rw [strOfNums_size, B_size, List.length_singleton]; omega), hdiv, hmod, u8_ofInt (by omega) (by omega), B_append]
        congr 2
        show UInt8.ofNat _ :: acc = _ :: acc
        congr 1
        apply UInt8.toNat_inj.1
        rw [sub255, UInt8.toNat_ofNat', UInt8.toNat_ofNat']
        omega
      · have ih' := ih (m / 256) (by omega) (UInt8.ofNat (m % 256) :: acc) (by omega) (by rw [List.length_cons]; omega)
        rw [if_neg hv, if_neg hv, List.length_cons, show acc.length + 1 + (digs (m / 256)).length = acc.length + (digs m).length by omega] at ih'
        have e : digs m ++ acc = digs (m / 256) ++ UInt8.ofNat (m % 256) :: acc := by
          rw [digs_pos h0, List.append_assoc]; rfl
        rw [if_neg hv, if_neg hv, e]
        refine Ev.step (fun k => ?_) ih'
        simp only [tidemarkref25_integer.l0]
        rw [if_pos (by omega), if_neg hv, Option.bind_some, if_pos (by rw [strOfNums_size, B_size, List.length_singleton]; omega), hdiv, hmod, u8_ofInt (by omega) (by omega), B_append]
        rfl
theorem integer_code (v : Int) (h1 : -9223372036854775808 ≤ v) (h2 : v ≤ 9223372036854775807) : Ev (fun k => tidemarkref25_integer.f k v) (B (intCode v)) := by
  have h8 := digs8 (m := v.natAbs) (by omega)
  have h := integer_ev v v.natAbs [] (by omega) (by rw [List.length_nil]; omega)
  refine Ev.congr (g := fun k => tidemarkref25_integer.f k v) (f := fun k => tidemarkref25_integer.l0 k v (v.natAbs : Int) (B [])) (fun k => ?_) ?_
  · unfold tidemarkref25_integer.f
    rw [far_eq v h1 h2]; rfl
  · unfold intCode
    rw [List.length_nil, Nat.zero_add] at h
    by_cases hv : v < 0
    · rw [if_pos hv, if_pos hv, List.append_nil] at h; rw [if_pos hv]; exact h
    · rw [if_neg hv, if_neg hv, List.append_nil] at h; rw [if_neg hv]; exact h
theorem rtext_ev (t : List UInt8) (ht : t.length ≤ 1048576) : ∀ (n i : Nat) (acc : List UInt8), t.length - i = n → i ≤ t.length → acc.length ≤ 2 * i + 1 →
    Ev (fun k => tidemarkref25_text.l0 k (B t) (B acc) (i : Int)) (B (acc ++ esc (t.drop i) ++ [0])) := by
  intro n
  induction n with
  | zero =>
    intro i acc hn hi ha
    obtain rfl : i = t.length := by omega
    rw [List.drop_length]
    refine Ev.step (f := fun _ => some (B (acc ++ [0]))) (fun k => ?_) (by rw [show acc ++ esc [] ++ [0] = acc ++ [0] by rw [show esc [] = [] from rfl, List.append_nil]]; exact Ev.now _)
    simp only [tidemarkref25_text.l0]
    rw [if_neg (by rw [B_size]; omega), if_pos (by rw [B_size]; omega), ← B_append]
    rfl
  | succ n ih =>
    intro i acc hn hi ha
    obtain ⟨c, r, hd⟩ : ∃ v r, t.drop i = v :: r := by
      cases e : t.drop i with
      | nil => rw [List.drop_eq_nil_iff] at e; omega
      | cons c q => exact ⟨c, q, rfl⟩
    obtain ⟨h1, h2, h3⟩ := drop_cons_lt hd
    have hbt := bt_at_B hd
    have hi' : i ≤ 1073741824 := by omega
    have hex : (B t).extract ((i : Int)).toNat (((i + 1 : Nat) : Int)).toNat = B [c] := by
      show (B t).extract i (i + 1) = _
      rw [B_extract, List.drop_take, hd, show i + 1 - i = 1 by omega]; rfl
    have hsz : (B [c]).size = 1 := by rw [B_size]; rfl
    by_cases hc : c = 0
    · have hb0 : bt (B t) (i : Int) = 0 := by rw [hbt, hc]; rfl
      clear hbt
      have ih' := ih (i + 1) (acc ++ [c] ++ [255]) (by omega) (by omega) (by rw [List.length_append, List.length_append, List.length_singleton, List.length_singleton]; omega)
      have e : acc ++ esc (c :: r) ++ [0] = acc ++ [c] ++ [255] ++ esc (t.drop (i + 1)) ++ [0] := by
        rw [h2, esc, if_pos hc, hc]; rw [List.append_assoc, List.append_assoc, List.append_assoc, List.append_assoc]; rfl
      rw [hd, e]
      refine Ev.step (fun k => ?_) ih'
      simp only [tidemarkref25_text.l0]
      rw [if_pos (by rw [B_size]; omega), if_pos (by omega), wn _ hi', if_pos (by omega), if_pos (by rw [B_size]; omega), hex, if_pos (by rw [B_size, hsz]; omega), if_pos hb0, if_pos (by rw [B_append, B_size, List.length_append, List.length_singleton]; omega), B_append, show (⟨#[255]⟩ : ByteArray) = B [255] from rfl, B_append]
    · have ih' := ih (i + 1) (acc ++ [c]) (by omega) (by omega) (by rw [List.length_append, List.length_singleton]; omega)
      have e : acc ++ esc (c :: r) ++ [0] = acc ++ [c] ++ esc (t.drop (i + 1)) ++ [0] := by
        rw [h2, esc, if_neg hc]; rw [List.append_assoc, List.append_assoc, List.append_assoc]; rfl
      rw [hd, e]
      refine Ev.step (fun k => ?_) ih'
      simp only [tidemarkref25_text.l0]
      rw [if_pos (by rw [B_size]; omega), if_pos (by omega), wn _ hi', if_pos (by omega), if_pos (by rw [B_size]; omega), hex, if_pos (by rw [B_size, hsz]; omega), if_neg (by rw [hbt]; exact u8_pos hc), B_append]
theorem code_ev (v : V) (hr : inRange v) (ht : v.text.length ≤ 1048576) : Ev (fun k => tidemarkref25_code.f k v.kind v.flag v.int (B v.text)) (B (code v)) := by
  unfold code
  by_cases h1 : v.kind = 1
  · rw [if_pos h1]
    cases hf : v.flag
    · exact Ev.congr (fun k => by unfold tidemarkref25_code.f; rw [if_pos h1, if_neg (by decide)]; rfl) (Ev.now _)
    · exact Ev.congr (fun k => by unfold tidemarkref25_code.f; rw [if_pos h1, if_pos rfl]; rfl) (Ev.now _)
  · rw [if_neg h1]
    by_cases h2 : v.kind = 2
    · rw [if_pos h2]
      exact Ev.congr (fun k => by unfold tidemarkref25_code.f; rw [if_neg h1, if_pos h2]) (Ev.bind (integer_code v.int hr.1 hr.2) (Ev.now _))
    · rw [if_neg h2]
      by_cases h3 : v.kind = 3
      · rw [if_pos h3]
        have h := rtext_ev v.text ht v.text.length 0 [48] (by omega) (by omega) (by rw [List.length_singleton]; omega)
        rw [List.drop_zero] at h
        exact Ev.congr (fun k => by unfold tidemarkref25_code.f; rw [if_neg h1, if_neg h2, if_pos h3]) (Ev.bind (g := fun k => tidemarkref25_text.f k (B v.text)) h (Ev.now _))
      · rw [if_neg h3]
        exact Ev.congr (fun k => by unfold tidemarkref25_code.f; rw [if_neg h1, if_neg h2, if_neg h3]; rfl) (Ev.now _)
/-- Bounds for what is encoded. -/
def Small (l : List V) : Prop := l.length ≤ 1048577 ∧ ∀ v ∈ l, inRange v ∧ v.text.length ≤ 1048576
theorem enc_length (l : List V) (h : ∀ v ∈ l, inRange v ∧ v.text.length ≤ 1048576) : (enc l).length ≤ 2097161 * l.length := by
  induction l with
  | nil => simp [enc]
  | cons v l ih =>
    have h1 := code_length v (h v (by simp)).1
    have h2 := (h v (by simp)).2
    have h3 := ih (fun u hu => h u (by simp [hu]))
    rw [enc_cons, List.length_append, List.length_cons, Nat.mul_add]
    omega
theorem encode_loop (l : List V) (hs : Small l) : ∀ (n i : Nat), l.length - i = n → i ≤ l.length →
    Ev (fun k => tidemarkref25_Encode.l0 k (l.map ofV) (B (enc (l.take i))) (i : Int)) (B (enc l), 0) := by
  intro n
  induction n with
  | zero =>
    intro i hn hi
    obtain rfl : i = l.length := by omega
    rw [List.take_length]
    refine Ev.step (f := fun _ => some (B (enc l), 0)) (fun k => ?_) (Ev.now _)
    simp only [tidemarkref25_Encode.l0]
    rw [if_neg (by rw [List.length_map]; omega)]
  | succ n ih =>
    intro i hn hi
    have hln := hs.1
    obtain ⟨v, r, hd⟩ : ∃ v r, l.drop i = v :: r := by
      cases e : l.drop i with
      | nil => rw [List.drop_eq_nil_iff] at e; omega
      | cons c q => exact ⟨c, q, rfl⟩
    have hrd := rd_ofV l i v r hd
    have hi' : i ≤ 1073741824 := by omega
    have hmem : v ∈ l := by rw [← List.take_append_drop i l, hd]; exact List.mem_append_right _ (List.mem_cons_self ..)
    have hv := hs.2 v hmem
    have hc := code_ev v hv.1 hv.2
    have e : l.take (i + 1) = l.take i ++ [v] := take_snocV hd
    have ih' := ih (i + 1) (by omega) (by omega)
    rw [e, enc_append, show enc [v] = code v by simp [enc], ← B_append] at ih'
    have hb1 := enc_length (l.take i) (fun u hu => hs.2 u (List.mem_of_mem_take hu))
    have hb2 := code_length v hv.1
    have hb3 : (l.take i).length ≤ 1048577 := by rw [List.length_take]; omega
    refine Ev.step (f := fun k => (tidemarkref25_code.f k v.kind v.flag v.int (B v.text)).bind fun t209 => (if (B (enc (l.take i))).size + t209.size ≤ 9223372036854775807 then (tidemarkref25_Encode.l0 k (l.map ofV) (B (enc (l.take i)) ++ t209) ((i + 1 : Nat) : Int)) else (none))) (fun k => ?_) (Ev.bind hc ?_)
    · simp only [tidemarkref25_Encode.l0]
      rw [if_pos (by rw [List.length_map]; omega), if_pos (by omega), hrd, wn _ hi']
      rfl
    · refine Ev.congr (fun k => ?_) ih'
      rw [if_pos (by rw [B_size, B_size]; omega)]
theorem encode_ev (l : List V) (hs : Small l) : Ev (fun k => tidemarkref25_Encode.f k (l.map ofV)) (if ∀ v ∈ l, valid v then (B (enc l), 0) else (B [], 1)) := by
  have h1 := valid_ev l hs.1 l.length 0 (by omega) (by omega) (fun v hv => by rw [List.take_zero] at hv; exact absurd hv (by simp))
  have h2 := encode_loop l hs l.length 0 (by omega) (by omega)
  rw [List.take_zero] at h2
  refine Ev.bind (g := fun k => tidemarkref25_Valid.f k (l.map ofV)) h1 ?_
  by_cases hv : ∀ v ∈ l, valid v
  · rw [if_pos hv, if_pos hv]
    exact Ev.congr (fun k => by rw [if_pos rfl]; rfl) h2
  · rw [if_neg hv, if_neg hv]
    exact Ev.congr (fun k => by rw [if_neg (by decide)]; rfl) (Ev.now _)
/-- A list is the same as itself. -/
theorem same_ev (l : List V) (hl : l.length ≤ 1048577) : Ev (fun k => tidemarkref25_Same.f k (l.map ofV) (l.map ofV)) true := by
  have loop : ∀ (n i : Nat), l.length - i = n → i ≤ l.length → Ev (fun k => tidemarkref25_Same.l0 k (l.map ofV) (l.map ofV) (i : Int)) true := by
    intro n
    induction n with
    | zero =>
      intro i hn hi
      obtain rfl : i = l.length := by omega
      refine Ev.step (f := fun _ => some true) (fun k => ?_) (Ev.now _)
      simp only [tidemarkref25_Same.l0]
      rw [if_neg (by rw [List.length_map]; omega)]
    | succ n ih =>
      intro i hn hi
      obtain ⟨v, r, hd⟩ : ∃ v r, l.drop i = v :: r := by
        cases e : l.drop i with
        | nil => rw [List.drop_eq_nil_iff] at e; omega
        | cons c q => exact ⟨c, q, rfl⟩
      have hrd := rd_ofV l i v r hd
      have hi' : i ≤ 1073741824 := by omega
      refine Ev.step (fun k => ?_) (ih (i + 1) (by omega) (by omega))
      simp only [tidemarkref25_Same.l0]
      rw [if_pos (by rw [List.length_map]; omega), if_pos (by omega), if_pos (by rw [List.length_map]; omega), hrd, wn _ hi']
      exact if_neg (fun h => (same_testB v v).1 h rfl)
  exact Ev.congr (fun k => by unfold tidemarkref25_Same.f; rw [if_pos rfl]; rfl) (loop l.length 0 (by omega) (by omega))
end Go.Proofs.YtoieckmegdcaeaaDoor.T
end
