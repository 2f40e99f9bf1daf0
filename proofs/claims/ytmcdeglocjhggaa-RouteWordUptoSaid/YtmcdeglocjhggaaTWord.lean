/-
  RouteWord's plain law: words and texts are one to one; a word has no blank.
-/
import Derived.Test.YtmcdeglocjhggaaGf3
import Derived.Test.YtmcdeglocjhggaaTByt
namespace Go.Proofs.Ytmcdeglocjhggaa.T
open Go.RowKit Go.Proofs.YtmcdeglocjhggaaW.PrintWords Go.Proofs.YtmcdeglocjhggaaW.PrintLast Go.Proofs.YtmcdeglocjhggaaW.PrintMore
open G (plain dig escW wordL)
set_option linter.unusedVariables false
set_option linter.unusedSimpArgs false

/-- the sixteen digits. -/
abbrev D16 : List UInt8 := [48, 49, 50, 51, 52, 53, 54, 55, 56, 57, 97, 98, 99, 100, 101, 102]
def idx (c : UInt8) : Int := Lib.indexByte D16 c
/-- two digits' byte. -/
def two (h l : UInt8) : UInt8 := (idx h * 16 + idx l).toNat.toUInt8
def okTwo (h l : UInt8) : Bool := decide (0 ≤ idx h) && (decide (0 ≤ idx l) && !plain (two h l))
/-- what a word reads as. -/
def un : List UInt8 → Option (List UInt8)
  | [] => some []
  | c :: r => if plain c = true then (un r).map (c :: ·) else if c ≠ 37 then none else
    match r with
    | h :: l :: r' => if okTwo h l = true then (un r').map (two h l :: ·) else none
    | _ => none

theorem un_cons (c : UInt8) (r : List UInt8) : un (c :: r) = if plain c = true then (un r).map (c :: ·) else if c ≠ 37 then none else
    match r with
    | h :: l :: r' => if okTwo h l = true then (un r').map (two h l :: ·) else none
    | _ => none := by
  match r with
  | [] => simp only [un]
  | [_] => simp only [un]
  | _ :: _ :: _ => rw [un]
theorem u8all {P : UInt8 → Prop} (h : ∀ n : Fin 256, P n.val.toUInt8) (c : UInt8) : P c := by
  have := h ⟨c.toNat, c.toNat_lt⟩
  simpa using this
theorem idx_lo : ∀ c : UInt8, -1 ≤ idx c ∧ idx c ≤ 15 := u8all (P := fun c => -1 ≤ idx c ∧ idx c ≤ 15) (by decide +kernel)
theorem dig_idx : ∀ c : UInt8, idx c = -1 ∨ dig (idx c).toNat = c := u8all (P := fun c => idx c = -1 ∨ dig (idx c).toNat = c) (by decide +kernel)
theorem idx_dig : ∀ n : Fin 16, idx (dig n.val) = (n.val : Int) := by decide +kernel
theorem two_esc : ∀ c : UInt8, two (dig (c.toNat / 16)) (dig (c.toNat % 16)) = c := u8all (P := fun c => two (dig (c.toNat / 16)) (dig (c.toNat % 16)) = c) (by decide +kernel)
theorem esc_range : ∀ c : UInt8, ∀ x ∈ escW c, 33 ≤ x.toNat ∧ x.toNat ≤ 126 := u8all (P := fun c => ∀ x ∈ escW c, 33 ≤ x.toNat ∧ x.toNat ≤ 126) (by decide +kernel)
theorem plain37 : plain 37 = false := by decide +kernel
theorem bits16 : ∀ a b : Fin 16, Go.bits .or .i64 (wrap64 ((a.val : Int) * 16)) (b.val : Int) % 256 = (a.val : Int) * 16 + (b.val : Int) := by decide +kernel
theorem two_nat : ∀ a b : Fin 16, ((a.val : Int) * 16 + (b.val : Int)).toNat.toUInt8.toNat = a.val * 16 + b.val := by decide +kernel

theorem un_plain {c : UInt8} {r : List UInt8} (h : plain c = true) : un (c :: r) = (un r).map (c :: ·) := by
  rw [un_cons, if_pos h]
theorem un_two {h l : UInt8} {r : List UInt8} (ho : okTwo h l = true) : un (37 :: h :: l :: r) = (un r).map (two h l :: ·) := by
  rw [un_cons, if_neg (by rw [plain37]; decide), if_neg (by simp)]
  show (if okTwo h l = true then _ else none) = _
  rw [if_pos ho]

theorem un_word : ∀ l : List UInt8, un (wordL l) = some l
  | [] => rfl
  | c :: r => by
    have ih := un_word r
    have e : wordL (c :: r) = escW c ++ wordL r := rfl
    rw [e]
    cases hp : plain c with
    | true =>
      have e2 : escW c = [c] := if_pos hp
      rw [e2, List.singleton_append, un_plain hp, ih]
      rfl
    | false =>
      have e2 : escW c = [37, dig (c.toNat / 16), dig (c.toNat % 16)] := if_neg (by rw [hp]; decide)
      have hc := c.toNat_lt
      have i1 : idx (dig (c.toNat / 16)) = ((c.toNat / 16 : Nat) : Int) := idx_dig ⟨c.toNat / 16, by omega⟩
      have i2 : idx (dig (c.toNat % 16)) = ((c.toNat % 16 : Nat) : Int) := idx_dig ⟨c.toNat % 16, by omega⟩
      have ho : okTwo (dig (c.toNat / 16)) (dig (c.toNat % 16)) = true := by
        unfold okTwo
        rw [two_esc, hp, i1, i2, decide_eq_true (Int.natCast_nonneg _), decide_eq_true (Int.natCast_nonneg _)]
        rfl
      rw [e2]
      show un (37 :: dig (c.toNat / 16) :: dig (c.toNat % 16) :: wordL r) = _
      rw [un_two ho, ih, two_esc]
      rfl

theorem word_un : ∀ (n : Nat) (t r : List UInt8), t.length ≤ n → un t = some r → wordL r = t ∧ r.length ≤ t.length
  | _, [], r, _, h => by
    obtain rfl := Option.some.inj h
    exact ⟨rfl, Nat.le_refl _⟩
  | 0, c :: q, r, hn, h => by simp at hn
  | n + 1, c :: q, r, hn, h => by
    have hq : q.length ≤ n := by rw [List.length_cons] at hn; omega
    cases hp : plain c with
    | true =>
      rw [un_plain hp] at h
      obtain ⟨x, hx, rfl⟩ := Option.map_eq_some_iff.mp h
      obtain ⟨h1, h2⟩ := word_un n q x hq hx
      have e : wordL (c :: x) = escW c ++ wordL x := rfl
      have e2 : escW c = [c] := if_pos hp
      rw [e, e2, h1]
      exact ⟨rfl, by rw [List.length_cons, List.length_cons]; omega⟩
    | false =>
      rw [un_cons, if_neg (by rw [hp]; decide)] at h
      by_cases h37 : c ≠ 37
      · rw [if_pos h37] at h; exact absurd h (by simp)
      · rw [if_neg h37] at h
        have hc : c = 37 := by simpa using h37
        subst hc
        match q, h, hq with
        | [], h, hq => exact absurd h (by simp)
        | [_], h, hq => exact absurd h (by simp)
        | a :: b :: q', h, hq =>
          simp only at h
          by_cases ho : okTwo a b = true
          · rw [if_pos ho] at h
            obtain ⟨x, hx, rfl⟩ := Option.map_eq_some_iff.mp h
            rw [List.length_cons, List.length_cons] at hq
            obtain ⟨h1, h2⟩ := word_un n q' x (by omega) hx
            unfold okTwo at ho
            rw [Bool.and_eq_true, Bool.and_eq_true] at ho
            have o1 : 0 ≤ idx a := of_decide_eq_true ho.1
            have o2 : 0 ≤ idx b := of_decide_eq_true ho.2.1
            have o3 : plain (two a b) = false := by have := ho.2.2; simpa using this
            have ra := idx_lo a
            have rb := idx_lo b
            have da := (dig_idx a).resolve_left (by omega)
            have db := (dig_idx b).resolve_left (by omega)
            have ea : ((idx a).toNat : Int) = idx a := by omega
            have eb : ((idx b).toNat : Int) = idx b := by omega
            have tn : (two a b).toNat = (idx a).toNat * 16 + (idx b).toNat := by
              have := two_nat ⟨(idx a).toNat, by omega⟩ ⟨(idx b).toNat, by omega⟩
              simp only at this
              rw [ea, eb] at this
              exact this
            have q1 : (two a b).toNat / 16 = (idx a).toNat := by rw [tn]; omega
            have q2 : (two a b).toNat % 16 = (idx b).toNat := by rw [tn]; omega
            have e : wordL (two a b :: x) = escW (two a b) ++ wordL x := rfl
            have e2 : escW (two a b) = [37, dig ((two a b).toNat / 16), dig ((two a b).toNat % 16)] := if_neg (by rw [o3]; decide)
            rw [e, e2, q1, q2, da, db, h1]
            refine ⟨rfl, ?_⟩
            rw [List.length_cons, List.length_cons, List.length_cons, List.length_cons]; omega
          · rw [if_neg ho] at h; exact absurd h (by simp)
theorem word_range (l : List UInt8) : ∀ x ∈ wordL l, 33 ≤ x.toNat ∧ x.toNat ≤ 126 := by
  intro x hx
  obtain ⟨c, _, hc⟩ := List.mem_flatMap.mp hx
  exact esc_range c x hc

theorem wk (i j : Nat) (h : i ≤ 1073741824) (hj : j ≤ 8) : wrap64 ((i : Int) + (j : Int)) = ((i + j : Nat) : Int) := by rw [w64] <;> omega
theorem idx_f (c : UInt8) : G.strings_IndexByte.f ⟨#[48, 49, 50, 51, 52, 53, 54, 55, 56, 57, 97, 98, 99, 100, 101, 102]⟩ (c.toNat : Int) = some (idx c) := by
  unfold G.strings_IndexByte.f
  rw [Int.toNat_natCast]
  have e : c.toNat.toUInt8 = c := by simp
  rw [e]
  rfl
theorem bits2 {a b : UInt8} (o1 : 0 ≤ idx a) (o2 : 0 ≤ idx b) : Go.bits .or .i64 (wrap64 (idx a * 16)) (idx b) % 256 = ((two a b).toNat : Int) := by
  have ra := idx_lo a
  have rb := idx_lo b
  have ea : ((idx a).toNat : Int) = idx a := by omega
  have eb : ((idx b).toNat : Int) = idx b := by omega
  have h1 := bits16 ⟨(idx a).toNat, by omega⟩ ⟨(idx b).toNat, by omega⟩
  have h2 := two_nat ⟨(idx a).toNat, by omega⟩ ⟨(idx b).toNat, by omega⟩
  simp only at h1 h2
  rw [ea, eb] at h1 h2
  have h3 : (two a b).toNat = (idx a).toNat * 16 + (idx b).toNat := h2
  rw [h1, h3]
  omega

/-- what Unword's loop answers. -/
def ans (acc : List UInt8) : Option (List UInt8) → ByteArray × Int
  | some t => (B (acc ++ t), 0)
  | none => (B [], 120)
theorem ans_map (acc : List UInt8) (c : UInt8) (o : Option (List UInt8)) : ans acc (o.map (c :: ·)) = ans (acc ++ [c]) o := by
  cases o with
  | none => rfl
  | some t => show (B (acc ++ c :: t), (0 : Int)) = (B (acc ++ [c] ++ t), 0); rw [List.append_assoc]; rfl

theorem l0_un (l : List UInt8) (hl : l.length ≤ 1073741820) : ∀ (n i : Nat) (acc : List UInt8) (k : Nat), l.length - i ≤ n → i ≤ l.length → acc.length ≤ i → 2 * n + 2 ≤ k →
    G.route_Unword.l0 k (B l) (nums8 acc) (i : Int) = some (ans acc (un (l.drop i)))
  | n, i, acc, 0, _, _, _, hk => absurd hk (by omega)
  | n, i, acc, k + 1, hn, hi, ha, hk => by
    rw [G.route_Unword.l0, B_size]
    cases hd : l.drop i with
    | nil =>
      have hge : l.length ≤ i := List.drop_eq_nil_iff.mp hd
      rw [if_neg (by omega), strOf_nums8]
      show _ = some (B (acc ++ []), (0 : Int))
      rw [List.append_nil]
    | cons c r =>
      obtain ⟨h1, h2, h3⟩ := drop_cons_lt hd
      rw [if_pos (by omega), if_pos (Int.natCast_nonneg _), bt_at_B hd, G.itself_plain, Option.bind_some]
      obtain ⟨n', rfl⟩ : ∃ n', n = n' + 1 := ⟨n - 1, by omega⟩
      cases hp : plain c with
      | true =>
        rw [if_pos rfl, if_pos (by rw [nums8_length]; omega), un_plain hp, ans_map, ← h2]
        have e1 : wrap64 ((i : Int) + 1) = ((i + 1 : Nat) : Int) := wk i 1 (by omega) (by omega)
        rw [e1]
        have := l0_un l hl n' (i + 1) (acc ++ [c]) k (by omega) (by omega) (by rw [List.length_append, List.length_singleton]; omega) (by omega)
        rw [nums8_append, nums8_one] at this
        exact this
      | false =>
        rw [if_neg (show ¬ (false = true) by decide), un_cons, if_neg (show ¬ (plain c = true) by rw [hp]; decide)]
        obtain ⟨k', rfl⟩ : ∃ k', k = k' + 1 := ⟨k - 1, by omega⟩
        by_cases h37 : c = 37
        · subst h37
          rw [if_pos (show ((37 : UInt8).toNat : Int) = 37 from rfl), if_neg (by simp), G.route_Unword.j1]
          have e2 : wrap64 ((i : Int) + 2) = ((i + 2 : Nat) : Int) := wk i 2 (by omega) (by omega)
          have e1 : wrap64 ((i : Int) + 1) = ((i + 1 : Nat) : Int) := wk i 1 (by omega) (by omega)
          rw [e2, e1]
          clear e1 e2
          match r, h2, h3, hd with
          | [], h2, h3, hd =>
            have h3' : i + 1 = l.length := by rw [List.length_nil] at h3; omega
            rw [if_pos (decide_eq_true (by omega))]
            rfl
          | [_], h2, h3, hd =>
            have h3' : i + 2 = l.length := by rw [List.length_singleton] at h3; omega
            rw [if_pos (decide_eq_true (by omega))]
            rfl
          | a :: b :: r', h2, h3, hd =>
            rw [List.length_cons, List.length_cons] at h3
            obtain ⟨g1, g2, g3⟩ := drop_cons_lt h2
            obtain ⟨f1, f2, f3⟩ := drop_cons_lt g2
            have A1 : l.length - (i + 3) ≤ n' := by omega
            have A2 : i + 3 ≤ l.length := by omega
            have A3 : 2 * n' + 2 ≤ k' := by omega
            rw [if_neg (by rw [decide_eq_true_iff]; omega), if_pos (by omega), if_pos (by rw [B_size]; omega), bt_at_B h2, idx_f, Option.bind_some, if_pos (by omega), if_pos (by rw [B_size]; omega), bt_at_B g2, idx_f, Option.bind_some]
            show _ = some (ans acc (if okTwo a b = true then (un r').map (two a b :: ·) else none))
            by_cases o1 : 0 ≤ idx a
            · rw [if_neg (by omega)]
              by_cases o2 : 0 ≤ idx b
              · rw [if_neg (by omega), bits2 o1 o2, G.itself_plain, Option.bind_some]
                cases o3 : plain (two a b) with
                | true =>
                  have ho : okTwo a b = false := by unfold okTwo; rw [o3]; simp
                  rw [if_pos rfl, if_neg (by rw [ho]; decide)]
                  rfl
                | false =>
                  have ho : okTwo a b = true := by unfold okTwo; rw [o3, decide_eq_true o1, decide_eq_true o2]; rfl
                  rw [if_neg (by decide), if_pos (by rw [nums8_length]; omega), if_pos ho, ans_map, ← f2]
                  have e3 : wrap64 (((i + 2 : Nat) : Int) + 1) = ((i + 3 : Nat) : Int) := wk (i + 2) 1 (by omega) (by omega)
                  rw [e3]
                  have := l0_un l hl n' (i + 3) (acc ++ [two a b]) k' A1 A2 (by rw [List.length_append, List.length_singleton]; exact Nat.add_le_add ha (by decide)) A3
                  rw [nums8_append, nums8_one] at this
                  exact this
              · have ho : okTwo a b = false := by unfold okTwo; rw [decide_eq_false o2]; simp
                rw [if_pos (by omega), if_neg (by rw [ho]; decide)]
                rfl
            · have ho : okTwo a b = false := by unfold okTwo; rw [decide_eq_false o1]; simp
              rw [if_pos (by omega), if_neg (by rw [ho]; decide)]
              rfl
        · have h37' : ¬ (c.toNat : Int) = 37 := by
            intro he
            apply h37
            apply UInt8.toNat_inj.1
            have e0 : (37 : UInt8).toNat = 37 := rfl
            omega
          rw [if_neg h37', if_pos h37, G.route_Unword.j1, if_pos rfl]
          rfl

/-- Unword. -/
def U (l : List UInt8) : ByteArray × Int := if l = [37] then (B [], 0) else if l = [] then (B [], 120) else ans [] (un l)
theorem unword_f (k : Nat) (l : List UInt8) (hl : l.length ≤ 1073741820) (hk : 2 * l.length + 2 ≤ k) : G.route_Unword.f k (B l) = some (U l) := by
  unfold G.route_Unword.f U
  rw [B_toList]
  by_cases h1 : l = [37]
  · rw [if_pos h1, if_pos h1]; rfl
  · rw [if_neg h1, if_neg h1]
    by_cases h2 : l = []
    · rw [if_pos h2, if_pos h2]; rfl
    · rw [if_neg h2, if_neg h2]
      exact l0_un l hl l.length 0 [] k (by omega) (by omega) (Nat.le_refl _) hk

/-- Word. -/
def Wd (l : List UInt8) : List UInt8 := if l = [] then [37] else wordL l
theorem word_f (k : Nat) (l : List UInt8) (hl : l.length ≤ 1073741820) : G.route_Word.f k (B l) = some (B (Wd l)) := by
  unfold G.route_Word.f Wd
  rw [B_toList]
  by_cases h1 : l = []
  · rw [if_pos h1, if_pos h1]; rfl
  · rw [if_neg h1, if_neg h1, if_pos (by rw [B_size]; omega)]
    rfl
theorem U_Wd (l : List UInt8) : U (Wd l) = (B l, 0) := by
  unfold U Wd
  by_cases h1 : l = []
  · subst h1; rw [if_pos rfl, if_pos rfl]
  · rw [if_neg h1]
    have h2 : wordL l ≠ [37] := by
      intro he
      have := un_word l
      rw [he] at this
      have e : un [37] = none := by decide +kernel
      rw [e] at this
      exact absurd this (by simp)
    have h3 : wordL l ≠ [] := by
      intro he
      have := un_word l
      rw [he] at this
      exact h1 (Option.some.inj this).symm
    rw [if_neg h2, if_neg h3, un_word]
    rfl
theorem Wd_U (l : List UInt8) : (∃ t, U l = (B t, 0) ∧ Wd t = l ∧ t.length ≤ l.length) ∨ U l = (B [], 120) := by
  unfold U
  by_cases h1 : l = [37]
  · subst h1; left; exact ⟨[], by rw [if_pos rfl], rfl, by simp⟩
  · rw [if_neg h1]
    by_cases h2 : l = []
    · right; rw [if_pos h2]
    · rw [if_neg h2]
      cases hu : un l with
      | none => right; rfl
      | some t =>
        left
        obtain ⟨e, hlen⟩ := word_un l.length l t (Nat.le_refl _) hu
        refine ⟨t, rfl, ?_, hlen⟩
        unfold Wd
        have ht : t ≠ [] := by
          intro ht
          subst ht
          exact h2 e.symm
        rw [if_neg ht, e]
theorem Wd_range (l : List UInt8) : ∀ x ∈ Wd l, 33 ≤ x.toNat ∧ x.toNat ≤ 126 := by
  unfold Wd
  split
  · intro x hx
    rw [List.mem_singleton] at hx
    subst hx
    decide
  · exact word_range l
theorem Wd_len (l : List UInt8) : Wd l ≠ [] ∧ (Wd l).length ≤ 3 * l.length + 1 := by
  have hu := U_Wd l
  refine ⟨?_, ?_⟩
  · intro he
    rw [he] at hu
    have : U [] = (B [], 120) := rfl
    rw [this] at hu
    exact absurd (Prod.mk.inj hu).2 (by decide)
  · unfold Wd
    split
    · rw [List.length_singleton]; omega
    · have := G.wordL_len l; omega

theorem law_l0 (s : ByteArray) (wl : List UInt8) (hr : ∀ x ∈ wl, 33 ≤ x.toNat ∧ x.toNat ≤ 126) (hl : wl.length ≤ 1073741820) : ∀ (n i k : Nat), i + n = wl.length →
    G.tidemarklaw12_RouteWord.l0 (k + n) s (B wl) (i : Int) = G.tidemarklaw12_RouteWord.l0 k s (B wl) (wl.length : Int)
  | 0, i, k, h => by
    have : i = wl.length := by omega
    subst this
    rfl
  | n + 1, i, k, h => by
    have hi : i < wl.length := by omega
    have hd : wl.drop i = wl[i] :: wl.drop (i + 1) := List.drop_eq_getElem_cons hi
    have hx := hr wl[i] (List.getElem_mem hi)
    have e1 : wrap64 ((i : Int) + 1) = ((i + 1 : Nat) : Int) := wk i 1 (by omega) (by omega)
    show G.tidemarklaw12_RouteWord.l0 (k + n + 1) s (B wl) (i : Int) = _
    rw [G.tidemarklaw12_RouteWord.l0, B_size, if_pos (by omega), if_pos (Int.natCast_nonneg _), bt_at_B hd, if_neg (by omega), if_neg (by omega), e1]
    exact law_l0 s wl hr hl n (i + 1) k (by omega)

theorem law_j2 (k : Nat) (l : List UInt8) (hl : l.length ≤ 1048576) (hk : 2 * l.length + 3 ≤ k) : G.tidemarklaw12_RouteWord.j2 k (B l) false = some true := by
  obtain ⟨k', rfl⟩ : ∃ k', k = k' + 1 := ⟨k - 1, by omega⟩
  rw [G.tidemarklaw12_RouteWord.j2, if_neg (by decide), unword_f k' l (by omega) (by omega), Option.bind_some]
  rcases Wd_U l with ⟨t, hU, hW, ht⟩ | hU
  · rw [hU, if_pos rfl]
    show (G.route_Word.f k' (B t)).bind _ = _
    rw [word_f k' t (by omega), Option.bind_some, hW, B_toList]
    simp
  · rw [hU]
    rw [if_neg (show ¬ ((B [], (120 : Int)).2 = 0) by decide), if_pos (show (B [], (120 : Int)).1.toList = [] by rw [B_toList])]
    rfl

theorem law_word (l : List UInt8) (hl : l.length ≤ 1048576) : ∃ k, G.tidemarklaw12_RouteWord.f k (B l) = some true := by
  have hlen := (Wd_len l).2
  refine ⟨(2 * (3 * l.length + 1) + 100) + (Wd l).length + 1, ?_⟩
  unfold G.tidemarklaw12_RouteWord.f
  rw [word_f _ l (by omega), Option.bind_some, B_toList, if_neg (Wd_len l).1]
  have e3 : wrap64 ((wrap64 (3 * ((B l).size : Int))) + 1) = 3 * (l.length : Int) + 1 := by
    rw [B_size, w64 (n := 3 * (l.length : Int)) (by omega) (by omega), w64 (by omega) (by omega)]
  rw [e3, B_size, G.tidemarklaw12_RouteWord.j0, if_neg (by rw [decide_eq_true_iff]; omega)]
  have h0 := law_l0 (B l) (Wd l) (Wd_range l) (by omega) (Wd l).length 0 (2 * (3 * l.length + 1) + 100) (by omega)
  refine Eq.trans h0 ?_
  show G.tidemarklaw12_RouteWord.l0 (2 * (3 * l.length + 1) + 99 + 1) (B l) (B (Wd l)) _ = _
  rw [G.tidemarklaw12_RouteWord.l0, B_size, if_neg (by omega), unword_f _ (Wd l) (by omega) (by omega), Option.bind_some, U_Wd, if_pos rfl]
  exact law_j2 _ l hl (by omega)
end Go.Proofs.Ytmcdeglocjhggaa.T
