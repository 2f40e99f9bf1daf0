/-
  tidemarkref25.Decode as printed answers what the plain 'dec' does, for every text of at most 2^20 bytes.
-/
import Derived.Test.YtoieckmegdcaeaaTDec2
import Derived.Test.YtoieckmegdcaeaaTEnc
import Derived.Test.YtoieckmegdcaeaaGf11
namespace Go.Proofs.Ytoieckmegdcaeaa.T
open Go.RowKit Go.Proofs.YtoieckmegdcaeaaW.PrintWords Go.Proofs.YtoieckmegdcaeaaW.PrintLast Go.Proofs.YtoieckmegdcaeaaW.PrintMore
open Go.Proofs.Ytoieckmegdcaeaa.G

theorem drop_ex {l : List UInt8} {i : Nat} (h : i < l.length) : ∃ c r, l.drop i = c :: r := by
  cases e : l.drop i with
  | nil => rw [List.drop_eq_nil_iff] at e; omega
  | cons c r => exact ⟨c, r, rfl⟩
theorem gtext_ev (b : List UInt8) (hb : b.length ≤ 1048576) : ∀ (n i : Nat) (acc : List UInt8), b.length - i = n → 1 ≤ i → i ≤ b.length → acc.length ≤ i →
    ∃ (t : List UInt8) (q : Nat), Ev (fun k => tidemarkref25_guessText.l0 k (B b) (B acc) (i : Int)) (3, false, 0, B t, (q : Int)) ∧ 1 ≤ q ∧ q ≤ b.length ∧ t.length ≤ b.length ∧
      ∀ p, untext (b.drop i) = some p → t = acc ++ p.1 ∧ q + p.2.length = b.length := by
  intro n
  induction n using Nat.strongRecOn with
  | _ n ih =>
    intro i acc hn h1i hi ha
    rcases Nat.lt_or_ge i b.length with hlt | hge
    · obtain ⟨c, r, hd⟩ := drop_ex hlt
      obtain ⟨h1, h2, h3⟩ := drop_cons_lt hd
      have hbt := bt_at_B hd
      have hi' : i ≤ 1073741824 := by omega
      have hex : (B b).extract ((i : Int)).toNat (((i + 1 : Nat) : Int)).toNat = B [c] := by
        show (B b).extract i (i + 1) = _
        rw [B_extract, List.drop_take, hd, show i + 1 - i = 1 by omega]; rfl
      have hsz : (B [c]).size = 1 := by rw [B_size]; rfl
      have hj : ∀ k, tidemarkref25_guessText.j1 (k + 1) (B b) (B acc) (i : Int) false = if bt (B b) (i : Int) = 0 then (tidemarkref25_guessText.l0 k (B b) (B (acc ++ [c])) (wrap64 (((i + 1 : Nat) : Int) + 1))) else (tidemarkref25_guessText.l0 k (B b) (B (acc ++ [c])) ((i + 1 : Nat) : Int)) := by
        intro k
        simp only [tidemarkref25_guessText.j1]
        rw [if_neg (by decide), if_pos (by omega), wn _ hi', if_pos (by omega), if_pos (by rw [B_size]; omega), hex, if_pos (by rw [B_size, hsz]; omega), if_pos (by rw [B_size]; omega), B_append]
      have hjt : ∀ k, tidemarkref25_guessText.j1 (k + 1) (B b) (B acc) (i : Int) true = some (3, false, 0, B acc, ((i + 1 : Nat) : Int)) := by
        intro k
        simp only [tidemarkref25_guessText.j1]
        rw [if_pos trivial, wn _ hi']
      by_cases hc : c = 0
      · have hb0 : bt (B b) (i : Int) = 0 := by rw [hbt, hc]; rfl
        clear hbt
        cases r with
        | nil =>
          rw [List.length_nil] at h3
          refine ⟨acc, i + 1, ?_, by omega, by omega, by omega, ?_⟩
          · refine Ev.step (f := fun k => tidemarkref25_guessText.j1 k (B b) (B acc) (i : Int) true) (fun k => ?_) (Ev.step hjt (Ev.now _))
            simp only [tidemarkref25_guessText.l0]
            rw [if_pos (by rw [B_size]; omega), if_pos (by omega), if_pos hb0, wn _ hi', if_pos (by rw [B_size]; omega)]
          · intro p hp
            rw [hd, hc, untext_last] at hp
            obtain rfl := Option.some.inj hp
            exact ⟨by rw [List.append_nil], by rw [List.length_nil]; omega⟩
        | cons d r' =>
          rw [List.length_cons] at h3
          have hbt2 := bt_at_B h2
          obtain ⟨h4, h5, h6⟩ := drop_cons_lt h2
          by_cases hdd : d = 255
          · have hb255 : bt (B b) ((i + 1 : Nat) : Int) = 255 := by rw [hbt2, hdd]; rfl
            clear hbt2
            obtain ⟨t, q, he, hq1, hq2, ht, hp⟩ := ih (b.length - (i + 2)) (by omega) (i + 2) (acc ++ [c]) rfl (by omega) (by omega) (by rw [List.length_append, List.length_singleton]; omega)
            refine ⟨t, q, ?_, hq1, hq2, ht, ?_⟩
            · refine Ev.step (f := fun k => tidemarkref25_guessText.j1 k (B b) (B acc) (i : Int) false) (fun k => ?_) (Ev.step (fun k => by rw [hj, if_pos hb0, wn _ (by omega)]) he)
              simp only [tidemarkref25_guessText.l0]
              rw [if_pos (by rw [B_size]; omega), if_pos (by omega), if_pos hb0, wn _ hi', if_neg (by rw [B_size]; omega), if_pos (by omega), if_pos (by rw [B_size]; omega), hb255]
              rfl
            · intro p hp'
              rw [hd, hc, hdd, untext_ff, Option.map_eq_some_iff] at hp'
              obtain ⟨p', hp1, rfl⟩ := hp'
              rw [h5] at hp
              obtain ⟨e1, e2⟩ := hp p' hp1
              exact ⟨by rw [e1, List.append_assoc, hc]; rfl, e2⟩
          · refine ⟨acc, i + 1, ?_, by omega, by omega, by omega, ?_⟩
            · refine Ev.step (f := fun k => tidemarkref25_guessText.j1 k (B b) (B acc) (i : Int) true) (fun k => ?_) (Ev.step hjt (Ev.now _))
              have hne : (bt (B b) ((i + 1 : Nat) : Int) != 255) = true := by rw [bne_iff_ne, hbt2]; exact u8_ff hdd
              clear hbt2
              simp only [tidemarkref25_guessText.l0]
              rw [if_pos (by rw [B_size]; omega), if_pos (by omega), if_pos hb0, wn _ hi', if_neg (by rw [B_size]; omega), if_pos (by omega), if_pos (by rw [B_size]; omega), hne]
            · intro p hp
              rw [hd, hc, untext_end _ hdd] at hp
              obtain rfl := Option.some.inj hp
              exact ⟨by rw [List.append_nil], by rw [List.length_cons]; omega⟩
      · have hb0 : ¬ bt (B b) (i : Int) = 0 := by rw [hbt]; exact u8_pos hc
        clear hbt
        obtain ⟨t, q, he, hq1, hq2, ht, hp⟩ := ih (b.length - (i + 1)) (by omega) (i + 1) (acc ++ [c]) rfl (by omega) (by omega) (by rw [List.length_append, List.length_singleton]; omega)
        refine ⟨t, q, ?_, hq1, hq2, ht, ?_⟩
        · refine Ev.step (f := fun k => tidemarkref25_guessText.j1 k (B b) (B acc) (i : Int) false) (fun k => ?_) (Ev.step (fun k => by rw [hj, if_neg hb0]) he)
          simp only [tidemarkref25_guessText.l0]
          rw [if_pos (by rw [B_size]; omega), if_pos (by omega), if_neg hb0]
        · intro p hp'
          rw [hd, untext_go _ hc, Option.map_eq_some_iff] at hp'
          obtain ⟨p', hp1, rfl⟩ := hp'
          rw [h2] at hp
          obtain ⟨e1, e2⟩ := hp p' hp1
          exact ⟨by rw [e1, List.append_assoc]; rfl, e2⟩
    · obtain rfl : i = b.length := by omega
      refine ⟨acc, b.length, ?_, h1i, by omega, by omega, ?_⟩
      · refine Ev.step (f := fun _ => some (3, false, 0, B acc, (b.length : Int))) (fun k => ?_) (Ev.now _)
        simp only [tidemarkref25_guessText.l0]
        rw [if_neg (by rw [B_size]; omega), B_size]
      · intro p hp
        rw [List.drop_length] at hp
        exact absurd hp (by rw [show untext [] = none from rfl]; exact fun h => by cases h)

theorem inRange0 (k : Int) (f : Bool) (t : List UInt8) : inRange ⟨k, f, 0, t⟩ := ⟨show (-9223372036854775808 : Int) ≤ 0 by omega, show (0 : Int) ≤ 9223372036854775807 by omega⟩
/-! ### whole numbers -/
def gdigit (below : Bool) (d : UInt8) : Int := if below then 255 - (d.toNat : Int) else (d.toNat : Int)
def gfold (below : Bool) : List UInt8 → Int → Int
  | [], m => m
  | d :: l, m => gfold below l ((m * 256 + gdigit below d) % 18446744073709551616)
def flipIf (below : Bool) (l : List UInt8) : List UInt8 := if below then flip l else l
theorem gfold_val (below : Bool) : ∀ (l pre : List UInt8), pre.length + l.length ≤ 8 → gfold below l (beVal pre : Int) = (beVal (pre ++ flipIf below l) : Int)
  | [], pre, _ => by cases below <;> (show (beVal pre : Int) = (beVal (pre ++ []) : Int); rw [List.append_nil])
  | d :: l, pre, h => by
    rw [List.length_cons] at h
    have hm := beVal_lt pre
    have h7 : 256 ^ pre.length ≤ 256 ^ 7 := Nat.pow_le_pow_right (by decide) (by omega)
    have e7 : (256 : Nat) ^ 7 = 72057594037927936 := by decide
    have hd := d.toNat_lt
    obtain ⟨d', hd', hfl⟩ : ∃ d' : UInt8, gdigit below d = (d'.toNat : Int) ∧ flipIf below (d :: l) = d' :: flipIf below l := by
      cases below
      · exact ⟨d, rfl, rfl⟩
      · refine ⟨255 - d, ?_, rfl⟩
        rw [sub255]; show (255 : Int) - (d.toNat : Int) = _; omega
    have hd2 := d'.toNat_lt
    have ih := gfold_val below l (pre ++ [d']) (by rw [List.length_append, List.length_singleton]; omega)
    rw [gfold, hd', hfl, show ((beVal pre : Int) * 256 + (d'.toNat : Int)) % 18446744073709551616 = (beVal (pre ++ [d']) : Int) by rw [beVal_append]; omega, ih, List.append_assoc]
    rfl
def gres (below : Bool) (M : Int) : Int := if below then wrap64 (-(wrap64 M)) else wrap64 M
theorem gint_ev (b : List UInt8) (hb : b.length ≤ 1048576) (c : Int) (below : Bool) (hc : (c < 24) = (below = true)) (n : Nat) (hn : n ≤ 8) (hne : 1 ≤ b.length) : ∀ (d j : Nat) (m : Int), (min (n + 1) b.length) - j = d → 1 ≤ j → j ≤ min (n + 1) b.length → 
    Ev (fun k => tidemarkref25_guess.l0 k (B b) c (n : Int) m (j : Int)) (2, false, gres below (gfold below ((b.take (n + 1)).drop j) m), B [], ((min (n + 1) b.length : Nat) : Int)) := by
  intro d
  induction d with
  | zero =>
    intro j m hd h1 hj
    have hdrop : (b.take (n + 1)).drop j = [] := by rw [List.drop_eq_nil_iff, List.length_take]; omega
    rw [hdrop]
    refine Ev.step (f := fun k => tidemarkref25_guess.j4 k (B b) c (n : Int) m (j : Int) false) (fun k => ?_) (Ev.step (f := fun _ => some (2, false, gres below m, B [], ((min (n + 1) b.length : Nat) : Int))) (fun k => ?_) (Ev.now _))
    · simp only [tidemarkref25_guess.l0]
      by_cases hle : (j : Int) ≤ (n : Int)
      · rw [if_pos hle, show decide ((j : Int) < ((B b).size : Int)) = false from decide_eq_false (by rw [B_size]; omega)]
      · rw [if_neg hle]
    · simp only [tidemarkref25_guess.j4]
      rw [if_neg (by decide), w64 (n := ((B b).size : Int) - 1) (by rw [B_size]; omega) (by rw [B_size]; omega), wn _ (by omega)]
      have e1 : ∀ a : Int, wrap64 (((B b).size : Int) - 1 + 1) = ((b.length : Nat) : Int) := fun _ => by rw [w64 (by rw [B_size]; omega) (by rw [B_size]; omega), B_size]; omega
      rw [e1 0]
      have hB : (⟨#[]⟩ : ByteArray) = B [] := rfl
      by_cases hgt : ((n + 1 : Nat) : Int) > ((B b).size : Int)
      · have hmin : min (n + 1) b.length = b.length := by rw [B_size] at hgt; omega
        rw [if_pos hgt, if_pos hgt, hmin]
        cases below
        · rw [if_neg (by rw [hc]; decide)]; rfl
        · rw [if_pos (by rw [hc])]; rfl
      · have hmin : min (n + 1) b.length = n + 1 := by rw [B_size] at hgt; omega
        rw [if_neg hgt, if_neg hgt, hmin]
        cases below
        · rw [if_neg (by rw [hc]; decide)]; rfl
        · rw [if_pos (by rw [hc])]; rfl
  | succ d ih =>
    intro j m hd h1 hj
    have hjl : j < b.length := by omega
    obtain ⟨x, r, hx⟩ := drop_ex hjl
    obtain ⟨g1, g2, g3⟩ := drop_cons_lt hx
    have hbt := bt_at_B hx
    have hxl := x.toNat_lt
    have hdr : (b.take (n + 1)).drop j = x :: (b.take (n + 1)).drop (j + 1) := by
      obtain ⟨z, hz⟩ : ∃ z, n + 1 - j = z + 1 := ⟨n - j, by omega⟩
      rw [List.drop_take, hx, hz, List.take_succ_cons, List.drop_take, g2, show n + 1 - (j + 1) = z by omega]
    rw [hdr, gfold]
    have ih' := ih (j + 1) ((m * 256 + gdigit below x) % 18446744073709551616) (by omega) (by omega) (by omega)
    have hj' : j ≤ 1073741824 := by omega
    refine Ev.step (f := fun k => tidemarkref25_guess.j4 k (B b) c (n : Int) m (j : Int) true) (fun k => ?_) (Ev.step (fun k => ?_) ih')
    · simp only [tidemarkref25_guess.l0]
      rw [if_pos (by omega), show decide ((j : Int) < ((B b).size : Int)) = true from decide_eq_true (by rw [B_size]; omega)]
    · simp only [tidemarkref25_guess.j4]
      rw [if_pos trivial, if_pos (by omega), if_pos (by rw [B_size]; omega), hbt, wn _ hj']
      cases below
      · rw [if_neg (by rw [hc]; decide), wu64_eq, wu64_eq, wu64_eq]
        congr 1
        show _ = (m * 256 + (x.toNat : Int)) % 18446744073709551616
        omega
      · rw [if_pos (by rw [hc]), wu64_eq, wu64_eq]
        congr 1
        show _ = (m * 256 + (255 - (x.toNat : Int))) % 18446744073709551616
        omega
theorem gres_range (below : Bool) (M : Int) : -9223372036854775808 ≤ gres below M ∧ gres below M ≤ 9223372036854775807 := by
  unfold gres wrap64
  cases below <;> simp only [if_true, Bool.false_eq_true, if_false] <;> omega
theorem gres_whole (below : Bool) (M : Nat) : gres below (M : Int) = (wholeRes below M).1 := by
  unfold gres wholeRes
  cases below
  · simp only [Bool.false_eq_true, if_false]
  · simp only [if_true]
/-- What guess answers. -/
theorem guess_ev (b : List UInt8) (hb : b.length ≤ 1048576) (hne : b ≠ []) : ∃ (v : V) (q : Nat), Ev (fun k => tidemarkref25_guess.f k (B b)) (v.kind, v.flag, v.int, B v.text, (q : Int)) ∧ 1 ≤ q ∧ q ≤ b.length ∧ inRange v ∧ v.text.length ≤ b.length ∧
    ∀ p, first b = some p → v = p.1 ∧ q + p.2.length = b.length := by
  cases b with
  | nil => exact absurd rfl hne
  | cons c r =>
    have hlen : (c :: r).length = r.length + 1 := List.length_cons
    have hbt : bt (B (c :: r)) 0 = (c.toNat : Int) := bt_at_B (l := c :: r) (i := 0) rfl
    have hcl := c.toNat_lt
    have start : ∀ k, tidemarkref25_guess.f k (B (c :: r)) = (if (c.toNat : Int) = 2 then (tidemarkref25_guess.j0 k (B (c :: r)) (c.toNat : Int) true) else (tidemarkref25_guess.j0 k (B (c :: r)) (c.toNat : Int) ((c.toNat : Int) == 3))) := by
      intro k
      unfold tidemarkref25_guess.f
      rw [if_pos (by rw [B_size]; omega), hbt, wb]
    by_cases h2 : c = 2 ∨ c = 3
    · refine ⟨⟨1, (c.toNat : Int) == 3, 0, []⟩, 1, ?_, by omega, by omega, inRange0 _ _ _, by rw [List.length_nil]; omega, ?_⟩
      · refine Ev.step (f := fun _ => some (1, (c.toNat : Int) == 3, 0, (⟨#[]⟩ : ByteArray), 1)) (fun k => ?_) (Ev.now _)
        rw [start]
        rcases h2 with h2 | h2
        · have n2 : (c.toNat : Int) = 2 := by rw [h2]; rfl
          rw [if_pos n2]; rfl
        · have n3 : (c.toNat : Int) = 3 := by rw [h2]; rfl
          rw [if_neg (by omega), n3]; rfl
      · intro p hp
        have hf : first (c :: r) = some (⟨1, (c.toNat : Int) == 3, 0, []⟩, r) := by rcases h2 with rfl | rfl <;> rfl
        rw [hf] at hp
        obtain rfl := Option.some.inj hp
        exact ⟨rfl, show 1 + r.length = (c :: r).length by rw [hlen]; omega⟩
    · have n2 : ¬ (c.toNat : Int) = 2 := fun he => h2 (.inl (UInt8.toNat_inj.1 (show c.toNat = 2 by omega)))
      have n3 : ¬ (c.toNat : Int) = 3 := fun he => h2 (.inr (UInt8.toNat_inj.1 (show c.toNat = 3 by omega)))
      have n3b : ((c.toNat : Int) == 3) = false := beq_eq_false_iff_ne.2 n3
      by_cases h4 : c = 48
      · have c48 : (c.toNat : Int) = 48 := by rw [h4]; rfl
        obtain ⟨t, q, he, hq1, hq2, ht, hp⟩ := gtext_ev (c :: r) hb (c :: r).length.pred 1 [] (by rw [hlen]; rfl) (by omega) (by omega) (by rw [List.length_nil]; omega)
        refine ⟨⟨3, false, 0, t⟩, q, ?_, hq1, hq2, inRange0 _ _ _, ht, ?_⟩
        · refine Ev.step (fun k => by rw [start, if_neg n2, n3b]; simp only [tidemarkref25_guess.j0]; rw [if_neg (by decide), if_pos c48]) (Ev.bind (g := fun k => tidemarkref25_guessText.f k (B (c :: r))) he (Ev.now _))
        · intro p hp'
          have hf : first (c :: r) = (untext r).map (fun p => (⟨3, false, 0, p.1⟩, p.2)) := by rw [h4]; rfl
          rw [hf, Option.map_eq_some_iff] at hp'
          obtain ⟨p', h1, rfl⟩ := hp'
          obtain ⟨e1, e2⟩ := hp p' h1
          rw [e1]
          exact ⟨rfl, e2⟩
      · have n4 : ¬ (c.toNat : Int) = 48 := fun he => h4 (UInt8.toNat_inj.1 (show c.toNat = 48 by omega))
        by_cases ho : c.toNat < 16 ∨ 32 < c.toNat
        · refine ⟨⟨0, false, 0, []⟩, 1, ?_, by omega, by omega, inRange0 _ _ _, by rw [List.length_nil]; omega, ?_⟩
          · refine Ev.step (f := fun k => tidemarkref25_guess.j1 k (B (c :: r)) (c.toNat : Int) true) (fun k => ?_) (Ev.step (f := fun _ => some (0, false, 0, (⟨#[]⟩ : ByteArray), 1)) (fun k => by simp only [tidemarkref25_guess.j1]; rw [if_pos trivial]) (Ev.now _))
            rw [start, if_neg n2, n3b]
            simp only [tidemarkref25_guess.j0]
            rw [if_neg (by decide), if_neg n4]
            by_cases h16 : (c.toNat : Int) < 16
            · rw [if_pos h16]
            · rw [if_neg h16, show decide ((c.toNat : Int) > 32) = true from decide_eq_true (by omega)]
          · intro p hp
            by_cases h1 : c = 1
            · have hf : first (c :: r) = some (⟨0, false, 0, []⟩, r) := by rw [h1]; rfl
              rw [hf] at hp
              obtain rfl := Option.some.inj hp
              exact ⟨rfl, show 1 + r.length = (c :: r).length by rw [hlen]; omega⟩
            · have hf : first (c :: r) = none := by simp only [first, h1, h2, h4, if_false]; rw [if_pos ho]
              rw [hf] at hp; exact absurd hp (fun h => by cases h)
        · generalize hn : (if c.toNat < 24 then 24 - c.toNat else c.toNat - 24) = n
          have hn8 : n ≤ 8 := by rw [← hn]; split <;> omega
          have hbelow : ((c.toNat : Int) < 24) = (decide (c.toNat < 24) = true) := by rw [decide_eq_true_eq]; exact propext (by omega)
          have hint := gint_ev (c :: r) hb (c.toNat : Int) (decide (c.toNat < 24)) hbelow n hn8 (by omega) (min (n + 1) (c :: r).length - 1) 1 0 rfl (by omega) (by omega)
          have hr1 : ((c :: r).take (n + 1)).drop 1 = r.take n := by rw [List.take_succ_cons]; rfl
          rw [hr1] at hint
          refine ⟨⟨2, false, gres (decide (c.toNat < 24)) (gfold (decide (c.toNat < 24)) (r.take n) 0), []⟩, min (n + 1) (c :: r).length, ?_, by omega, by omega, gres_range _ _, by rw [List.length_nil]; omega, ?_⟩
          · refine Ev.step (f := fun k => tidemarkref25_guess.j1 k (B (c :: r)) (c.toNat : Int) false) (fun k => ?_) (Ev.step (f := fun k => tidemarkref25_guess.j2 k (B (c :: r)) (c.toNat : Int) (n : Int)) (fun k => ?_) (Ev.step (fun k => rfl) hint))
            · rw [start, if_neg n2, n3b]
              simp only [tidemarkref25_guess.j0]
              rw [if_neg (by decide), if_neg n4, if_neg (by omega), show decide ((c.toNat : Int) > 32) = false from decide_eq_false (by omega)]
            · simp only [tidemarkref25_guess.j1]
              rw [if_neg (by decide), w64 (n := (c.toNat : Int) - 24) (by omega) (by omega)]
              by_cases h24 : c.toNat < 24
              · rw [if_pos (by omega), w64 (by omega) (by omega)]
                rw [if_pos h24] at hn
                congr 1
                omega
              · rw [if_neg (by omega)]
                rw [if_neg h24] at hn
                congr 1
                omega
          · intro p hp
            have h1 : c ≠ 1 := fun e => ho (.inl (by rw [e]; decide))
            have hf : first (c :: r) = (intOf c.toNat r).map (fun p => (⟨2, false, p.1, []⟩, p.2)) := by simp only [first, h1, h2, h4, if_false]; rw [if_neg ho]
            rw [hf, Option.map_eq_some_iff] at hp
            obtain ⟨p', hp', rfl⟩ := hp
            have hl : n ≤ r.length := by
              rcases Nat.lt_or_ge r.length n with hlt | hge
              · have : intOf c.toNat r = none := by unfold intOf; simp only [hn]; rw [if_pos hlt]
                rw [this] at hp'; cases hp'
              · exact hge
            rw [intOf_res c.toNat r n hn.symm hl] at hp'
            split at hp'
            · cases hp'
            · split at hp'
              · rename_i hok
                obtain rfl := Option.some.inj hp'
                have hv := wholeRes_val _ _ hok
                have hg := gfold_val (decide (c.toNat < 24)) (r.take n) [] (by rw [List.length_nil, List.length_take]; omega)
                have e0 : ((beVal [] : Nat) : Int) = 0 := rfl
                rw [e0, List.nil_append] at hg
                have hbo : bytesOf (decide (c.toNat < 24)) r n = flipIf (decide (c.toNat < 24)) (r.take n) := by unfold bytesOf flipIf; rfl
                refine ⟨?_, ?_⟩
                · rw [hg]
                  have : gres (decide (c.toNat < 24)) (beVal (flipIf (decide (c.toNat < 24)) (r.take n)) : Int) = (wholeRes (decide (c.toNat < 24)) (beVal (bytesOf (decide (c.toNat < 24)) r n))).1 := by
                    rw [hbo]; exact gres_whole _ _
                  rw [this, hv]
                  by_cases h24 : c.toNat < 24
                  · rw [if_pos h24, if_pos (decide_eq_true h24)]
                  · rw [if_neg h24, if_neg (by rw [decide_eq_true_eq]; exact h24)]
                · show min (n + 1) (c :: r).length + (r.drop n).length = _
                  rw [List.length_drop, hlen]; omega
              · cases hp'

/-! ### Decode -/
def final (b : List UInt8) (us : List V) : List S29 × Int := if (∀ v ∈ us, valid v) ∧ enc us = b then (us.map ofV, 0) else ([], 250)
theorem rdec_ev (b : List UInt8) (hb : b.length ≤ 1048576) : ∀ (n i : Nat) (acc : List V), b.length - i = n → i ≤ b.length → acc.length ≤ i → (∀ v ∈ acc, inRange v ∧ v.text.length ≤ 1048576) →
    ∃ us : List V, Ev (fun k => tidemarkref25_Decode.l0 k (B b) (acc.map ofV) (i : Int)) (final b (acc ++ us)) ∧ (∀ v ∈ us, inRange v) ∧ us.length + i ≤ b.length ∧ ∀ m ts, dec m (b.drop i) = some ts → us = ts := by
  intro n
  induction n using Nat.strongRecOn with
  | _ n ih =>
    intro i acc hn hi ha hs
    rcases Nat.lt_or_ge i b.length with hlt | hge
    · obtain ⟨c, r, hd⟩ := drop_ex hlt
      have hlen : (b.drop i).length = b.length - i := List.length_drop
      obtain ⟨v, q, hev, hq1, hq2, hr, ht, hp⟩ := guess_ev (b.drop i) (by omega) (by rw [hd]; exact List.cons_ne_nil _ _)
      have hs' : ∀ u ∈ acc ++ [v], inRange u ∧ u.text.length ≤ 1048576 := by
        intro u hu
        rcases List.mem_append.1 hu with hu | hu
        · exact hs u hu
        · rw [List.mem_singleton.1 hu]; exact ⟨hr, by omega⟩
      obtain ⟨us, he, hu1, hu2, hu3⟩ := ih (b.length - (i + q)) (by omega) (i + q) (acc ++ [v]) rfl (by omega) (by rw [List.length_append, List.length_singleton]; omega) hs'
      refine ⟨v :: us, ?_, ?_, by rw [List.length_cons]; omega, ?_⟩
      · have e : acc ++ v :: us = acc ++ [v] ++ us := by rw [List.append_assoc]; rfl
        rw [e]
        refine Ev.step (f := fun k => (tidemarkref25_guess.f k (B (b.drop i))).bind fun bt145 => (if (acc.map ofV).length < 3518437208883 then (tidemarkref25_Decode.l0 k (B b) (acc.map ofV ++ [(⟨bt145.1, bt145.2.1, bt145.2.2.1, bt145.2.2.2.1⟩ : S29)]) (wrap64 ((i : Int) + bt145.2.2.2.2))) else (none))) (fun k => ?_) (Ev.bind hev ?_)
        · simp only [tidemarkref25_Decode.l0]
          rw [if_pos (by rw [B_size]; omega), if_pos (by omega), if_pos (by rw [B_size]; omega), show ((i : Int)).toNat = i from rfl, B_tail]
        · refine Ev.congr (fun k => ?_) he
          rw [if_pos (by rw [List.length_map]; omega)]
          show tidemarkref25_Decode.l0 k (B b) (acc.map ofV ++ [ofV v]) (wrap64 ((i : Int) + (q : Int))) = _
          rw [w64 (by omega) (by omega), List.map_append]
          rfl
      · intro u hu
        rcases List.mem_cons.1 hu with rfl | hu
        · exact hr
        · exact hu1 u hu
      · intro m ts hts
        cases m with
        | zero => rw [dec] at hts; cases hts
        | succ m =>
          rw [dec, if_neg (by rw [hd]; exact List.cons_ne_nil _ _)] at hts
          cases hf : first (b.drop i) with
          | none => rw [hf] at hts; cases hts
          | some p =>
            rw [hf] at hts
            obtain ⟨e1, e2⟩ := hp p hf
            have hi2 := first_inv (b.drop i) p.1 p.2 hf
            have hcode : (b.drop i).length = (code p.1).length + p.2.length := by
              have := congrArg List.length hi2.1
              rw [List.length_append] at this
              exact this
            have hq : q = (code p.1).length := by omega
            have hrest : b.drop (i + q) = p.2 := by
              rw [← List.drop_drop, hi2.1, hq, List.drop_left]
            obtain ⟨us', h1, h2⟩ := Option.map_eq_some_iff.1 (show (dec m p.2).map (p.1 :: ·) = some ts from hts)
            rw [hrest] at hu3
            rw [← h2, e1, hu3 m us' h1]
    · obtain rfl : i = b.length := by omega
      refine ⟨[], ?_, fun u hu => absurd hu (by simp), by rw [List.length_nil]; omega, ?_⟩
      · rw [List.append_nil]
        refine Ev.step (f := fun k => (tidemarkref25_Encode.f k (acc.map ofV)).bind fun bt154 => (if bt154.2 = 0 then (if bt154.1.toList = (B b).toList then (some (acc.map ofV, 0)) else (some (([] : List (S29)), 250))) else (some (([] : List (S29)), 250)))) (fun k => ?_) (Ev.bind (encode_ev acc ⟨by omega, hs⟩) ?_)
        · simp only [tidemarkref25_Decode.l0]
          rw [if_neg (by rw [B_size]; omega)]
        · refine Ev.congr (fun k => ?_) (Ev.now _)
          unfold final
          by_cases hv : ∀ v ∈ acc, valid v
          · rw [if_pos hv]
            refine (if_pos (show (0 : Int) = 0 from rfl)).trans ?_
            show (if (B (enc acc)).toList = (B b).toList then some (acc.map ofV, (0 : Int)) else some ([], 250)) = _
            rw [B_toList, B_toList]
            by_cases he : enc acc = b
            · rw [if_pos he, if_pos ⟨hv, he⟩]
            · rw [if_neg he, if_neg (fun h => he h.2)]
          · rw [if_neg hv, if_neg (show ¬ ((∀ v ∈ acc, valid v) ∧ enc acc = b) from fun h => hv h.1)]
            exact if_neg (show ¬ (1 : Int) = 0 by decide)
      · intro m ts hts
        rw [List.drop_length] at hts
        cases m with
        | zero => rw [dec] at hts; cases hts
        | succ m => rw [dec, if_pos rfl] at hts; exact (Option.some.inj hts)
/-- BOTH DECODES ANSWER 'dec'. -/
def decRes (b : List UInt8) : List S29 × Int := match dec (b.length + 1) b with | some ts => (ts.map ofV, 0) | none => ([], 250)
theorem decode_says (b : List UInt8) (hb : b.length ≤ 1048576) : Ev (fun k => tuple_Decode.f k (B b)) (decRes b) := by
  have h := decode_ev (b.length + 1) b [] (by omega) (by rw [List.length_nil]; omega)
  unfold decRes
  cases hd : dec (b.length + 1) b with
  | none => rw [hd] at h; exact h
  | some ts => rw [hd] at h; exact h
theorem rdecode_says (b : List UInt8) (hb : b.length ≤ 1048576) : Ev (fun k => tidemarkref25_Decode.f k (B b)) (decRes b) := by
  obtain ⟨us, he, hr, hl, hu⟩ := rdec_ev b hb b.length 0 [] (by omega) (by omega) (by rw [List.length_nil]; omega) (fun v hv => absurd hv (by simp))
  rw [List.nil_append] at he
  rw [List.drop_zero] at hu
  have e : final b us = decRes b := by
    unfold decRes final
    cases hd : dec (b.length + 1) b with
    | some ts =>
      have := hu _ ts hd
      subst this
      have hi := dec_inv _ _ _ hd
      rw [if_pos ⟨fun v hv => (hi.2 v hv).1, hi.1.symm⟩]
    | none =>
      refine if_neg (fun h => ?_)
      have := dec_enc (b.length + 1) us (fun v hv => ⟨h.1 v hv, hr v hv⟩) (by rw [h.2]; omega)
      rw [h.2, hd] at this
      cases this
  rw [← e]
  exact he
theorem decRes_length (b : List UInt8) : (decRes b).1.length ≤ b.length := by
  unfold decRes
  cases hd : dec (b.length + 1) b with
  | none => exact Nat.zero_le _
  | some ts =>
    have hi := dec_inv _ _ _ hd
    show (ts.map ofV).length ≤ _
    rw [List.length_map]
    have : ∀ us : List V, us.length ≤ (enc us).length := by
      intro us
      induction us with
      | nil => exact Nat.zero_le _
      | cons v us ih =>
        rw [enc_cons, List.length_append, List.length_cons]
        have h2 : 1 ≤ (code v).length := by
          cases hcode : code v with
          | nil => exact absurd hcode (code_ne _)
          | cons x y => rw [List.length_cons]; omega
        omega
    have h := this ts
    rw [← hi.1] at h
    exact h
/-- .. and what they answer is a list of our values. -/
theorem decRes_form (b : List UInt8) : ∃ ts : List V, (decRes b).1 = ts.map ofV := by
  unfold decRes
  cases dec (b.length + 1) b with
  | none => exact ⟨[], rfl⟩
  | some ts => exact ⟨ts, rfl⟩
end Go.Proofs.Ytoieckmegdcaeaa.T
