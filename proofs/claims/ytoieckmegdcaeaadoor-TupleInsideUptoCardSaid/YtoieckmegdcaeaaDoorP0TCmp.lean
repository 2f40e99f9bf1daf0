-- Packed by a program of this session (pack.py) from texts of this claim.
import Derived.Test.YtoieckmegdcaeaaDoorP0TByt
import Derived.Test.YtoieckmegdcaeaaDoorP1b
import Derived.Test.YtoieckmegdcaeaaDoorP14
import Derived.Test.YtoieckmegdcaeaaDoorP10a
import Derived.Test.YtoieckmegdcaeaaDoorP12b
import Derived.Test.YtoieckmegdcaeaaDoorP10b
section
namespace Go.Proofs.YtoieckmegdcaeaaDoor.T
open Go.RowKit Go.Proofs.YtoieckmegdcaeaaDoorW.PrintWords Go.Proofs.YtoieckmegdcaeaaDoorW.PrintLast Go.Proofs.YtoieckmegdcaeaaDoorW.PrintMore
open Go.Proofs.YtoieckmegdcaeaaDoor.G
set_option linter.unusedVariables false

theorem wn2 (i : Nat) (h : i ≤ 4611686018427387904) : wrap64 ((i : Int) + 1) = ((i + 1 : Nat) : Int) := by rw [w64] <;> omega
def ci (x y : Int) : Int := if x < y then -1 else if x > y then 1 else 0
def bi (b : Bool) : Int := if b = true then 1 else 0
def cs (x y : ByteArray) : Int := if Op.bytesLess x.toList y.toList = true then -1 else if Op.bytesLess y.toList x.toList = true then 1 else 0
def cmpS (a b : S36) : Int := if ci a.f0 b.f0 ≠ 0 then ci a.f0 b.f0 else if ci (bi a.f1) (bi b.f1) ≠ 0 then ci (bi a.f1) (bi b.f1) else if ci a.f2 b.f2 ≠ 0 then ci a.f2 b.f2 else cs a.f3 b.f3
def cmpL : List S36 → List S36 → Int
  | [], [] => 0
  | [], _ :: _ => -1
  | _ :: _, [] => 1
  | a :: x, b :: y => if cmpS a b = 0 then cmpL x y else cmpS a b
def bef (a b : S36) : Bool := if a.f0 = b.f0 then (if (a.f1 != b.f1) = true then b.f1 else (if a.f2 = b.f2 then Op.bytesLess a.f3.toList b.f3.toList else decide (a.f2 < b.f2))) else decide (a.f0 < b.f0)

theorem or_ev (a b c d : Int) : Ev (fun k => cmp_Or_int.f k [a, b, c, d]) (if a ≠ 0 then a else if b ≠ 0 then b else if c ≠ 0 then c else d) := by
  have go : ∀ (i : Nat) (x r : Int), i < 4 → rd [a, b, c, d] (i : Int) = x → (x = 0 → Ev (fun k => cmp_Or_int.l0 k 0 [a, b, c, d] 4 ((i + 1 : Nat) : Int)) r) → (x ≠ 0 → x = r) → Ev (fun k => cmp_Or_int.l0 k 0 [a, b, c, d] 4 (i : Int)) r := by
    intro i x r hi hx h0 h1
    have hl : (([a, b, c, d] : List Int).length : Int) = 4 := rfl
    by_cases hz : x = 0
    · refine Ev.step (fun k => ?_) (h0 hz)
      simp only [cmp_Or_int.l0]
      rw [if_pos (by omega), if_pos (by omega), if_pos (by rw [hl]; omega), hx, if_pos hz, wn2 _ (by omega)]
    · refine Ev.step (f := fun _ => some x) (fun k => ?_) (by rw [h1 hz]; exact Ev.now _)
      simp only [cmp_Or_int.l0]
      rw [if_pos (by omega), if_pos (by omega), if_pos (by rw [hl]; omega), hx, if_neg hz]
  have hend : Ev (fun k => cmp_Or_int.l0 k 0 [a, b, c, d] 4 ((4 : Nat) : Int)) 0 := by
    refine Ev.step (f := fun _ => some 0) (fun k => ?_) (Ev.now _)
    simp only [cmp_Or_int.l0]
    rw [if_neg (by omega)]
  refine go 0 a _ (by omega) rfl (fun h => ?_) (fun h => by rw [if_pos h])
  rw [if_neg (by omega)]
  refine go 1 b _ (by omega) rfl (fun h => ?_) (fun h => by rw [if_pos h])
  rw [if_neg (by omega)]
  refine go 2 c _ (by omega) rfl (fun h => ?_) (fun h => by rw [if_pos h])
  rw [if_neg (by omega)]
  exact go 3 d _ (by omega) rfl (fun h => by have h' := hend; rw [h] at h' ⊢; exact h') (fun h => rfl)
theorem compare_ev (a b : S36) : Ev (fun k => tuple_compare.f k a.f0 a.f1 a.f2 a.f3 b.f0 b.f1 b.f2 b.f3) (cmpS a b) := by
  have n1 : ∀ x : Int, (x != x) = false := fun x => bne_eq_false_iff_eq.2 rfl
  have n2 : ∀ x : List UInt8, (x != x) = false := fun x => bne_eq_false_iff_eq.2 rfl
  have hci : ∀ x y : Int, (if x < y then some (-1) else (if x > y then some 1 else some 0)) = some (ci x y) := by
    intro x y; unfold ci; split
    · rfl
    · split <;> rfl
  have hcs : ∀ x y : ByteArray, (if Op.bytesLess x.toList y.toList = true then some (-1) else (if Op.bytesLess y.toList x.toList = true then some 1 else some (0 : Int))) = some (cs x y) := by
    intro x y; unfold cs; split
    · rfl
    · split <;> rfl
  have hfl : ∀ x : Bool, tuple_flag.f x = some (bi x) := by intro x; cases x <;> rfl
  have k1 : ∀ x y : Int, api_ValueKind_51.f x y = some (ci x y) := by
    intro x y
    unfold api_ValueKind_51.f api_ValueKind_75.f
    rw [n1, n1, Option.bind_some, Option.bind_some]
    exact hci x y
  have k2 : ∀ x y : Int, cmp_Compare_int.f x y = some (ci x y) := by
    intro x y
    unfold cmp_Compare_int.f cmp_isNaN_int.f
    rw [n1, n1, Option.bind_some, Option.bind_some]
    exact hci x y
  have k3 : ∀ x y : Int, cmp_Compare_int64.f x y = some (ci x y) := by
    intro x y
    unfold cmp_Compare_int64.f cmp_isNaN_int64.f
    rw [n1, n1, Option.bind_some, Option.bind_some]
    exact hci x y
  have k4 : ∀ x y : ByteArray, cmp_Compare_string.f x y = some (cs x y) := by
    intro x y
    unfold cmp_Compare_string.f cmp_isNaN_string.f
    rw [n2, n2, Option.bind_some, Option.bind_some]
    exact hcs x y
  refine Ev.congr (f := fun k => (cmp_Or_int.f k [ci a.f0 b.f0, ci (bi a.f1) (bi b.f1), ci a.f2 b.f2, cs a.f3 b.f3]).bind fun t => some t) (fun k => ?_) (Ev.bind (or_ev _ _ _ _) (Ev.now _))
  unfold tuple_compare.f
  rw [k1, hfl, hfl, k3, k4]
  simp only [Option.bind_some, k2]
theorem ci_le (x y : Int) : (ci x y = -1 ↔ x < y) ∧ (ci x y = 1 ↔ y < x) ∧ (ci x y = 0 ↔ x = y) := by
  unfold ci; split
  · refine ⟨⟨fun _ => by omega, fun _ => rfl⟩, ⟨fun h => by omega, fun h => by omega⟩, ⟨fun h => by omega, fun h => by omega⟩⟩
  · split
    · refine ⟨⟨fun h => by omega, fun h => by omega⟩, ⟨fun _ => by omega, fun _ => rfl⟩, ⟨fun h => by omega, fun h => by omega⟩⟩
    · refine ⟨⟨fun h => by omega, fun h => by omega⟩, ⟨fun h => by omega, fun h => by omega⟩, ⟨fun _ => by omega, fun _ => rfl⟩⟩
theorem less_asymm (a b : List UInt8) (h : Op.bytesLess a b = true) : Op.bytesLess b a = false := by
  rw [← bytesLess_tri a b, h]; rfl
theorem cs_vals (x y : ByteArray) : (cs x y = -1 ↔ Op.bytesLess x.toList y.toList = true) ∧ (cs x y = 1 ↔ Op.bytesLess y.toList x.toList = true) := by
  unfold cs
  by_cases h : Op.bytesLess x.toList y.toList = true
  · rw [if_pos h]
    have := less_asymm _ _ h
    exact ⟨⟨fun _ => h, fun _ => rfl⟩, ⟨fun h' => by omega, fun h' => by rw [this] at h'; cases h'⟩⟩
  · rw [if_neg h]
    split
    · rename_i h2; exact ⟨⟨fun h' => by omega, fun h' => absurd h' h⟩, ⟨fun _ => h2, fun _ => rfl⟩⟩
    · rename_i h2; exact ⟨⟨fun h' => by omega, fun h' => absurd h' h⟩, ⟨fun h' => by omega, fun h' => absurd h' h2⟩⟩
theorem cmpS_vals (a b : S36) : (cmpS a b = -1 ↔ bef a b = true) ∧ (cmpS a b = 1 ↔ bef b a = true) := by
  unfold cmpS bef
  have h0 := ci_le a.f0 b.f0
  have h2 := ci_le a.f2 b.f2
  have h3 := cs_vals a.f3 b.f3
  by_cases e0 : a.f0 = b.f0
  · rw [if_neg (show ¬ ci a.f0 b.f0 ≠ 0 from fun h => h (h0.2.2.2 e0)), if_pos e0, if_pos e0.symm]
    cases hf : a.f1 <;> cases hg : b.f1
    · rw [if_neg (show ¬ ci (bi false) (bi false) ≠ 0 by decide), if_neg (show ¬ (false != false) = true by decide), if_neg (show ¬ (false != false) = true by decide)]
      by_cases e2 : a.f2 = b.f2
      · rw [if_neg (show ¬ ci a.f2 b.f2 ≠ 0 from fun h => h (h2.2.2.2 e2)), if_pos e2, if_pos e2.symm]; exact h3
      · rw [if_pos (show ci a.f2 b.f2 ≠ 0 from fun h => e2 (h2.2.2.1 h)), if_neg e2, if_neg (fun h => e2 h.symm), decide_eq_true_eq, decide_eq_true_eq]; exact ⟨h2.1, h2.2.1⟩
    · rw [if_pos (show ci (bi false) (bi true) ≠ 0 by decide), if_pos (show (false != true) = true by decide), if_pos (show (true != false) = true by decide)]; exact ⟨⟨fun _ => rfl, fun _ => rfl⟩, ⟨fun h => absurd h (by decide), fun h => by cases h⟩⟩
    · rw [if_pos (show ci (bi true) (bi false) ≠ 0 by decide), if_pos (show (true != false) = true by decide), if_pos (show (false != true) = true by decide)]; exact ⟨⟨fun h => absurd h (by decide), fun h => by cases h⟩, ⟨fun _ => rfl, fun _ => rfl⟩⟩
    · rw [if_neg (show ¬ ci (bi true) (bi true) ≠ 0 by decide), if_neg (show ¬ (true != true) = true by decide), if_neg (show ¬ (true != true) = true by decide)]
      by_cases e2 : a.f2 = b.f2
      · rw [if_neg (show ¬ ci a.f2 b.f2 ≠ 0 from fun h => h (h2.2.2.2 e2)), if_pos e2, if_pos e2.symm]; exact h3
      · rw [if_pos (show ci a.f2 b.f2 ≠ 0 from fun h => e2 (h2.2.2.1 h)), if_neg e2, if_neg (fun h => e2 h.symm), decide_eq_true_eq, decide_eq_true_eq]; exact ⟨h2.1, h2.2.1⟩
  · rw [if_pos (show ci a.f0 b.f0 ≠ 0 from fun h => e0 (h0.2.2.1 h)), if_neg e0, if_neg (fun h => e0 h.symm), decide_eq_true_eq, decide_eq_true_eq]; exact ⟨h0.1, h0.2.1⟩
theorem cmpS_three (a b : S36) : cmpS a b = -1 ∨ cmpS a b = 0 ∨ cmpS a b = 1 := by
  have c3 : ∀ x y, ci x y = -1 ∨ ci x y = 0 ∨ ci x y = 1 := by
    intro x y; unfold ci; split
    · exact .inl rfl
    · split
      · exact .inr (.inr rfl)
      · exact .inr (.inl rfl)
  unfold cmpS
  split
  · exact c3 _ _
  · split
    · exact c3 _ _
    · split
      · exact c3 _ _
      · unfold cs; split
        · exact .inl rfl
        · split
          · exact .inr (.inr rfl)
          · exact .inr (.inl rfl)
theorem cmpS_self (a : S36) : cmpS a a = 0 := by
  have h : ∀ x, ci x x = 0 := fun x => (ci_le x x).2.2.2 rfl
  have h2 : cs a.f3 a.f3 = 0 := by unfold cs; rw [bytesLess_irrefl]; rfl
  unfold cmpS
  rw [h, h, h, h2]; rfl
theorem cmpL_self : ∀ l : List S36, cmpL l l = 0
  | [] => rfl
  | a :: l => by rw [cmpL, if_pos (cmpS_self a), cmpL_self l]
theorem cmpL_more : ∀ (l : List S36) (x : S36), cmpL l (l ++ [x]) = -1
  | [], x => rfl
  | a :: l, x => by rw [List.cons_append, cmpL, if_pos (cmpS_self a), cmpL_more l x]
theorem rd_S (l : List S36) (i : Nat) (v : S36) (r : List S36) (h : l.drop i = v :: r) : rd_T36 l (i : Int) = v := by
  have h0 : l[i]? = some v := by
    have := congrArg (fun q : List S36 => q[0]?) h
    simpa using this
  unfold rd_T36
  rw [List.getD_eq_getElem?_getD, show ((i : Int)).toNat = i from rfl, h0]
  rfl
theorem drop_ex' {α : Type} {l : List α} {i : Nat} (h : i < l.length) : ∃ c r, l.drop i = c :: r := by
  cases e : l.drop i with
  | nil => rw [List.drop_eq_nil_iff] at e; omega
  | cons c r => exact ⟨c, r, rfl⟩
theorem func_ev (a b : List S36) (ha : a.length ≤ 4611686018427387904) (hb : b.length ≤ 4611686018427387904) : ∀ (n i : Nat), a.length - i = n → i ≤ a.length → i ≤ b.length → Ev (fun k => slices_CompareFunc.l0 k a b a (a.length : Int) (i : Int)) (cmpL (a.drop i) (b.drop i)) := by
  intro n
  induction n with
  | zero =>
    intro i hn hi hj
    obtain rfl : i = a.length := by omega
    rw [List.drop_length]
    by_cases hlt : a.length < b.length
    · obtain ⟨y, s, hy⟩ := drop_ex' hlt
      rw [hy]
      refine Ev.step (f := fun _ => some (-1)) (fun k => ?_) (Ev.now _)
      simp only [slices_CompareFunc.l0]
      rw [if_neg (by omega), if_pos (by omega)]
    · rw [List.drop_eq_nil_of_le (by omega)]
      refine Ev.step (f := fun _ => some 0) (fun k => ?_) (Ev.now _)
      simp only [slices_CompareFunc.l0]
      rw [if_neg (by omega), if_neg (by omega)]
  | succ n ih =>
    intro i hn hi hj
    obtain ⟨x, r, hx⟩ := drop_ex' (l := a) (i := i) (by omega)
    by_cases hlt : i < b.length
    · obtain ⟨y, s, hy⟩ := drop_ex' hlt
      have h1 := drop_cons_lt hx
      have h2 := drop_cons_lt hy
      have ih' := ih (i + 1) (by omega) (by omega) (by omega)
      rw [h1.2.1, h2.2.1] at ih'
      rw [hx, hy, cmpL]
      refine Ev.step (f := fun k => (tuple_compare.f k x.f0 x.f1 x.f2 x.f3 y.f0 y.f1 y.f2 y.f3).bind fun t264 => (if t264 = 0 then (slices_CompareFunc.l0 k a b a (a.length : Int) ((i + 1 : Nat) : Int)) else (some t264))) (fun k => ?_) (Ev.bind (compare_ev x y) ?_)
      · simp only [slices_CompareFunc.l0]
        rw [if_pos (by omega), if_pos (by omega), if_pos (by omega), if_neg (by omega), if_pos (by omega), rd_S a i x r hx, rd_S b i y s hy, wn2 _ (by omega)]
      · by_cases h0 : cmpS x y = 0
        · rw [if_pos h0]; exact Ev.congr (fun k => by rw [if_pos h0]) ih'
        · rw [if_neg h0]; exact Ev.congr (fun k => by rw [if_neg h0]) (Ev.now _)
    · rw [hx, List.drop_eq_nil_of_le (by omega)]
      refine Ev.step (f := fun _ => some 1) (fun k => ?_) (Ev.now _)
      simp only [slices_CompareFunc.l0]
      rw [if_pos (by omega), if_pos (by omega), if_pos (by omega), if_pos (by omega)]
theorem compareL_ev (a b : List S36) (ha : a.length ≤ 4611686018427387904) (hb : b.length ≤ 4611686018427387904) : Ev (fun k => tuple_Compare.f k a b) (cmpL a b) := func_ev a b ha hb a.length 0 (by omega) (by omega) (by omega)
theorem own_ev (l : List S36) (hl : l.length ≤ 7036874417765) : Ev (fun k => tidemarklaw25_own.f k l) l := by
  have loop : ∀ (n i : Nat) (q : List S36), l.length - i = n → i ≤ l.length → q.length = l.length + 1 - i → Ev (fun k => tidemarklaw25_own.l0 k l (l.take i ++ q) (i : Int)) l := by
    intro n
    induction n with
    | zero =>
      intro i q hn hi hq
      obtain rfl : i = l.length := by omega
      have hlen : (l.take l.length ++ q).length = l.length + 1 := by rw [List.length_append, List.length_take]; omega
      refine Ev.step (f := fun _ => some l) (fun k => ?_) (Ev.now _)
      simp only [tidemarklaw25_own.l0]
      rw [if_neg (by omega), if_pos (by omega), if_pos (by omega), if_pos (by omega)]
      congr 1
      show ((l.take l.length ++ q).set l.length _).take l.length = l
      rw [List.take_set_of_le (Nat.le_refl _), List.take_length, List.take_left]
    | succ n ih =>
      intro i q hn hi hq
      obtain ⟨x, r, hx⟩ := drop_ex' (l := l) (i := i) (by omega)
      have ht : (l.take i).length = i := by rw [List.length_take]; omega
      obtain ⟨y, q', rfl⟩ : ∃ y q', q = y :: q' := by
        cases q with
        | nil => rw [List.length_nil] at hq; omega
        | cons y q' => exact ⟨y, q', rfl⟩
      rw [List.length_cons] at hq
      have h0 : l[i]? = some x := by
        have := congrArg (fun q : List S36 => q[0]?) hx
        simpa using this
      have htk : l.take (i + 1) = l.take i ++ [x] := by rw [List.take_add_one, h0]; rfl
      have ih' := ih (i + 1) q' (by omega) (by omega) (by omega)
      rw [htk, List.append_assoc] at ih'
      refine Ev.step (fun k => ?_) ih'
      simp only [tidemarklaw25_own.l0]
      rw [if_pos (by omega), if_pos (by omega), if_pos (by rw [List.length_append, List.length_cons]; omega), rd_S l i x r hx, wn2 _ (by omega)]
      congr 1
      show (l.take i ++ y :: q').set i x = l.take i ++ x :: q'
      rw [List.set_append_right _ _ (by omega), ht, Nat.sub_self]
      rfl
  have h := loop l.length 0 (List.replicate (l.length + 1) z36) (by omega) (by omega) (by rw [List.length_replicate]; omega)
  rw [List.take_zero, List.nil_append] at h
  refine Ev.congr (fun k => ?_) h
  unfold tidemarklaw25_own.f
  rw [wn2 _ (by omega), if_pos (by omega), if_pos (by show l.length + 1 ≤ 7036874417766; omega)]
  rfl
theorem over_ev (l : List S36) (hl : l.length ≤ 4611686018427387904) : ∃ q : List S36, q.length = l.length ∧ Ev (fun k => tidemarklaw25_over.f k l) q := by
  have loop : ∀ (n i : Nat) (q : List S36), q.length - i = n → i ≤ q.length → q.length ≤ 4611686018427387904 → ∃ q' : List S36, q'.length = q.length ∧ Ev (fun k => tidemarklaw25_over.l0 k q (i : Int)) q' := by
    intro n
    induction n with
    | zero =>
      intro i q hn hi hq
      refine ⟨q, rfl, Ev.step (f := fun _ => some q) (fun k => ?_) (Ev.now _)⟩
      simp only [tidemarklaw25_over.l0]
      rw [if_neg (by omega)]
    | succ n ih =>
      intro i q hn hi hq
      obtain ⟨q', h1, h2⟩ := ih (i + 1) (q.set ((i : Int)).toNat (⟨2, false, wrap64 ((i : Int) - 3), (⟨#[]⟩ : ByteArray)⟩ : S36)) (by rw [List.length_set]; omega) (by rw [List.length_set]; omega) (by rw [List.length_set]; exact hq)
      rw [List.length_set] at h1
      refine ⟨q', h1, Ev.step (fun k => ?_) h2⟩
      simp only [tidemarklaw25_over.l0]
      rw [if_pos (by omega), if_pos (by omega), wn2 _ (by omega)]
  exact loop l.length 0 l (by omega) (by omega) hl
theorem sameS_ev (l : List S36) (hl : l.length ≤ 4611686018427387904) : Ev (fun k => tidemarkref25_Same.f k l l) true := by
  have loop : ∀ (n i : Nat), l.length - i = n → i ≤ l.length → Ev (fun k => tidemarkref25_Same.l0 k l l (i : Int)) true := by
    intro n
    induction n with
    | zero =>
      intro i hn hi
      refine Ev.step (f := fun _ => some true) (fun k => ?_) (Ev.now _)
      simp only [tidemarkref25_Same.l0]
      rw [if_neg (by omega)]
    | succ n ih =>
      intro i hn hi
      refine Ev.step (fun k => ?_) (ih (i + 1) (by omega) (by omega))
      simp only [tidemarkref25_Same.l0]
      rw [if_pos (by omega), if_pos (by omega), if_pos (by omega), wn2 _ (by omega)]
      refine if_neg ?_
      rw [beq_self_eq_true, beq_self_eq_true, beq_self_eq_true, beq_self_eq_true]
      decide
  exact Ev.congr (fun k => by unfold tidemarkref25_Same.f; rw [if_pos rfl]; rfl) (loop l.length 0 (by omega) (by omega))
theorem left_ev (l : List S36) (hl : l.length ≤ 4611686018427387904) : Ev (fun k => tidemarklaw25_left.f k l l) true :=
  Ev.congr (fun k => by unfold tidemarklaw25_left.f; rw [if_pos ⟨rfl, hl⟩]) (sameS_ev l hl)
end Go.Proofs.YtoieckmegdcaeaaDoor.T
end
