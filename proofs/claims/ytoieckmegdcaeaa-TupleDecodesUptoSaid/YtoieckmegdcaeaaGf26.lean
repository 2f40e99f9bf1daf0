-- Laid by a program of this session (printx.py) over the kit's printer; Lean checks it.
import Derived.Test.YtoieckmegdcaeaaG0
namespace Go.Proofs.Ytoieckmegdcaeaa.G
open Go.RowKit Go.Proofs.YtoieckmegdcaeaaW.PrintWords Go.Proofs.YtoieckmegdcaeaaW.PrintLast Go.Proofs.YtoieckmegdcaeaaW.PrintMore
attribute [local go_sem] max2_int min2_int max_two min_two max_three min_three max_four min_four   -- for this text's walks alone
set_option linter.unusedVariables false
set_option linter.unusedSimpArgs false

/-! ### tuple_whole: function 26 -/
def tuple_whole.l0 : Nat → ByteArray → Int → Bool → Int → Int → Option (Int × Bool)
  | 0, _, _, _, _, _ => none
  | k + 1, x0, x1, x2, x8, x9 => if x9 < x1 then (if 0 ≤ x9 then (if x9 < (x0.size : Int) then (if x2 = true then (if x9 = 0 then (if (Go.bits .xor .u8 IntKind.u8.max (bt x0 x9)) = 0 then (some (0, false)) else (tuple_whole.l0 k x0 x1 x2 (Go.bits .or .u64 (IntKind.u64.wrap (x8 * 256)) (IntKind.u64.wrap (Go.bits .xor .u8 IntKind.u8.max (bt x0 x9)))) (wrap64 (x9 + 1)))) else (tuple_whole.l0 k x0 x1 x2 (Go.bits .or .u64 (IntKind.u64.wrap (x8 * 256)) (IntKind.u64.wrap (Go.bits .xor .u8 IntKind.u8.max (bt x0 x9)))) (wrap64 (x9 + 1)))) else (if x9 = 0 then (if (bt x0 x9) = 0 then (some (0, false)) else (tuple_whole.l0 k x0 x1 x2 (Go.bits .or .u64 (IntKind.u64.wrap (x8 * 256)) (IntKind.u64.wrap (bt x0 x9))) (wrap64 (x9 + 1)))) else (tuple_whole.l0 k x0 x1 x2 (Go.bits .or .u64 (IntKind.u64.wrap (x8 * 256)) (IntKind.u64.wrap (bt x0 x9))) (wrap64 (x9 + 1))))) else (none)) else (none)) else (if x2 = true then (some (wrap64 (-(wrap64 (x8))), decide (x8 ≤ 9223372036854775808))) else (some (wrap64 (x8), decide (x8 ≤ 9223372036854775807))))
def tuple_whole.f (k : Nat) (a0 : ByteArray) (a1 : Int) (a2 : Bool) : Option (Int × Bool) := tuple_whole.l0 k a0 a1 a2 0 0
theorem tuple_whole.mono_l : ∀ k, (∀ y0 y1 y2 y3 y4, LeO (tuple_whole.l0 k y0 y1 y2 y3 y4) (tuple_whole.l0 (k + 1) y0 y1 y2 y3 y4))
  | 0 => fun _ _ _ _ _ r h => by simp [tuple_whole.l0] at h
  | k + 1 => by
    have ih0 := tuple_whole.mono_l k
    · intro y0 y1 y2 y3 y4
      unfold tuple_whole.l0
      repeat' first
      | (with_reducible exact ih0 _ _ _ _ _)
      | (with_reducible exact LeO.refl _)
      | (with_reducible exact LeO.none _)
      | (with_reducible refine LeO.ite ?_ ?_)
      | (with_reducible refine LeO.bind ?_ (fun _ => ?_))
      | exact ih0 _ _ _ _ _
      | exact LeO.none _
      | refine LeO.ite ?_ ?_
      | refine LeO.bind ?_ (fun _ => ?_)
theorem tuple_whole.mono : ∀ a0 a1 a2 k, LeO (tuple_whole.f k a0 a1 a2) (tuple_whole.f (k + 1) a0 a1 a2) := by
  intro a0 a1 a2 k
  have ih0 := tuple_whole.mono_l k
  unfold tuple_whole.f
  repeat' first
      | (with_reducible exact ih0 _ _ _ _ _)
      | (with_reducible exact LeO.refl _)
      | (with_reducible exact LeO.none _)
      | (with_reducible refine LeO.ite ?_ ?_)
      | (with_reducible refine LeO.bind ?_ (fun _ => ?_))
      | exact ih0 _ _ _ _ _
      | exact LeO.none _
      | refine LeO.ite ?_ ?_
      | refine LeO.bind ?_ (fun _ => ?_)
set_option maxHeartbeats 8000000 in
set_option maxRecDepth 100000 in
theorem tuple_whole.calls (k : Nat) (a0 : ByteArray) (a1 : Int) (a2 : Bool) (r1 : Int) (r2 : Bool) (w : World) (h : tuple_whole.f k a0 a1 a2 = some (r1, r2)) :
    Calls Try.prog 26 #[.string a0, .int .i64 a1, .bool a2] w fun e w' => e = .returned (.tuple #[.int .i64 r1, .bool r2]) ∧ Drawn0 w w' := by
  have H : (tuple_whole.l0 k a0 a1 a2 0 0) = some (r1, r2) := h
  clear h
  have H' := Aside0.mk H
  clear H
  go_enter Try.func26, Try.ntmps26
  go_wp2
  go_loopg [8, 9] k (fun kq v8 v9 w' => ∃ (x8_1 : Int) (x9_1 : Int), v8 = .int .u64 x8_1 ∧ v9 = .int .i64 x9_1 ∧ Aside0 (tuple_whole.l0 kq a0 a1 a2 x8_1 x9_1 = some (r1, r2)) ∧ Aside0 (kq ≤ k) ∧ Drawn0 w w')
  case atStart => exact ⟨(0), (0), (by first | rfl | (simp; done) | (simp [*]; done)), (by first | rfl | (simp; done) | (simp [*]; done)), H', ⟨Nat.le_refl _⟩, by repeat (first | exact Drawn0.refl _ | apply Drawn0.step)⟩
  case round =>
    clear H'
    try clear c2
    try clear p2
    obtain ⟨x8_1, x9_1, rfl, rfl, HA, HK1, ⟨m1, rfl⟩⟩ := hrel
    cases gk with
    | zero => exact absurd HA.out (by simp [tuple_whole.l0])
    | succ k1 =>
      have H := HA.out
      clear HA
      simp only [tuple_whole.l0] at H
      by_cases c4 : x9_1 < a1
      · rw [if_pos c4] at H
        have c4b0 : decide (x9_1 < a1) = true := decide_eq_true c4
        clear c4
        by_cases c5 : 0 ≤ x9_1
        · rw [if_pos c5] at H
          have c5b0 : decide (0 ≤ x9_1) = true := decide_eq_true c5
          clear c5
          by_cases c6 : x9_1 < (a0.size : Int)
          · rw [if_pos c6] at H
            have c6b0 : decide (x9_1 < (a0.size : Int)) = true := decide_eq_true c6
            clear c6
            by_cases c8 : a2 = true
            · subst c8
              have H1 : (if x9_1 = 0 then (if (Go.bits .xor .u8 IntKind.u8.max (bt a0 x9_1)) = 0 then (some (0, false)) else (tuple_whole.l0 k1 a0 a1 true (Go.bits .or .u64 (IntKind.u64.wrap (x8_1 * 256)) (IntKind.u64.wrap (Go.bits .xor .u8 IntKind.u8.max (bt a0 x9_1)))) (wrap64 (x9_1 + 1)))) else (tuple_whole.l0 k1 a0 a1 true (Go.bits .or .u64 (IntKind.u64.wrap (x8_1 * 256)) (IntKind.u64.wrap (Go.bits .xor .u8 IntKind.u8.max (bt a0 x9_1)))) (wrap64 (x9_1 + 1)))) = some (r1, r2) := by rw [if_pos rfl] at H; exact H
              clear H
              have H := H1
              clear H1
              by_cases c9 : x9_1 = 0
              · rw [if_pos c9] at H
                have c9b0 : (x9_1 == 0) = true := beq_iff_eq.mpr c9
                have c9b1 : (x9_1 != 0) = false := bne_eq_false_iff_eq.mpr c9
                clear c9
                by_cases c10 : (Go.bits .xor .u8 IntKind.u8.max (bt a0 x9_1)) = 0
                · rw [if_pos c10] at H
                  have c10b0 : ((Go.bits .xor .u8 IntKind.u8.max (bt a0 x9_1)) == 0) = true := beq_iff_eq.mpr c10
                  have c10b2 : ((Go.bits .xor .u8 (if IntKind.u8.signed = true then -1 else IntKind.u8.max) (bt a0 x9_1)) == 0) = true := c10b0
                  have c10b1 : ((Go.bits .xor .u8 IntKind.u8.max (bt a0 x9_1)) != 0) = false := bne_eq_false_iff_eq.mpr c10
                  have c10b3 : ((Go.bits .xor .u8 (if IntKind.u8.signed = true then -1 else IntKind.u8.max) (bt a0 x9_1)) != 0) = false := c10b1
                  clear c10
                  simp only [Option.some.injEq, Prod.mk.injEq] at H
                  obtain ⟨rfl, rfl⟩ := H
                  have p7 : 0 ≤ (x9_1 : Int) := of_decide_eq_true (by first | (with_reducible assumption) | assumption)
                  have q7 : x9_1 < (a0.size : Int) := of_decide_eq_true (by first | (with_reducible assumption) | assumption)
                  have hx7 := bt_at a0 x9_1
                  replace p7 := eq_true p7
                  replace q7 := eq_true q7
                  go_wp2
                  go_ret2
                  exact ⟨by first | rfl | (simp; done) | (simp [*]; done), by repeat (first | exact Drawn0.refl _ | apply Drawn0.step)⟩
                · rw [if_neg c10] at H
                  have c10b0 : ((Go.bits .xor .u8 IntKind.u8.max (bt a0 x9_1)) == 0) = false := beq_eq_false_iff_ne.mpr c10
                  have c10b2 : ((Go.bits .xor .u8 (if IntKind.u8.signed = true then -1 else IntKind.u8.max) (bt a0 x9_1)) == 0) = false := c10b0
                  have c10b1 : ((Go.bits .xor .u8 IntKind.u8.max (bt a0 x9_1)) != 0) = true := bne_iff_ne.mpr c10
                  have c10b3 : ((Go.bits .xor .u8 (if IntKind.u8.signed = true then -1 else IntKind.u8.max) (bt a0 x9_1)) != 0) = true := c10b1
                  have H' := Aside0.mk H
                  clear H
                  have p7 : 0 ≤ (x9_1 : Int) := of_decide_eq_true (by first | (with_reducible assumption) | assumption)
                  have q7 : x9_1 < (a0.size : Int) := of_decide_eq_true (by first | (with_reducible assumption) | assumption)
                  have hx7 := bt_at a0 x9_1
                  replace p7 := eq_true p7
                  replace q7 := eq_true q7
                  go_wp2
                  go_roundg k1
                  case measure => have := HK1.out; omega
                  case rel => exact ⟨(Go.bits .or .u64 (IntKind.u64.wrap (x8_1 * 256)) (IntKind.u64.wrap (Go.bits .xor .u8 IntKind.u8.max (bt a0 x9_1)))), (wrap64 (x9_1 + 1)), (by first | rfl | (simp; done) | (simp [*]; done)), (by first | rfl | (simp; done) | (simp [*]; done)), H', ⟨by have := HK1.out; omega⟩, by repeat (first | exact Drawn0.refl _ | apply Drawn0.step)⟩
              · rw [if_neg c9] at H
                have c9b0 : (x9_1 == 0) = false := beq_eq_false_iff_ne.mpr c9
                have c9b1 : (x9_1 != 0) = true := bne_iff_ne.mpr c9
                have H' := Aside0.mk H
                clear H
                have p7 : 0 ≤ (x9_1 : Int) := of_decide_eq_true (by first | (with_reducible assumption) | assumption)
                have q7 : x9_1 < (a0.size : Int) := of_decide_eq_true (by first | (with_reducible assumption) | assumption)
                have hx7 := bt_at a0 x9_1
                replace p7 := eq_true p7
                replace q7 := eq_true q7
                go_wp2
                go_roundg k1
                case measure => have := HK1.out; omega
                case rel => exact ⟨(Go.bits .or .u64 (IntKind.u64.wrap (x8_1 * 256)) (IntKind.u64.wrap (Go.bits .xor .u8 IntKind.u8.max (bt a0 x9_1)))), (wrap64 (x9_1 + 1)), (by first | rfl | (simp; done) | (simp [*]; done)), (by first | rfl | (simp; done) | (simp [*]; done)), H', ⟨by have := HK1.out; omega⟩, by repeat (first | exact Drawn0.refl _ | apply Drawn0.step)⟩
            · replace c8 := Bool.eq_false_iff.mpr c8
              subst c8
              have H1 : (if x9_1 = 0 then (if (bt a0 x9_1) = 0 then (some (0, false)) else (tuple_whole.l0 k1 a0 a1 false (Go.bits .or .u64 (IntKind.u64.wrap (x8_1 * 256)) (IntKind.u64.wrap (bt a0 x9_1))) (wrap64 (x9_1 + 1)))) else (tuple_whole.l0 k1 a0 a1 false (Go.bits .or .u64 (IntKind.u64.wrap (x8_1 * 256)) (IntKind.u64.wrap (bt a0 x9_1))) (wrap64 (x9_1 + 1)))) = some (r1, r2) := by rw [if_neg (show ¬ (false = true) by decide)] at H; exact H
              clear H
              have H := H1
              clear H1
              by_cases c11 : x9_1 = 0
              · rw [if_pos c11] at H
                have c11b0 : (x9_1 == 0) = true := beq_iff_eq.mpr c11
                have c11b1 : (x9_1 != 0) = false := bne_eq_false_iff_eq.mpr c11
                clear c11
                by_cases c12 : (bt a0 x9_1) = 0
                · rw [if_pos c12] at H
                  have c12b0 : ((bt a0 x9_1) == 0) = true := beq_iff_eq.mpr c12
                  have c12b1 : ((bt a0 x9_1) != 0) = false := bne_eq_false_iff_eq.mpr c12
                  clear c12
                  simp only [Option.some.injEq, Prod.mk.injEq] at H
                  obtain ⟨rfl, rfl⟩ := H
                  have p7 : 0 ≤ (x9_1 : Int) := of_decide_eq_true (by first | (with_reducible assumption) | assumption)
                  have q7 : x9_1 < (a0.size : Int) := of_decide_eq_true (by first | (with_reducible assumption) | assumption)
                  have hx7 := bt_at a0 x9_1
                  replace p7 := eq_true p7
                  replace q7 := eq_true q7
                  go_wp2
                  go_ret2
                  exact ⟨by first | rfl | (simp; done) | (simp [*]; done), by repeat (first | exact Drawn0.refl _ | apply Drawn0.step)⟩
                · rw [if_neg c12] at H
                  have c12b0 : ((bt a0 x9_1) == 0) = false := beq_eq_false_iff_ne.mpr c12
                  have c12b1 : ((bt a0 x9_1) != 0) = true := bne_iff_ne.mpr c12
                  have H' := Aside0.mk H
                  clear H
                  have p7 : 0 ≤ (x9_1 : Int) := of_decide_eq_true (by first | (with_reducible assumption) | assumption)
                  have q7 : x9_1 < (a0.size : Int) := of_decide_eq_true (by first | (with_reducible assumption) | assumption)
                  have hx7 := bt_at a0 x9_1
                  replace p7 := eq_true p7
                  replace q7 := eq_true q7
                  go_wp2
                  go_roundg k1
                  case measure => have := HK1.out; omega
                  case rel => exact ⟨(Go.bits .or .u64 (IntKind.u64.wrap (x8_1 * 256)) (IntKind.u64.wrap (bt a0 x9_1))), (wrap64 (x9_1 + 1)), (by first | rfl | (simp; done) | (simp [*]; done)), (by first | rfl | (simp; done) | (simp [*]; done)), H', ⟨by have := HK1.out; omega⟩, by repeat (first | exact Drawn0.refl _ | apply Drawn0.step)⟩
              · rw [if_neg c11] at H
                have c11b0 : (x9_1 == 0) = false := beq_eq_false_iff_ne.mpr c11
                have c11b1 : (x9_1 != 0) = true := bne_iff_ne.mpr c11
                have H' := Aside0.mk H
                clear H
                have p7 : 0 ≤ (x9_1 : Int) := of_decide_eq_true (by first | (with_reducible assumption) | assumption)
                have q7 : x9_1 < (a0.size : Int) := of_decide_eq_true (by first | (with_reducible assumption) | assumption)
                have hx7 := bt_at a0 x9_1
                replace p7 := eq_true p7
                replace q7 := eq_true q7
                go_wp2
                go_roundg k1
                case measure => have := HK1.out; omega
                case rel => exact ⟨(Go.bits .or .u64 (IntKind.u64.wrap (x8_1 * 256)) (IntKind.u64.wrap (bt a0 x9_1))), (wrap64 (x9_1 + 1)), (by first | rfl | (simp; done) | (simp [*]; done)), (by first | rfl | (simp; done) | (simp [*]; done)), H', ⟨by have := HK1.out; omega⟩, by repeat (first | exact Drawn0.refl _ | apply Drawn0.step)⟩
          · rw [if_neg c6] at H
            exact absurd H (by simp)
        · rw [if_neg c5] at H
          exact absurd H (by simp)
      · rw [if_neg c4] at H
        have c4b0 : decide (x9_1 < a1) = false := decide_eq_false c4
        clear c4
        by_cases c13 : a2 = true
        · subst c13
          have H1 : (some (wrap64 (-(wrap64 (x8_1))), decide (x8_1 ≤ 9223372036854775808))) = some (r1, r2) := by rw [if_pos rfl] at H; exact H
          clear H
          have H := H1
          clear H1
          simp only [Option.some.injEq, Prod.mk.injEq] at H
          obtain ⟨rfl, rfl⟩ := H
          go_wp2
          go_ret2
          exact ⟨by first | rfl | (simp; done) | (simp [*]; done), by repeat (first | exact Drawn0.refl _ | apply Drawn0.step)⟩
        · replace c13 := Bool.eq_false_iff.mpr c13
          subst c13
          have H1 : (some (wrap64 (x8_1), decide (x8_1 ≤ 9223372036854775807))) = some (r1, r2) := by rw [if_neg (show ¬ (false = true) by decide)] at H; exact H
          clear H
          have H := H1
          clear H1
          simp only [Option.some.injEq, Prod.mk.injEq] at H
          obtain ⟨rfl, rfl⟩ := H
          go_wp2
          go_ret2
          exact ⟨by first | rfl | (simp; done) | (simp [*]; done), by repeat (first | exact Drawn0.refl _ | apply Drawn0.step)⟩

end Go.Proofs.Ytoieckmegdcaeaa.G
