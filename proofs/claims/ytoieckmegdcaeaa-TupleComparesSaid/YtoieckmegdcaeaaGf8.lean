-- Laid by a program of this session (printx.py) over the kit's printer; Lean checks it.
import Derived.Test.YtoieckmegdcaeaaG0
import Derived.Test.YtoieckmegdcaeaaGMark
import Derived.Lib.Strings
import Derived.Test.YtoieckmegdcaeaaGf12
namespace Go.Proofs.Ytoieckmegdcaeaa.G
open Go.RowKit Go.Proofs.YtoieckmegdcaeaaW.PrintWords Go.Proofs.YtoieckmegdcaeaaW.PrintLast Go.Proofs.YtoieckmegdcaeaaW.PrintMore
attribute [local go_sem] max2_int min2_int max_two min_two max_three min_three max_four min_four   -- for this text's walks alone
set_option linter.unusedVariables false
set_option linter.unusedSimpArgs false

/-! ### tidemarklaw25_leftP: function 8 -/
def tidemarklaw25_leftP.f (k : Nat) (lf : List (S29)) (l0 : List (S29)) (l1 : List (S29)) : Option (Bool) := if 0 ≤ (wrap64 ((l1.length : Int) + 1)) then (if (wrap64 ((l1.length : Int) + 1)) ≤ (lf.length : Int) then ((some (lf.take ((wrap64 ((l1.length : Int) + 1)) : Int).toNat : List (S29))).bind fun y120 => ((tidemarkref25_Same.f k l0 l1).bind fun t124 => (if t124 = true then (if 0 ≤ (l1.length : Int) then (if (l1.length : Int) < (y120.length : Int) then (if ((rd_T29 y120 (l1.length : Int)).f0) = 77 then (some (((rd_T29 y120 (l1.length : Int)).f3).toList == ([109, 97, 114, 107] : List UInt8))) else (some false)) else (none)) else (none)) else (some false)))) else (none)) else (none)
theorem tidemarklaw25_leftP.mono : ∀ a0 a1 a2 k, LeO (tidemarklaw25_leftP.f k a0 a1 a2) (tidemarklaw25_leftP.f (k + 1) a0 a1 a2) := by
  intro a0 a1 a2 k
  unfold tidemarklaw25_leftP.f
  repeat' first
      | (with_reducible exact tidemarkref25_Same.mono _ _ _)
      | (with_reducible exact LeO.refl _)
      | (with_reducible exact LeO.none _)
      | (with_reducible refine LeO.ite ?_ ?_)
      | (with_reducible refine LeO.bind ?_ (fun _ => ?_))
      | exact tidemarkref25_Same.mono _ _ _
      | exact LeO.none _
      | refine LeO.ite ?_ ?_
      | refine LeO.bind ?_ (fun _ => ?_)
set_option maxHeartbeats 8000000 in
set_option maxRecDepth 100000 in
theorem tidemarklaw25_leftP.calls (k : Nat) (A0 : Option Addr) (c0 : Nat) (lf : List (S29)) (l0 : List (S29)) (A1 : Option Addr) (c1 : Nat) (l1 : List (S29)) (r : Bool) (w : World) (hrf : Kd.C k29 w A0 lf.length lf) (hcf : lf.length ≤ c0) (hr0 : Kd.C k29 w A0 l0.length l0) (hc0 : l0.length ≤ c0) (hr1 : Kd.C k29 w A1 l1.length l1) (hc1 : l1.length ≤ c1) (h : tidemarklaw25_leftP.f k lf l0 l1 = some r) :
    Calls Try.prog 8 #[.slice A0 l0.length c0, .slice A1 l1.length c1] w fun e w' => e = .returned (.bool r) ∧ Drawn0 w w' := by
  have HR0 := Aside0.mk hr0
  have HC0 := Aside0.mk hc0
  clear hr0 hc0
  have HRF := Aside0.mk hrf
  have HCF := Aside0.mk hcf
  clear hrf hcf
  have HR1 := Aside0.mk hr1
  have HC1 := Aside0.mk hc1
  clear hr1 hc1
  have H : (if 0 ≤ (wrap64 ((l1.length : Int) + 1)) then (if (wrap64 ((l1.length : Int) + 1)) ≤ (lf.length : Int) then ((some (lf.take ((wrap64 ((l1.length : Int) + 1)) : Int).toNat : List (S29))).bind fun y120 => ((tidemarkref25_Same.f k l0 l1).bind fun t124 => (if t124 = true then (if 0 ≤ (l1.length : Int) then (if (l1.length : Int) < (y120.length : Int) then (if ((rd_T29 y120 (l1.length : Int)).f0) = 77 then (some (((rd_T29 y120 (l1.length : Int)).f3).toList == ([109, 97, 114, 107] : List UInt8))) else (some false)) else (none)) else (none)) else (some false)))) else (none)) else (none)) = some r := h
  clear h
  obtain ⟨ji3, hji3⟩ : ∃ j_ : Int, (wrap64 ((l1.length : Int) + 1)) = j_ := ⟨_, rfl⟩
  replace H : (if 0 ≤ (ji3) then (if (ji3) ≤ (lf.length : Int) then ((some (lf.take ((ji3) : Int).toNat : List (S29))).bind fun y120 => ((tidemarkref25_Same.f k l0 l1).bind fun t124 => (if t124 = true then (if 0 ≤ (l1.length : Int) then (if (l1.length : Int) < (y120.length : Int) then (if ((rd_T29 y120 (l1.length : Int)).f0) = 77 then (some (((rd_T29 y120 (l1.length : Int)).f3).toList == ([109, 97, 114, 107] : List UInt8))) else (some false)) else (none)) else (none)) else (some false)))) else (none)) else (none)) = some r := by first | (rw [hji3] at H; exact H) | (simp only [hji3] at H ⊢; exact H)
  have hji3w : (IntKind.i64.wrap ((l1.length : Int) + 1)) = ji3 := (i64_w _).trans hji3
  by_cases c4 : 0 ≤ (ji3)
  · rw [if_pos c4] at H
    have c4b0 := eq_true c4
    have c4b1 : decide (0 ≤ (ji3)) = true := decide_eq_true c4
    clear c4
    by_cases c5 : (ji3) ≤ (lf.length : Int)
    · rw [if_pos c5] at H
      have c5b0 := eq_true c5
      have c5b1 : decide ((ji3) ≤ (lf.length : Int)) = true := decide_eq_true c5
      clear c5
      obtain ⟨y120, hy120⟩ : ∃ y_ : List (S29), y_ = (lf.take ((ji3) : Int).toNat) := ⟨_, rfl⟩
      replace H : ((tidemarkref25_Same.f k l0 l1).bind fun t124 => (if t124 = true then (if 0 ≤ (l1.length : Int) then (if (l1.length : Int) < (y120.length : Int) then (if ((rd_T29 y120 (l1.length : Int)).f0) = 77 then (some (((rd_T29 y120 (l1.length : Int)).f3).toList == ([109, 97, 114, 107] : List UInt8))) else (some false)) else (none)) else (none)) else (some false))) = some r := by first | (rw [hy120]; with_reducible exact H) | (have H2_ := (Option.bind_some _ _).symm.trans H; rw [hy120]; with_reducible exact H2_) | (have H2_ := (Option.bind_some _ _).symm.trans H; with_reducible exact H2_) | with_reducible exact H | (rw [hy120]; exact H) | exact H
      have Ny120 := Aside0.mk hy120
      clear hy120
      replace H := Option.bind_eq_some_iff.mp H
      obtain ⟨t124, A60, H⟩ := H
      replace H : (if t124 = true then (if 0 ≤ (l1.length : Int) then (if (l1.length : Int) < (y120.length : Int) then (if ((rd_T29 y120 (l1.length : Int)).f0) = 77 then (some (((rd_T29 y120 (l1.length : Int)).f3).toList == ([109, 97, 114, 107] : List UInt8))) else (some false)) else (none)) else (none)) else (some false)) = some r := H
      have A6 := Aside0.mk A60
      clear A60
      by_cases c7 : t124 = true
      · subst c7
        have H1 : (if 0 ≤ (l1.length : Int) then (if (l1.length : Int) < (y120.length : Int) then (if ((rd_T29 y120 (l1.length : Int)).f0) = 77 then (some (((rd_T29 y120 (l1.length : Int)).f3).toList == ([109, 97, 114, 107] : List UInt8))) else (some false)) else (none)) else (none)) = some r := by rw [if_pos rfl] at H; exact H
        clear H
        have H := H1
        clear H1
        by_cases c8 : 0 ≤ (l1.length : Int)
        · rw [if_pos c8] at H
          have c8b0 : decide (0 ≤ (l1.length : Int)) = true := decide_eq_true c8
          have c8b1 : decide (0 ≤ l1.length) = true := decide_eq_true (by omega)
          clear c8
          by_cases c9 : (l1.length : Int) < (y120.length : Int)
          · rw [if_pos c9] at H
            have c9b0 : decide ((l1.length : Int) < (y120.length : Int)) = true := decide_eq_true c9
            have c9b1 : decide (l1.length < y120.length) = true := decide_eq_true (Int.ofNat_lt.mp c9)
            clear c9
            by_cases c10 : ((rd_T29 y120 (l1.length : Int)).f0) = 77
            · rw [if_pos c10] at H
              have c10b0 : (((rd_T29 y120 (l1.length : Int)).f0) == 77) = true := beq_iff_eq.mpr c10
              have c10b1 : (((rd_T29 y120 (l1.length : Int)).f0) != 77) = false := bne_eq_false_iff_eq.mpr c10
              clear c10
              obtain rfl := Option.some.inj H
              have q11 : ((ji3) : Int) ≤ ((lf.length : Int) : Int) := of_decide_eq_true (by first | (with_reducible assumption) | assumption)
              obtain ⟨i011, hi011, _, hsz11, _⟩ := info_parts info29
              have hroom11 : lf.length ≤ c0 := HCF.out
              have hC11 : Kd.C k29 _ A0 lf.length lf := HRF.out
              have hcut11 := cut_room (P := Try.prog) 22 29 .i64 Try.underlying22 hi011 A0 l0.length c0 (ji3) (of_decide_eq_true (by first | (with_reducible assumption) | assumption)) (by omega)
              have hr11 := Kd.C_take (m := ((ji3) : Int).toNat) hC11 (by omega)
              have hy11 : y120.length = ((ji3) : Int).toNat := (by rw [Ny120.out, List.length_take]; omega)
              rw [← Ny120.out] at hr11
              rw [← hy11] at hcut11
              have HR123 := Aside0.mk hr11
              have HC123 := Aside0.mk (show y120.length ≤ c0 from by omega)
              clear hr11 hC11 hroom11 hi011 hsz11
              have KY11 := Aside0.mk hy11
              clear hy11
              replace q11 := eq_true q11
              go_enter Try.func8, Try.ntmps8
              go_wp2_with (first | ((with_reducible refine gate_callee (f := 12) rfl ?_); refine goesL_ (some 13) rfl rfl Try.func12 (by kernel_rfl) rfl #[.slice A0 l0.length c0, .slice A1 l1.length c1] rfl (by (try simp only [List.map_toArray, List.map_cons, List.map_nil]); first | done | rfl | (simp only [List.length_drop, List.length_take]; rfl)) ?_; (with_reducible refine (tidemarkref25_Same.calls k _ _ l0 _ _ l1 true _ ?side1 ?side2 ?side3 ?side4 A6.out).mono ?_); (case side1 => repeat (first | exact HR0.out | (with_reducible refine Kd.C_alloc ?_ _) | (with_reducible refine Kd.C_drewN ?_ _) | (with_reducible refine Kd.C_drew ?_))); (case side2 => exact HC0.out); (case side3 => repeat (first | exact HR1.out | (with_reducible refine Kd.C_alloc ?_ _) | (with_reducible refine Kd.C_drewN ?_ _) | (with_reducible refine Kd.C_drew ?_))); (case side4 => exact HC1.out); rintro e w' ⟨rfl, ⟨nd, rfl⟩⟩; refine ⟨_, rfl, ?_⟩; have p125 : 0 ≤ ((l1.length : Int) : Int) := of_decide_eq_true (by first | (with_reducible assumption) | assumption); have q125 : (l1.length : Int) < (y120.length : Int) := of_decide_eq_true (by first | (with_reducible assumption) | assumption); obtain ⟨ad125, e125, hx125_0, hx125_1, hx125_2, hx125_3⟩ := at_T29 HR123.out (l1.length : Int) p125 q125; cases e125; (try simp only [Go.IntWalk.toNatUp] at hx125_0); (try simp only [Go.IntWalk.toNatUp] at hx125_1); (try simp only [Go.IntWalk.toNatUp] at hx125_2); (try simp only [Go.IntWalk.toNatUp] at hx125_3); replace p125 := eq_true p125; replace q125 := eq_true q125; have p126 : 0 ≤ ((l1.length : Int) : Int) := of_decide_eq_true (by first | (with_reducible assumption) | assumption); have q126 : (l1.length : Int) < (y120.length : Int) := of_decide_eq_true (by first | (with_reducible assumption) | assumption); obtain ⟨ad126, e126, hx126_0, hx126_1, hx126_2, hx126_3⟩ := at_T29 HR123.out (l1.length : Int) p126 q126; obtain rfl : ad125 = ad126 := (by injection e126); (try simp only [Go.IntWalk.toNatUp] at hx126_0); (try simp only [Go.IntWalk.toNatUp] at hx126_1); (try simp only [Go.IntWalk.toNatUp] at hx126_2); (try simp only [Go.IntWalk.toNatUp] at hx126_3); replace p126 := eq_true p126; replace q126 := eq_true q126))
              go_ret
              exact ⟨by first | rfl | (simp; done) | (simp only [← hji3] <;> (first | rfl | simp)) | (simp [*]; done), by repeat (first | exact Drawn0.refl _ | apply Drawn0.step)⟩
            · rw [if_neg c10] at H
              have c10b0 : (((rd_T29 y120 (l1.length : Int)).f0) == 77) = false := beq_eq_false_iff_ne.mpr c10
              have c10b1 : (((rd_T29 y120 (l1.length : Int)).f0) != 77) = true := bne_iff_ne.mpr c10
              obtain rfl := Option.some.inj H
              have q12 : ((ji3) : Int) ≤ ((lf.length : Int) : Int) := of_decide_eq_true (by first | (with_reducible assumption) | assumption)
              obtain ⟨i012, hi012, _, hsz12, _⟩ := info_parts info29
              have hroom12 : lf.length ≤ c0 := HCF.out
              have hC12 : Kd.C k29 _ A0 lf.length lf := HRF.out
              have hcut12 := cut_room (P := Try.prog) 22 29 .i64 Try.underlying22 hi012 A0 l0.length c0 (ji3) (of_decide_eq_true (by first | (with_reducible assumption) | assumption)) (by omega)
              have hr12 := Kd.C_take (m := ((ji3) : Int).toNat) hC12 (by omega)
              have hy12 : y120.length = ((ji3) : Int).toNat := (by rw [Ny120.out, List.length_take]; omega)
              rw [← Ny120.out] at hr12
              rw [← hy12] at hcut12
              have HR123 := Aside0.mk hr12
              have HC123 := Aside0.mk (show y120.length ≤ c0 from by omega)
              clear hr12 hC12 hroom12 hi012 hsz12
              have KY12 := Aside0.mk hy12
              clear hy12
              replace q12 := eq_true q12
              go_enter Try.func8, Try.ntmps8
              go_wp2_with (first | ((with_reducible refine gate_callee (f := 12) rfl ?_); refine goesL_ (some 13) rfl rfl Try.func12 (by kernel_rfl) rfl #[.slice A0 l0.length c0, .slice A1 l1.length c1] rfl (by (try simp only [List.map_toArray, List.map_cons, List.map_nil]); first | done | rfl | (simp only [List.length_drop, List.length_take]; rfl)) ?_; (with_reducible refine (tidemarkref25_Same.calls k _ _ l0 _ _ l1 true _ ?side1 ?side2 ?side3 ?side4 A6.out).mono ?_); (case side1 => repeat (first | exact HR0.out | (with_reducible refine Kd.C_alloc ?_ _) | (with_reducible refine Kd.C_drewN ?_ _) | (with_reducible refine Kd.C_drew ?_))); (case side2 => exact HC0.out); (case side3 => repeat (first | exact HR1.out | (with_reducible refine Kd.C_alloc ?_ _) | (with_reducible refine Kd.C_drewN ?_ _) | (with_reducible refine Kd.C_drew ?_))); (case side4 => exact HC1.out); rintro e w' ⟨rfl, ⟨nd, rfl⟩⟩; refine ⟨_, rfl, ?_⟩; have p125 : 0 ≤ ((l1.length : Int) : Int) := of_decide_eq_true (by first | (with_reducible assumption) | assumption); have q125 : (l1.length : Int) < (y120.length : Int) := of_decide_eq_true (by first | (with_reducible assumption) | assumption); obtain ⟨ad125, e125, hx125_0, hx125_1, hx125_2, hx125_3⟩ := at_T29 HR123.out (l1.length : Int) p125 q125; cases e125; (try simp only [Go.IntWalk.toNatUp] at hx125_0); (try simp only [Go.IntWalk.toNatUp] at hx125_1); (try simp only [Go.IntWalk.toNatUp] at hx125_2); (try simp only [Go.IntWalk.toNatUp] at hx125_3); replace p125 := eq_true p125; replace q125 := eq_true q125))
              go_ret
              exact ⟨by first | rfl | (simp; done) | (simp only [← hji3] <;> (first | rfl | simp)) | (simp [*]; done), by repeat (first | exact Drawn0.refl _ | apply Drawn0.step)⟩
          · rw [if_neg c9] at H
            exact absurd H (by simp)
        · rw [if_neg c8] at H
          exact absurd H (by simp)
      · replace c7 := Bool.eq_false_iff.mpr c7
        subst c7
        have H1 : (some false) = some r := by rw [if_neg (show ¬ (false = true) by decide)] at H; exact H
        clear H
        have H := H1
        clear H1
        obtain rfl := Option.some.inj H
        have q13 : ((ji3) : Int) ≤ ((lf.length : Int) : Int) := of_decide_eq_true (by first | (with_reducible assumption) | assumption)
        obtain ⟨i013, hi013, _, hsz13, _⟩ := info_parts info29
        have hroom13 : lf.length ≤ c0 := HCF.out
        have hC13 : Kd.C k29 _ A0 lf.length lf := HRF.out
        have hcut13 := cut_room (P := Try.prog) 22 29 .i64 Try.underlying22 hi013 A0 l0.length c0 (ji3) (of_decide_eq_true (by first | (with_reducible assumption) | assumption)) (by omega)
        have hr13 := Kd.C_take (m := ((ji3) : Int).toNat) hC13 (by omega)
        have hy13 : y120.length = ((ji3) : Int).toNat := (by rw [Ny120.out, List.length_take]; omega)
        rw [← Ny120.out] at hr13
        rw [← hy13] at hcut13
        have HR123 := Aside0.mk hr13
        have HC123 := Aside0.mk (show y120.length ≤ c0 from by omega)
        clear hr13 hC13 hroom13 hi013 hsz13
        have KY13 := Aside0.mk hy13
        clear hy13
        replace q13 := eq_true q13
        go_enter Try.func8, Try.ntmps8
        go_wp2_with (first | ((with_reducible refine gate_callee (f := 12) rfl ?_); refine goesL_ (some 13) rfl rfl Try.func12 (by kernel_rfl) rfl #[.slice A0 l0.length c0, .slice A1 l1.length c1] rfl (by (try simp only [List.map_toArray, List.map_cons, List.map_nil]); first | done | rfl | (simp only [List.length_drop, List.length_take]; rfl)) ?_; (with_reducible refine (tidemarkref25_Same.calls k _ _ l0 _ _ l1 false _ ?side1 ?side2 ?side3 ?side4 A6.out).mono ?_); (case side1 => repeat (first | exact HR0.out | (with_reducible refine Kd.C_alloc ?_ _) | (with_reducible refine Kd.C_drewN ?_ _) | (with_reducible refine Kd.C_drew ?_))); (case side2 => exact HC0.out); (case side3 => repeat (first | exact HR1.out | (with_reducible refine Kd.C_alloc ?_ _) | (with_reducible refine Kd.C_drewN ?_ _) | (with_reducible refine Kd.C_drew ?_))); (case side4 => exact HC1.out); rintro e w' ⟨rfl, ⟨nd, rfl⟩⟩; refine ⟨_, rfl, ?_⟩))
        go_ret
        exact ⟨by first | rfl | (simp; done) | (simp only [← hji3] <;> (first | rfl | simp)) | (simp [*]; done), by repeat (first | exact Drawn0.refl _ | apply Drawn0.step)⟩
    · rw [if_neg c5] at H
      exact absurd H (by simp)
  · rw [if_neg c4] at H
    exact absurd H (by simp)


/-- left, where the mark stands behind the list. -/
def tidemarklaw25_left.f (k : Nat) (l0 : List (S29)) (l1 : List (S29)) : Option (Bool) := if l1.length = l0.length ∧ l0.length ≤ 4611686018427387904 then tidemarkref25_Same.f k l0 l1 else none
theorem tidemarklaw25_left.mono : ∀ a0 a1 k, LeO (tidemarklaw25_left.f k a0 a1) (tidemarklaw25_left.f (k + 1) a0 a1) := by
  intro a0 a1 k
  unfold tidemarklaw25_left.f
  exact LeO.ite (tidemarkref25_Same.mono _ _ _) (LeO.none _)
theorem tidemarklaw25_left.same (k : Nat) (l0 : List (S29)) (tl : List (S29)) (l1 : List (S29)) (r : Bool) (h : tidemarklaw25_left.f k l0 l1 = some r) : tidemarklaw25_leftP.f k (l0 ++ (⟨77, false, 0, (⟨#[109, 97, 114, 107]⟩ : ByteArray)⟩ : S29) :: tl) l0 l1 = some r := by
  unfold tidemarklaw25_left.f at h
  split at h
  · rename_i hl
    have hw : wrap64 ((l1.length : Int) + 1) = ((l0.length + 1 : Nat) : Int) := by unfold wrap64; omega
    have ht : (l0 ++ (⟨77, false, 0, (⟨#[109, 97, 114, 107]⟩ : ByteArray)⟩ : S29) :: tl).take (l0.length + 1) = l0 ++ [(⟨77, false, 0, (⟨#[109, 97, 114, 107]⟩ : ByteArray)⟩ : S29)] := by
      rw [List.take_length_add_append]; rfl
    have hrd : rd_T29 (l0 ++ [(⟨77, false, 0, (⟨#[109, 97, 114, 107]⟩ : ByteArray)⟩ : S29)]) (l1.length : Int) = (⟨77, false, 0, (⟨#[109, 97, 114, 107]⟩ : ByteArray)⟩ : S29) := by
      unfold rd_T29
      rw [show ((l1.length : Int)).toNat = l0.length from hl.1, List.getD_eq_getElem?_getD, List.getElem?_append_right (Nat.le_refl _), Nat.sub_self]
      rfl
    unfold tidemarklaw25_leftP.f
    rw [hw, if_pos (by omega), if_pos (by rw [List.length_append, List.length_cons]; omega), show (((l0.length + 1 : Nat) : Int)).toNat = l0.length + 1 from rfl, ht, Option.bind_some, h, Option.bind_some]
    cases r
    · rfl
    · rw [if_pos rfl, if_pos (by omega), if_pos (by rw [List.length_append, List.length_singleton]; omega), hrd, if_pos rfl]
      show some ((⟨#[109, 97, 114, 107]⟩ : ByteArray).toList == ([109, 97, 114, 107] : List UInt8)) = some true
      rw [show (⟨#[109, 97, 114, 107]⟩ : ByteArray).toList = ([109, 97, 114, 107] : List UInt8) from by rw [Lib.toList_data]]
      rfl
  · exact absurd h (by simp)
theorem tidemarklaw25_left.calls (k : Nat) (A0 : Option Addr) (c0 : Nat) (l0 : List (S29)) (m0 : List (S29)) (A1 : Option Addr) (c1 : Nat) (l1 : List (S29)) (r : Bool) (w : World) (hm : ∃ tl, m0 = (⟨77, false, 0, (⟨#[109, 97, 114, 107]⟩ : ByteArray)⟩ : S29) :: tl) (hr0 : Kd.C k29 w A0 (l0 ++ m0).length (l0 ++ m0)) (hc0 : (l0 ++ m0).length ≤ c0) (hr1 : Kd.C k29 w A1 l1.length l1) (hc1 : l1.length ≤ c1) (h : tidemarklaw25_left.f k l0 l1 = some r) :
    Calls Try.prog 8 #[.slice A0 l0.length c0, .slice A1 l1.length c1] w fun e w' => e = .returned (.bool r) ∧ Drawn0 w w' := by
  obtain ⟨tl, rfl⟩ := hm
  have h1 := Kd.C_take (m := l0.length) hr0 (by rw [List.length_append]; omega)
  rw [List.take_left] at h1
  exact tidemarklaw25_leftP.calls k A0 c0 (l0 ++ (⟨77, false, 0, (⟨#[109, 97, 114, 107]⟩ : ByteArray)⟩ : S29) :: tl) l0 A1 c1 l1 r w hr0 hc0 h1 (by rw [List.length_append] at hc0; omega) hr1 hc1 (tidemarklaw25_left.same k l0 tl l1 r h)
end Go.Proofs.Ytoieckmegdcaeaa.G
