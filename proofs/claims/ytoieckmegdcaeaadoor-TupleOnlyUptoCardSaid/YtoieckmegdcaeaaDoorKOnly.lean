-- Packed by a program of this session (pack.py) from texts of this claim.
import Derived.Test.YtoieckmegdcaeaaDoorP9
import Derived.Test.YtoieckmegdcaeaaDoorP13
import Derived.Test.YtoieckmegdcaeaaDoorP11b
import Derived.Test.YtoieckmegdcaeaaDoorP12a
section
namespace Go.Proofs.YtoieckmegdcaeaaDoor.G
open Go.RowKit Go.Proofs.YtoieckmegdcaeaaDoorW.PrintWords Go.Proofs.YtoieckmegdcaeaaDoorW.PrintLast Go.Proofs.YtoieckmegdcaeaaDoorW.PrintMore
attribute [local go_sem] max2_int min2_int max_two min_two max_three min_three max_four min_four   -- for this text's walks alone
set_option linter.unusedVariables false
set_option linter.unusedSimpArgs false

/-! ### tidemarklaw25_TupleOnly: function 8 -/
def tidemarklaw25_TupleOnly.j0 : Nat → ByteArray → Bool → Option (Bool)
  | 0, _, _ => none
  | k + 1, x0, x38 => if x38 = true then (some false) else ((tuple_Decode.f k x0).bind fun bt319 => (if bt319.2 = 0 then ((tuple_Encode.f k bt319.1).bind fun bt323 => (if bt323.2 = 0 then (some (bt323.1.toList == x0.toList)) else (some false))) else (if bt319.2 = 250 then (some ((bt319.1.length : Int) == 0)) else (some false))))
def tidemarklaw25_TupleOnly.f (k : Nat) (a0 : ByteArray) : Option (Bool) := (some (([(⟨0, false, 0, (⟨#[]⟩ : ByteArray)⟩ : S36), (⟨2, false, 5, (⟨#[]⟩ : ByteArray)⟩ : S36), (⟨3, false, 0, a0⟩ : S36)] : List (S36)) : List (S36))).bind fun y309 => ((tuple_Encode.f k y309).bind fun bt312 => ((tuple_Decode.f k bt312.1).bind fun bt314 => (if bt312.2 = 0 then (if bt314.2 = 0 then ((tidemarkref25_Same.f k bt314.1 y309).bind fun t318 => (tidemarklaw25_TupleOnly.j0 k a0 (!t318))) else (tidemarklaw25_TupleOnly.j0 k a0 true)) else (tidemarklaw25_TupleOnly.j0 k a0 true))))
theorem tidemarklaw25_TupleOnly.mono_l : ∀ k, (∀ y0 y1, LeO (tidemarklaw25_TupleOnly.j0 k y0 y1) (tidemarklaw25_TupleOnly.j0 (k + 1) y0 y1))
  | 0 => fun _ _ r h => by simp [tidemarklaw25_TupleOnly.j0] at h
  | k + 1 => by
    have ih0 := tidemarklaw25_TupleOnly.mono_l k
    · intro y0 y1
      unfold tidemarklaw25_TupleOnly.j0
      repeat' first
      | (with_reducible exact ih0 _ _)
      | (with_reducible exact tidemarkref25_Same.mono _ _ _)
      | (with_reducible exact tuple_Decode.mono _ _)
      | (with_reducible exact tuple_Encode.mono _ _)
      | (with_reducible exact LeO.refl _)
      | (with_reducible exact LeO.none _)
      | (with_reducible refine LeO.ite ?_ ?_)
      | (with_reducible refine LeO.bind ?_ (fun _ => ?_))
      | exact ih0 _ _
      | exact tidemarkref25_Same.mono _ _ _
      | exact tuple_Decode.mono _ _
      | exact tuple_Encode.mono _ _
      | exact LeO.none _
      | refine LeO.ite ?_ ?_
      | refine LeO.bind ?_ (fun _ => ?_)
theorem tidemarklaw25_TupleOnly.mono : ∀ a0 k, LeO (tidemarklaw25_TupleOnly.f k a0) (tidemarklaw25_TupleOnly.f (k + 1) a0) := by
  intro a0 k
  have ih0 := tidemarklaw25_TupleOnly.mono_l k
  unfold tidemarklaw25_TupleOnly.f
  repeat' first
      | (with_reducible exact ih0 _ _)
      | (with_reducible exact tidemarkref25_Same.mono _ _ _)
      | (with_reducible exact tuple_Decode.mono _ _)
      | (with_reducible exact tuple_Encode.mono _ _)
      | (with_reducible exact LeO.refl _)
      | (with_reducible exact LeO.none _)
      | (with_reducible refine LeO.ite ?_ ?_)
      | (with_reducible refine LeO.bind ?_ (fun _ => ?_))
      | exact ih0 _ _
      | exact tidemarkref25_Same.mono _ _ _
      | exact tuple_Decode.mono _ _
      | exact tuple_Encode.mono _ _
      | exact LeO.none _
      | refine LeO.ite ?_ ?_
      | refine LeO.bind ?_ (fun _ => ?_)
set_option maxHeartbeats 8000000 in
set_option maxRecDepth 100000 in
theorem tidemarklaw25_TupleOnly.calls (k : Nat) (a0 : ByteArray) (r : Bool) (w : World) (h : tidemarklaw25_TupleOnly.f k a0 = some r) (tb : Tb w) (ht : r = true) :
    Calls Tryd.prog 8 #[.string a0] w fun e w' => e = .returned (.bool r) ∧ Below w.heap.size w w' := by
  have HT0 := Aside0.mk ht
  clear ht
  have TB := Aside0.mk tb
  clear tb
  have hu36 := Tryd.underlying36
  have HB := Aside0.mk (Below.refl w.heap.size w)
  have H : ((some (([(⟨0, false, 0, (⟨#[]⟩ : ByteArray)⟩ : S36), (⟨2, false, 5, (⟨#[]⟩ : ByteArray)⟩ : S36), (⟨3, false, 0, a0⟩ : S36)] : List (S36)) : List (S36))).bind fun y309 => ((tuple_Encode.f k y309).bind fun bt312 => ((tuple_Decode.f k bt312.1).bind fun bt314 => (if bt312.2 = 0 then (if bt314.2 = 0 then ((tidemarkref25_Same.f k bt314.1 y309).bind fun t318 => (tidemarklaw25_TupleOnly.j0 k a0 (!t318))) else (tidemarklaw25_TupleOnly.j0 k a0 true)) else (tidemarklaw25_TupleOnly.j0 k a0 true))))) = some r := h
  clear h
  obtain ⟨y309, hy309⟩ : ∃ y_ : List (S36), y_ = (([(⟨0, false, 0, (⟨#[]⟩ : ByteArray)⟩ : S36), (⟨2, false, 5, (⟨#[]⟩ : ByteArray)⟩ : S36), (⟨3, false, 0, a0⟩ : S36)] : List (S36))) := ⟨_, rfl⟩
  replace H : ((tuple_Encode.f k y309).bind fun bt312 => ((tuple_Decode.f k bt312.1).bind fun bt314 => (if bt312.2 = 0 then (if bt314.2 = 0 then ((tidemarkref25_Same.f k bt314.1 y309).bind fun t318 => (tidemarklaw25_TupleOnly.j0 k a0 (!t318))) else (tidemarklaw25_TupleOnly.j0 k a0 true)) else (tidemarklaw25_TupleOnly.j0 k a0 true)))) = some r := by first | (rw [hy309]; with_reducible exact H) | (have H2_ := (Option.bind_some _ _).symm.trans H; rw [hy309]; with_reducible exact H2_) | (have H2_ := (Option.bind_some _ _).symm.trans H; with_reducible exact H2_) | with_reducible exact H | (rw [hy309]; exact H) | exact H
  have Ny309 := Aside0.mk hy309
  clear hy309
  replace H := Option.bind_eq_some_iff.mp H
  obtain ⟨⟨t312, t313⟩, A20, H⟩ := H
  replace H : ((tuple_Decode.f k t312).bind fun bt314 => (if t313 = 0 then (if bt314.2 = 0 then ((tidemarkref25_Same.f k bt314.1 y309).bind fun t318 => (tidemarklaw25_TupleOnly.j0 k a0 (!t318))) else (tidemarklaw25_TupleOnly.j0 k a0 true)) else (tidemarklaw25_TupleOnly.j0 k a0 true))) = some r := H
  have A2 := Aside0.mk A20
  clear A20
  replace H := Option.bind_eq_some_iff.mp H
  obtain ⟨⟨t314, t315⟩, A30, H⟩ := H
  replace H : (if t313 = 0 then (if t315 = 0 then ((tidemarkref25_Same.f k t314 y309).bind fun t318 => (tidemarklaw25_TupleOnly.j0 k a0 (!t318))) else (tidemarklaw25_TupleOnly.j0 k a0 true)) else (tidemarklaw25_TupleOnly.j0 k a0 true)) = some r := H
  have A3 := Aside0.mk A30
  clear A30
  have HC4 := Aside0.mk H
  clear H
  go_enter Tryd.func8, Tryd.ntmps8
  go_upto_region 4 with (first | ((with_reducible refine gate_dst (N := 16) rfl ?_); (try (refine gate_guard (by rfl) ?_; dsimp only)); refine Kd.R_lit k36 _ 36 ?hg (N := 16) ?hd (xs := ([(⟨0, false, 0, (⟨#[]⟩ : ByteArray)⟩ : S36), (⟨2, false, 5, (⟨#[]⟩ : ByteArray)⟩ : S36), (⟨3, false, 0, a0⟩ : S36)] : List (S36))) (inner := [.int .i64 0, .bool false, .int .i64 0, .string (⟨#[]⟩ : ByteArray), .int .i64 2, .bool false, .int .i64 5, .string (⟨#[]⟩ : ByteArray), .int .i64 3, .bool false, .int .i64 0, .string a0]) (ok := fun _ => True) (okp := fun _ => True) ?hr ?hp (fun _ hk => hk) trivial (Below.refl _ _) (Nat.le_refl _) (by simp) ?_; (case hd => rfl); (case hg => rfl); (case hr => first | (go_simp; done) | (go_simp; rfl)); (case hp => exact (Reps.c4 (show Kd.M k36 _ _ _ (⟨0, false, 0, (⟨#[]⟩ : ByteArray)⟩ : S36) [.int .i64 0, .bool false, .int .i64 0, .string (⟨#[]⟩ : ByteArray)] from (k36_mkM _ _ _ (⟨0, false, 0, (⟨#[]⟩ : ByteArray)⟩ : S36) )) (Reps.c4 (show Kd.M k36 _ _ _ (⟨2, false, 5, (⟨#[]⟩ : ByteArray)⟩ : S36) [.int .i64 2, .bool false, .int .i64 5, .string (⟨#[]⟩ : ByteArray)] from (k36_mkM _ _ _ (⟨2, false, 5, (⟨#[]⟩ : ByteArray)⟩ : S36) )) (Reps.c4 (show Kd.M k36 _ _ _ (⟨3, false, 0, a0⟩ : S36) [.int .i64 3, .bool false, .int .i64 0, .string a0] from (k36_mkM _ _ _ (⟨3, false, 0, a0⟩ : S36) )) (Reps.none _ _))))); intro v310 w5 ho6 hb hg_ hnew_; clear hg_ hnew_; (first | rw [← Ny309.out] at ho6 | (simp only [Int.reduceToNat] at ho6; rw [← Ny309.out] at ho6)); have n0_ := Aside0.mk (Kd.R_lower ho6 (below_size (by repeat (first | (with_reducible first | exact HB.out | apply below_alloc | apply pw_below_drewN | apply below_drew1) | exact HB.out)))); have n1_ := Aside0.mk (below_step (by repeat (first | (with_reducible first | exact HB.out | apply below_alloc | apply pw_below_drewN | apply below_drew1) | exact HB.out)) hb); clear HB; have HO311 := n0_; have HB := n1_; clear n0_ n1_; clear hb ho6; obtain ⟨Ao7, co7, eo7⟩ := Kd.R_slice HO311.out; subst eo7) | ((with_reducible refine gate_callee (f := 14) rfl ?_); refine goesL_ (some 19) rfl rfl Tryd.func14 (by kernel_rfl) rfl #[.slice Ao7 y309.length co7] rfl (by (try simp only [List.map_toArray, List.map_cons, List.map_nil]); first | done | rfl | (simp only [List.length_drop, List.length_take]; rfl)) ?_; (with_reducible refine (tuple_Encode.calls k _ _ y309 t312 t313 _ ?side1 ?side2 A2.out (Tb.keep TB.out ?sideT)).mono ?_); (case side1 => repeat (first | exact (Kd.R_reads' HO311.out).2.2 | (with_reducible refine Kd.C_alloc ?_ _) | (with_reducible refine Kd.C_drewN ?_ _) | (with_reducible refine Kd.C_drew ?_))); (case side2 => exact (Kd.R_reads' HO311.out).2.1); (case sideT => repeat (first | (with_reducible first | exact HB.out | apply below_alloc | apply pw_below_drewN | apply below_drew1) | exact HB.out)); rintro e w8 ⟨rfl, hb⟩; refine ⟨_, rfl, ?_⟩; have n0_ := Aside0.mk (Kd.R_below (by (with_reducible repeat (first | apply Kd.R_alloc | apply Kd.R_drewN | apply Kd.R_drew)); exact HO311.out) hb); have n1_ := Aside0.mk (below_step (by repeat (first | (with_reducible first | exact HB.out | apply below_alloc | apply pw_below_drewN | apply below_drew1) | exact HB.out)) hb); clear HO311; clear HB; have HO311 := n0_; have HB := n1_; clear n0_ n1_; (try clear hb); (try clear hb2); (try clear hk); (try clear hi)) | ((with_reducible refine gate_callee (f := 24) rfl ?_); refine goesL_ (some 24) rfl rfl Tryd.func24 (by kernel_rfl) rfl #[.string t312] rfl (by (try simp only [List.map_toArray, List.map_cons, List.map_nil]); first | done | rfl | (simp only [List.length_drop, List.length_take]; rfl)) ?_; (with_reducible refine (tuple_Decode.calls k t312 t314 t315 _ A3.out).mono ?_); rintro e w9 ⟨v316, rfl, ho0, hb⟩; refine ⟨_, rfl, ?_⟩; have n0_ := Aside0.mk (Kd.R_elder' (by (with_reducible repeat (first | apply Kd.R_alloc | apply Kd.R_drewN | apply Kd.R_drew)); exact HO311.out) (Kd.R_base ho0) hb); have n1_ := Aside0.mk (Kd.R_lower (Kd.R_new' ho0 (Kd.R_lt (by (with_reducible repeat (first | apply Kd.R_alloc | apply Kd.R_drewN | apply Kd.R_drew)); exact HO311.out))) (below_size (by repeat (first | (with_reducible first | exact HB.out | apply below_alloc | apply pw_below_drewN | apply below_drew1) | exact HB.out)))); have n2_ := Aside0.mk (below_step (by repeat (first | (with_reducible first | exact HB.out | apply below_alloc | apply pw_below_drewN | apply below_drew1) | exact HB.out)) hb); clear HO311; clear HB; have HO311 := n0_; have HO317 := n1_; have HB := n2_; clear n0_ n1_ n2_; (try clear hb); (try clear hb2); (try clear hk); (try clear hi); (try clear ho0)))
  (try simp only [Act.put, List.setIfInBounds_toArray, List.set_cons_zero, List.set_cons_succ])
  go_cut [38] (fun v38 wc => ∃ (kq : Nat) (x38_3 : Bool), v38 = .bool x38_3 ∧ Aside0 (tidemarklaw25_TupleOnly.j0 kq a0 x38_3 = some r) ∧ Aside0 (kq ≤ k) ∧ Aside0 (Below w.heap.size w wc))
  case first =>
    have H := HC4.out
    clear HC4
    by_cases c10 : t313 = 0
    · rw [if_pos c10] at H
      have c10b0 : (t313 == 0) = true := beq_iff_eq.mpr c10
      have c10b1 : (t313 != 0) = false := bne_eq_false_iff_eq.mpr c10
      clear c10
      (first | rw [c10b0] | (simp only [i64_w, i32_w]; rw [c10b0]) | skip)
      by_cases c11 : t315 = 0
      · rw [if_pos c11] at H
        have c11b0 : (t315 == 0) = true := beq_iff_eq.mpr c11
        have c11b1 : (t315 != 0) = false := bne_eq_false_iff_eq.mpr c11
        clear c11
        replace H := Option.bind_eq_some_iff.mp H
        obtain ⟨t318, A120, H⟩ := H
        replace H : (tidemarklaw25_TupleOnly.j0 k a0 (!t318)) = some r := H
        have A12 := Aside0.mk A120
        clear A120
        have H' := Aside0.mk H
        clear H
        obtain ⟨Ao13, co13, eo13⟩ := Kd.R_slice HO317.out
        subst eo13
        go_wp2_with (first | (go_at_call 23; (with_reducible refine (tidemarkref25_Same.calls k _ _ t314 _ _ y309 t318 _ ?side1 ?side2 ?side3 ?side4 A12.out).mono ?_); (case side1 => repeat (first | exact (Kd.R_reads' HO317.out).2.2 | (with_reducible refine Kd.C_alloc ?_ _) | (with_reducible refine Kd.C_drewN ?_ _) | (with_reducible refine Kd.C_drew ?_))); (case side2 => exact (Kd.R_reads' HO317.out).2.1); (case side3 => repeat (first | exact (Kd.R_reads' HO311.out).2.2 | (with_reducible refine Kd.C_alloc ?_ _) | (with_reducible refine Kd.C_drewN ?_ _) | (with_reducible refine Kd.C_drew ?_))); (case side4 => exact (Kd.R_reads' HO311.out).2.1); rintro e w' ⟨rfl, ⟨nd, rfl⟩⟩))
        go_meet
        case rel => exact ⟨_, (!t318), (by first | rfl | (simp; done) | (simp [*]; done)), H', ⟨by first | omega | exact Nat.le_refl _⟩, ⟨by repeat (first | (with_reducible first | exact HB.out | apply below_alloc | apply pw_below_drewN | apply below_drew1) | exact HB.out)⟩⟩
      · rw [if_neg c11] at H
        have c11b0 : (t315 == 0) = false := beq_eq_false_iff_ne.mpr c11
        have c11b1 : (t315 != 0) = true := bne_iff_ne.mpr c11
        have H' := Aside0.mk H
        clear H
        go_wp2
        go_meet
        case rel => exact ⟨_, (true), (by first | rfl | (simp; done) | (simp [*]; done)), H', ⟨by first | omega | exact Nat.le_refl _⟩, ⟨by repeat (first | (with_reducible first | exact HB.out | apply below_alloc | apply pw_below_drewN | apply below_drew1) | exact HB.out)⟩⟩
    · rw [if_neg c10] at H
      have c10b0 : (t313 == 0) = false := beq_eq_false_iff_ne.mpr c10
      have c10b1 : (t313 != 0) = true := bne_iff_ne.mpr c10
      (first | rw [c10b0] | (simp only [i64_w, i32_w]; rw [c10b0]) | skip)
      have H' := Aside0.mk H
      clear H
      go_wp2
      go_meet
      case rel => exact ⟨_, (true), (by first | rfl | (simp; done) | (simp [*]; done)), H', ⟨by first | omega | exact Nat.le_refl _⟩, ⟨by repeat (first | (with_reducible first | exact HB.out | apply below_alloc | apply pw_below_drewN | apply below_drew1) | exact HB.out)⟩⟩
  case rest =>
    clear HC4
    try clear c1
    try clear c2
    try clear p2
    try clear c4
    try clear c8
    try clear c10
    try clear c10b0
    try clear c10b1
    try clear c11
    try clear c11b0
    try clear c11b1
    obtain ⟨kq, x38_3, rfl, HA, HJ3, HB⟩ := hcut
    cases kq with
    | zero => exact absurd HA.out (by simp [tidemarklaw25_TupleOnly.j0])
    | succ kj3 =>
      have H := HA.out
      clear HA
      simp only [tidemarklaw25_TupleOnly.j0] at H
      by_cases c14 : x38_3 = true
      · subst c14
        have H1 : (some false) = some r := by rw [if_pos rfl] at H; exact H
        clear H
        have H := H1
        clear H1
        exact absurd ((Option.some.inj H).trans HT0.out) (by decide)
      · replace c14 := Bool.eq_false_iff.mpr c14
        subst c14
        have H1 : ((tuple_Decode.f kj3 a0).bind fun bt319 => (if bt319.2 = 0 then ((tuple_Encode.f kj3 bt319.1).bind fun bt323 => (if bt323.2 = 0 then (some (bt323.1.toList == a0.toList)) else (some false))) else (if bt319.2 = 250 then (some ((bt319.1.length : Int) == 0)) else (some false)))) = some r := by rw [if_neg (show ¬ (false = true) by decide)] at H; exact H
        clear H
        have H := H1
        clear H1
        replace H := Option.bind_eq_some_iff.mp H
        obtain ⟨⟨t319, t320⟩, A150, H⟩ := H
        replace H : (if t320 = 0 then ((tuple_Encode.f kj3 t319).bind fun bt323 => (if bt323.2 = 0 then (some (bt323.1.toList == a0.toList)) else (some false))) else (if t320 = 250 then (some ((t319.length : Int) == 0)) else (some false))) = some r := H
        have A15 := Aside0.mk A150
        clear A150
        by_cases c16 : t320 = 0
        · rw [if_pos c16] at H
          have c16b0 : (t320 == 0) = true := beq_iff_eq.mpr c16
          have c16b1 : (t320 != 0) = false := bne_eq_false_iff_eq.mpr c16
          clear c16
          replace H := Option.bind_eq_some_iff.mp H
          obtain ⟨⟨t323, t324⟩, A170, H⟩ := H
          replace H : (if t324 = 0 then (some (t323.toList == a0.toList)) else (some false)) = some r := H
          have A17 := Aside0.mk A170
          clear A170
          by_cases c18 : t324 = 0
          · rw [if_pos c18] at H
            have c18b0 : (t324 == 0) = true := beq_iff_eq.mpr c18
            have c18b1 : (t324 != 0) = false := bne_eq_false_iff_eq.mpr c18
            clear c18
            obtain rfl := Option.some.inj H
            go_wp2_with (first | ((with_reducible refine gate_callee (f := 24) rfl ?_); refine goesL_ (some 41) rfl rfl Tryd.func24 (by kernel_rfl) rfl #[.string a0] rfl (by (try simp only [List.map_toArray, List.map_cons, List.map_nil]); first | done | rfl | (simp only [List.length_drop, List.length_take]; rfl)) ?_; (with_reducible refine (tuple_Decode.calls kj3 a0 t319 t320 _ A15.out).mono ?_); rintro e w19 ⟨v321, rfl, ho0, hb⟩; refine ⟨_, rfl, ?_⟩; have n0_ := Aside0.mk (Kd.R_lower ho0 (below_size (by repeat (first | (with_reducible first | exact HB.out | apply below_alloc | apply pw_below_drewN | apply below_drew1) | exact HB.out)))); have n1_ := Aside0.mk (below_step (by repeat (first | (with_reducible first | exact HB.out | apply below_alloc | apply pw_below_drewN | apply below_drew1) | exact HB.out)) hb); clear HB; have HO322 := n0_; have HB := n1_; clear n0_ n1_; (try clear hb); (try clear hb2); (try clear hk); (try clear hi); (try clear ho0); obtain ⟨Ao20, co20, eo20⟩ := Kd.R_slice HO322.out; subst eo20) | ((with_reducible refine gate_callee (f := 14) rfl ?_); refine goesL_ (some 55) rfl rfl Tryd.func14 (by kernel_rfl) rfl #[.slice Ao20 t319.length co20] rfl (by (try simp only [List.map_toArray, List.map_cons, List.map_nil]); first | done | rfl | (simp only [List.length_drop, List.length_take]; rfl)) ?_; (with_reducible refine (tuple_Encode.calls kj3 _ _ t319 t323 t324 _ ?side1 ?side2 A17.out (Tb.keep TB.out ?sideT)).mono ?_); (case side1 => repeat (first | exact (Kd.R_reads' HO322.out).2.2 | (with_reducible refine Kd.C_alloc ?_ _) | (with_reducible refine Kd.C_drewN ?_ _) | (with_reducible refine Kd.C_drew ?_))); (case side2 => exact (Kd.R_reads' HO322.out).2.1); (case sideT => repeat (first | (with_reducible first | exact HB.out | apply below_alloc | apply pw_below_drewN | apply below_drew1) | exact HB.out)); rintro e w21 ⟨rfl, hb⟩; refine ⟨_, rfl, ?_⟩; have n0_ := Aside0.mk (Kd.R_below (by (with_reducible repeat (first | apply Kd.R_alloc | apply Kd.R_drewN | apply Kd.R_drew)); exact HO322.out) hb); have n1_ := Aside0.mk (below_step (by repeat (first | (with_reducible first | exact HB.out | apply below_alloc | apply pw_below_drewN | apply below_drew1) | exact HB.out)) hb); clear HO322; clear HB; have HO322 := n0_; have HB := n1_; clear n0_ n1_; (try clear hb); (try clear hb2); (try clear hk); (try clear hi)))
            go_ret
            exact ⟨by first | rfl | (simp [errW_none, errW_some] <;> rfl) | (simp [*, errW_none, errW_some] <;> rfl), by repeat (first | (with_reducible first | exact HB.out | apply below_alloc | apply pw_below_drewN | apply below_drew1) | exact HB.out)⟩
          · rw [if_neg c18] at H
            have c18b0 : (t324 == 0) = false := beq_eq_false_iff_ne.mpr c18
            have c18b1 : (t324 != 0) = true := bne_iff_ne.mpr c18
            exact absurd ((Option.some.inj H).trans HT0.out) (by decide)
        · rw [if_neg c16] at H
          have c16b0 : (t320 == 0) = false := beq_eq_false_iff_ne.mpr c16
          have c16b1 : (t320 != 0) = true := bne_iff_ne.mpr c16
          by_cases c25 : t320 = 250
          · rw [if_pos c25] at H
            have c25b0 : (t320 == 250) = true := beq_iff_eq.mpr c25
            have c25b1 : (t320 != 250) = false := bne_eq_false_iff_eq.mpr c25
            clear c25
            obtain rfl := Option.some.inj H
            go_wp2_with (first | ((with_reducible refine gate_callee (f := 24) rfl ?_); refine goesL_ (some 41) rfl rfl Tryd.func24 (by kernel_rfl) rfl #[.string a0] rfl (by (try simp only [List.map_toArray, List.map_cons, List.map_nil]); first | done | rfl | (simp only [List.length_drop, List.length_take]; rfl)) ?_; (with_reducible refine (tuple_Decode.calls kj3 a0 t319 t320 _ A15.out).mono ?_); rintro e w26 ⟨v321, rfl, ho0, hb⟩; refine ⟨_, rfl, ?_⟩; have n0_ := Aside0.mk (Kd.R_lower ho0 (below_size (by repeat (first | (with_reducible first | exact HB.out | apply below_alloc | apply pw_below_drewN | apply below_drew1) | exact HB.out)))); have n1_ := Aside0.mk (below_step (by repeat (first | (with_reducible first | exact HB.out | apply below_alloc | apply pw_below_drewN | apply below_drew1) | exact HB.out)) hb); clear HB; have HO322 := n0_; have HB := n1_; clear n0_ n1_; (try clear hb); (try clear hb2); (try clear hk); (try clear hi); (try clear ho0); obtain ⟨Ao27, co27, eo27⟩ := Kd.R_slice HO322.out; subst eo27))
            go_ret
            exact ⟨by first | rfl | (simp [errW_none, errW_some] <;> rfl) | (simp [*, errW_none, errW_some] <;> rfl), by repeat (first | (with_reducible first | exact HB.out | apply below_alloc | apply pw_below_drewN | apply below_drew1) | exact HB.out)⟩
          · rw [if_neg c25] at H
            have c25b0 : (t320 == 250) = false := beq_eq_false_iff_ne.mpr c25
            have c25b1 : (t320 != 250) = true := bne_iff_ne.mpr c25
            exact absurd ((Option.some.inj H).trans HT0.out) (by decide)
end Go.Proofs.YtoieckmegdcaeaaDoor.G
end
