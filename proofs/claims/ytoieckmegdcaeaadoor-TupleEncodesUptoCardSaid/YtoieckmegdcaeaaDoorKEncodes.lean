-- Packed by a program of this session (pack.py) from texts of this claim.
import Derived.Test.YtoieckmegdcaeaaDoorP9
import Derived.Lib.Strings
import Derived.Test.YtoieckmegdcaeaaDoorP10a
import Derived.Test.YtoieckmegdcaeaaDoorP12a
import Derived.Test.YtoieckmegdcaeaaDoorP13
import Derived.Test.YtoieckmegdcaeaaDoorP11b
import Derived.Test.YtoieckmegdcaeaaDoorP12b
import Derived.Test.YtoieckmegdcaeaaDoorP10b
section
namespace Go.Proofs.YtoieckmegdcaeaaDoor.G
open Go.RowKit Go.Proofs.YtoieckmegdcaeaaDoorW.PrintWords Go.Proofs.YtoieckmegdcaeaaDoorW.PrintLast Go.Proofs.YtoieckmegdcaeaaDoorW.PrintMore
attribute [local go_sem] max2_int min2_int max_two min_two max_three min_three max_four min_four   -- for this text's walks alone
set_option linter.unusedVariables false
set_option linter.unusedSimpArgs false

/-! ### tidemarklaw25_TupleEncodes: function 3 -/
def tidemarklaw25_TupleEncodes.j0 : Nat → List (S36) → Bool → Option (Bool)
  | 0, _, _ => none
  | k + 1, x3, x46 => if x46 = true then (some false) else ((tidemarklaw25_over.f k x3).bind fun t190 => ((tuple_Encode.f k t190).bind fun bt191 => ((tidemarkref25_Encode.f k t190).bind fun bt193 => ((tuple_Valid.f k t190).bind fun t195 => ((tidemarkref25_Valid.f k t190).bind fun t196 => (if t195 = t196 then (if bt191.1.toList = bt193.1.toList then (some (bt191.2 == bt193.2)) else (some false)) else (some false)))))))
def tidemarklaw25_TupleEncodes.f (k : Nat) (l0 : List (S36)) : Option (Bool) := (tidemarklaw25_own.f k l0).bind fun t180 => ((tuple_Valid.f k t180).bind fun t183 => ((tuple_Encode.f k t180).bind fun bt184 => ((tidemarkref25_Encode.f k l0).bind fun bt186 => ((tidemarkref25_Valid.f k l0).bind fun t188 => (if t183 = t188 then (if bt184.1.toList = bt186.1.toList then (if bt184.2 = bt186.2 then ((tidemarklaw25_left.f k t180 l0).bind fun t189 => (tidemarklaw25_TupleEncodes.j0 k t180 (!t189))) else (tidemarklaw25_TupleEncodes.j0 k t180 true)) else (tidemarklaw25_TupleEncodes.j0 k t180 true)) else (tidemarklaw25_TupleEncodes.j0 k t180 true))))))
theorem tidemarklaw25_TupleEncodes.mono_l : ∀ k, (∀ y0 y1, LeO (tidemarklaw25_TupleEncodes.j0 k y0 y1) (tidemarklaw25_TupleEncodes.j0 (k + 1) y0 y1))
  | 0 => fun _ _ r h => by simp [tidemarklaw25_TupleEncodes.j0] at h
  | k + 1 => by
    have ih0 := tidemarklaw25_TupleEncodes.mono_l k
    · intro y0 y1
      unfold tidemarklaw25_TupleEncodes.j0
      repeat' first
      | (with_reducible exact ih0 _ _)
      | (with_reducible exact tidemarklaw25_left.mono _ _ _)
      | (with_reducible exact tidemarklaw25_over.mono _ _)
      | (with_reducible exact tidemarklaw25_own.mono _ _)
      | (with_reducible exact tidemarkref25_Encode.mono _ _)
      | (with_reducible exact tidemarkref25_Valid.mono _ _)
      | (with_reducible exact tuple_Encode.mono _ _)
      | (with_reducible exact tuple_Valid.mono _ _)
      | (with_reducible exact LeO.refl _)
      | (with_reducible exact LeO.none _)
      | (with_reducible refine LeO.ite ?_ ?_)
      | (with_reducible refine LeO.bind ?_ (fun _ => ?_))
      | exact ih0 _ _
      | exact tidemarklaw25_left.mono _ _ _
      | exact tidemarklaw25_over.mono _ _
      | exact tidemarklaw25_own.mono _ _
      | exact tidemarkref25_Encode.mono _ _
      | exact tidemarkref25_Valid.mono _ _
      | exact tuple_Encode.mono _ _
      | exact tuple_Valid.mono _ _
      | exact LeO.none _
      | refine LeO.ite ?_ ?_
      | refine LeO.bind ?_ (fun _ => ?_)
theorem tidemarklaw25_TupleEncodes.mono : ∀ a0 k, LeO (tidemarklaw25_TupleEncodes.f k a0) (tidemarklaw25_TupleEncodes.f (k + 1) a0) := by
  intro a0 k
  have ih0 := tidemarklaw25_TupleEncodes.mono_l k
  unfold tidemarklaw25_TupleEncodes.f
  repeat' first
      | (with_reducible exact ih0 _ _)
      | (with_reducible exact tidemarklaw25_left.mono _ _ _)
      | (with_reducible exact tidemarklaw25_over.mono _ _)
      | (with_reducible exact tidemarklaw25_own.mono _ _)
      | (with_reducible exact tidemarkref25_Encode.mono _ _)
      | (with_reducible exact tidemarkref25_Valid.mono _ _)
      | (with_reducible exact tuple_Encode.mono _ _)
      | (with_reducible exact tuple_Valid.mono _ _)
      | (with_reducible exact LeO.refl _)
      | (with_reducible exact LeO.none _)
      | (with_reducible refine LeO.ite ?_ ?_)
      | (with_reducible refine LeO.bind ?_ (fun _ => ?_))
      | exact ih0 _ _
      | exact tidemarklaw25_left.mono _ _ _
      | exact tidemarklaw25_over.mono _ _
      | exact tidemarklaw25_own.mono _ _
      | exact tidemarkref25_Encode.mono _ _
      | exact tidemarkref25_Valid.mono _ _
      | exact tuple_Encode.mono _ _
      | exact tuple_Valid.mono _ _
      | exact LeO.none _
      | refine LeO.ite ?_ ?_
      | refine LeO.bind ?_ (fun _ => ?_)
set_option maxHeartbeats 8000000 in
set_option maxRecDepth 100000 in
theorem tidemarklaw25_TupleEncodes.calls (k : Nat) (A0 : Option Addr) (c0 : Nat) (l0 : List (S36)) (r : Bool) (w : World) (hr0 : Kd.C k36 w A0 l0.length l0) (hc0 : l0.length ≤ c0) (h : tidemarklaw25_TupleEncodes.f k l0 = some r) (tb : Tb w) (ht : r = true) :
    Calls Tryd.prog 3 #[.slice A0 l0.length c0] w fun e w' => e = .returned (.bool r) ∧ Below w.heap.size w w' := by
  have HT0 := Aside0.mk ht
  clear ht
  have TB := Aside0.mk tb
  clear tb
  have HR0 := Aside0.mk hr0
  have HC0 := Aside0.mk hc0
  clear hr0 hc0
  have HB := Aside0.mk (Below.refl w.heap.size w)
  have H : ((tidemarklaw25_own.f k l0).bind fun t180 => ((tuple_Valid.f k t180).bind fun t183 => ((tuple_Encode.f k t180).bind fun bt184 => ((tidemarkref25_Encode.f k l0).bind fun bt186 => ((tidemarkref25_Valid.f k l0).bind fun t188 => (if t183 = t188 then (if bt184.1.toList = bt186.1.toList then (if bt184.2 = bt186.2 then ((tidemarklaw25_left.f k t180 l0).bind fun t189 => (tidemarklaw25_TupleEncodes.j0 k t180 (!t189))) else (tidemarklaw25_TupleEncodes.j0 k t180 true)) else (tidemarklaw25_TupleEncodes.j0 k t180 true)) else (tidemarklaw25_TupleEncodes.j0 k t180 true))))))) = some r := h
  clear h
  replace H := Option.bind_eq_some_iff.mp H
  obtain ⟨t180, A20, H⟩ := H
  replace H : ((tuple_Valid.f k t180).bind fun t183 => ((tuple_Encode.f k t180).bind fun bt184 => ((tidemarkref25_Encode.f k l0).bind fun bt186 => ((tidemarkref25_Valid.f k l0).bind fun t188 => (if t183 = t188 then (if bt184.1.toList = bt186.1.toList then (if bt184.2 = bt186.2 then ((tidemarklaw25_left.f k t180 l0).bind fun t189 => (tidemarklaw25_TupleEncodes.j0 k t180 (!t189))) else (tidemarklaw25_TupleEncodes.j0 k t180 true)) else (tidemarklaw25_TupleEncodes.j0 k t180 true)) else (tidemarklaw25_TupleEncodes.j0 k t180 true)))))) = some r := H
  have A2 := Aside0.mk A20
  clear A20
  replace H := Option.bind_eq_some_iff.mp H
  obtain ⟨t183, A30, H⟩ := H
  replace H : ((tuple_Encode.f k t180).bind fun bt184 => ((tidemarkref25_Encode.f k l0).bind fun bt186 => ((tidemarkref25_Valid.f k l0).bind fun t188 => (if t183 = t188 then (if bt184.1.toList = bt186.1.toList then (if bt184.2 = bt186.2 then ((tidemarklaw25_left.f k t180 l0).bind fun t189 => (tidemarklaw25_TupleEncodes.j0 k t180 (!t189))) else (tidemarklaw25_TupleEncodes.j0 k t180 true)) else (tidemarklaw25_TupleEncodes.j0 k t180 true)) else (tidemarklaw25_TupleEncodes.j0 k t180 true))))) = some r := H
  have A3 := Aside0.mk A30
  clear A30
  replace H := Option.bind_eq_some_iff.mp H
  obtain ⟨⟨t184, t185⟩, A40, H⟩ := H
  replace H : ((tidemarkref25_Encode.f k l0).bind fun bt186 => ((tidemarkref25_Valid.f k l0).bind fun t188 => (if t183 = t188 then (if t184.toList = bt186.1.toList then (if t185 = bt186.2 then ((tidemarklaw25_left.f k t180 l0).bind fun t189 => (tidemarklaw25_TupleEncodes.j0 k t180 (!t189))) else (tidemarklaw25_TupleEncodes.j0 k t180 true)) else (tidemarklaw25_TupleEncodes.j0 k t180 true)) else (tidemarklaw25_TupleEncodes.j0 k t180 true)))) = some r := H
  have A4 := Aside0.mk A40
  clear A40
  replace H := Option.bind_eq_some_iff.mp H
  obtain ⟨⟨t186, t187⟩, A50, H⟩ := H
  replace H : ((tidemarkref25_Valid.f k l0).bind fun t188 => (if t183 = t188 then (if t184.toList = t186.toList then (if t185 = t187 then ((tidemarklaw25_left.f k t180 l0).bind fun t189 => (tidemarklaw25_TupleEncodes.j0 k t180 (!t189))) else (tidemarklaw25_TupleEncodes.j0 k t180 true)) else (tidemarklaw25_TupleEncodes.j0 k t180 true)) else (tidemarklaw25_TupleEncodes.j0 k t180 true))) = some r := H
  have A5 := Aside0.mk A50
  clear A50
  have HC6 := Aside0.mk H
  clear H
  go_enter Tryd.func3, Tryd.ntmps3
  go_upto_region 5 with (first | ((with_reducible refine gate_callee (f := 12) rfl ?_); refine goesL_ (some 14) rfl rfl Tryd.func12 (by kernel_rfl) rfl #[.slice A0 l0.length c0] rfl (by (try simp only [List.map_toArray, List.map_cons, List.map_nil]); first | done | rfl | (simp only [List.length_drop, List.length_take]; rfl)) ?_; (with_reducible refine (tidemarklaw25_own.calls k _ _ l0 t180 _ ?side1 ?side2 A2.out).mono ?_); (case side1 => repeat (first | exact HR0.out | (with_reducible refine Kd.C_alloc ?_ _) | (with_reducible refine Kd.C_drewN ?_ _) | (with_reducible refine Kd.C_drew ?_))); (case side2 => exact HC0.out); rintro e w7 ⟨v181, rfl, ⟨u181, m181, hv181, hm181, ho0⟩, hb⟩; refine ⟨_, rfl, ?_⟩; have HV181 := Aside0.mk hv181; have HM181 := Aside0.mk hm181; clear hv181 hm181; have n0_ := Aside0.mk (Kd.R_lower ho0 (below_size (by repeat (first | (with_reducible first | exact HB.out | apply below_alloc | apply pw_below_drewN | apply below_drew1) | exact HB.out)))); have n1_ := Aside0.mk (below_step (by repeat (first | (with_reducible first | exact HB.out | apply below_alloc | apply pw_below_drewN | apply below_drew1) | exact HB.out)) hb); clear HB; have HO182 := n0_; have HB := n1_; clear n0_ n1_; (try clear hb); (try clear hb2); (try clear hk); (try clear hi); (try clear ho0); obtain ⟨Ao8, co8, eo8⟩ := Kd.R_slice HO182.out; have ev8 := HV181.out _ _ _ eo8; subst eo8; subst ev8) | ((with_reducible refine gate_callee (f := 13) rfl ?_); refine goesL_ (some 16) rfl rfl Tryd.func13 (by kernel_rfl) rfl #[.slice Ao8 t180.length co8] rfl (by (try simp only [List.map_toArray, List.map_cons, List.map_nil]); first | done | rfl | (simp only [List.length_drop, List.length_take]; rfl)) ?_; (with_reducible refine (tuple_Valid.calls k _ _ t180 t183 _ ?side1 ?side2 A3.out).mono ?_); (case side1 => repeat (first | exact (Kd.R_reads' (R_pre HO182.out)).2.2 | (with_reducible refine Kd.C_alloc ?_ _) | (with_reducible refine Kd.C_drewN ?_ _) | (with_reducible refine Kd.C_drew ?_))); (case side2 => exact (Kd.R_reads' (R_pre HO182.out)).2.1); rintro e w9 ⟨rfl, hb⟩; refine ⟨_, rfl, ?_⟩; have n0_ := Aside0.mk (Kd.R_below (by (with_reducible repeat (first | apply Kd.R_alloc | apply Kd.R_drewN | apply Kd.R_drew)); exact HO182.out) hb); have n1_ := Aside0.mk (below_step (by repeat (first | (with_reducible first | exact HB.out | apply below_alloc | apply pw_below_drewN | apply below_drew1) | exact HB.out)) hb); clear HO182; clear HB; have HO182 := n0_; have HB := n1_; clear n0_ n1_; (try clear hb); (try clear hb2); (try clear hk); (try clear hi)) | ((with_reducible refine gate_callee (f := 14) rfl ?_); refine goesL_ (some 19) rfl rfl Tryd.func14 (by kernel_rfl) rfl #[.slice Ao8 t180.length co8] rfl (by (try simp only [List.map_toArray, List.map_cons, List.map_nil]); first | done | rfl | (simp only [List.length_drop, List.length_take]; rfl)) ?_; (with_reducible refine (tuple_Encode.calls k _ _ t180 t184 t185 _ ?side1 ?side2 A4.out (Tb.keep TB.out ?sideT)).mono ?_); (case side1 => repeat (first | exact (Kd.R_reads' (R_pre HO182.out)).2.2 | (with_reducible refine Kd.C_alloc ?_ _) | (with_reducible refine Kd.C_drewN ?_ _) | (with_reducible refine Kd.C_drew ?_))); (case side2 => exact (Kd.R_reads' (R_pre HO182.out)).2.1); (case sideT => repeat (first | (with_reducible first | exact HB.out | apply below_alloc | apply pw_below_drewN | apply below_drew1) | exact HB.out)); rintro e w10 ⟨rfl, hb⟩; refine ⟨_, rfl, ?_⟩; have n0_ := Aside0.mk (Kd.R_below (by (with_reducible repeat (first | apply Kd.R_alloc | apply Kd.R_drewN | apply Kd.R_drew)); exact HO182.out) hb); have n1_ := Aside0.mk (below_step (by repeat (first | (with_reducible first | exact HB.out | apply below_alloc | apply pw_below_drewN | apply below_drew1) | exact HB.out)) hb); clear HO182; clear HB; have HO182 := n0_; have HB := n1_; clear n0_ n1_; (try clear hb); (try clear hb2); (try clear hk); (try clear hi)) | ((with_reducible refine gate_callee (f := 15) rfl ?_); refine goesL_ (some 24) rfl rfl Tryd.func15 (by kernel_rfl) rfl #[.slice A0 l0.length c0] rfl (by (try simp only [List.map_toArray, List.map_cons, List.map_nil]); first | done | rfl | (simp only [List.length_drop, List.length_take]; rfl)) ?_; (with_reducible refine (tidemarkref25_Encode.calls k _ _ l0 t186 t187 _ ?side1 ?side2 A5.out).mono ?_); (case side1 => repeat (first | exact (Kd.C_below HR0.out HB.out) | (with_reducible refine Kd.C_alloc ?_ _) | (with_reducible refine Kd.C_drewN ?_ _) | (with_reducible refine Kd.C_drew ?_))); (case side2 => exact HC0.out); rintro e w11 ⟨rfl, hb⟩; refine ⟨_, rfl, ?_⟩; have n0_ := Aside0.mk (Kd.R_below (by (with_reducible repeat (first | apply Kd.R_alloc | apply Kd.R_drewN | apply Kd.R_drew)); exact HO182.out) hb); have n1_ := Aside0.mk (below_step (by repeat (first | (with_reducible first | exact HB.out | apply below_alloc | apply pw_below_drewN | apply below_drew1) | exact HB.out)) hb); clear HO182; clear HB; have HO182 := n0_; have HB := n1_; clear n0_ n1_; (try clear hb); (try clear hb2); (try clear hk); (try clear hi)))
  (try simp only [Act.put, List.setIfInBounds_toArray, List.set_cons_zero, List.set_cons_succ])
  go_cut [46] (fun v46 wc => ∃ (kq : Nat) (x46_5 : Bool), v46 = .bool x46_5 ∧ Aside0 (tidemarklaw25_TupleEncodes.j0 kq t180 x46_5 = some r) ∧ Aside0 (kq ≤ k) ∧ Aside0 (Kd.R k36 36 wc w.heap.size (fun _ => True) (.slice Ao8 t180.length co8) t180) ∧ Aside0 (Below w.heap.size w wc))
  case first =>
    have H := HC6.out
    clear HC6
    replace H := Option.bind_eq_some_iff.mp H
    obtain ⟨t188, A120, H⟩ := H
    replace H : (if t183 = t188 then (if t184.toList = t186.toList then (if t185 = t187 then ((tidemarklaw25_left.f k t180 l0).bind fun t189 => (tidemarklaw25_TupleEncodes.j0 k t180 (!t189))) else (tidemarklaw25_TupleEncodes.j0 k t180 true)) else (tidemarklaw25_TupleEncodes.j0 k t180 true)) else (tidemarklaw25_TupleEncodes.j0 k t180 true)) = some r := H
    have A12 := Aside0.mk A120
    clear A120
    by_cases c13 : t183 = t188
    · rw [if_pos c13] at H
      have c13b0 : (t183 == t188) = true := beq_iff_eq.mpr c13
      have c13b1 : (t183 != t188) = false := bne_eq_false_iff_eq.mpr c13
      clear c13
      (first | rw [c13b0] | (simp only [i64_w, i32_w]; rw [c13b0]) | skip)
      by_cases c14 : t184.toList = t186.toList
      · rw [if_pos c14] at H
        have c14b0 : (t184.toList == t186.toList) = true := beq_iff_eq.mpr c14
        have c14b1 : (t184.toList != t186.toList) = false := bne_eq_false_iff_eq.mpr c14
        clear c14
        by_cases c15 : t185 = t187
        · rw [if_pos c15] at H
          have c15b0 : (t185 == t187) = true := beq_iff_eq.mpr c15
          have c15b1 : (t185 != t187) = false := bne_eq_false_iff_eq.mpr c15
          clear c15
          replace H := Option.bind_eq_some_iff.mp H
          obtain ⟨t189, A160, H⟩ := H
          replace H : (tidemarklaw25_TupleEncodes.j0 k t180 (!t189)) = some r := H
          have A16 := Aside0.mk A160
          clear A160
          have H' := Aside0.mk H
          clear H
          go_wp2_with (first | ((with_reducible refine gate_callee (f := 16) rfl ?_); refine goesL_ (some 29) rfl rfl Tryd.func16 (by kernel_rfl) rfl #[.slice A0 l0.length c0] rfl (by (try simp only [List.map_toArray, List.map_cons, List.map_nil]); first | done | rfl | (simp only [List.length_drop, List.length_take]; rfl)) ?_; (with_reducible refine (tidemarkref25_Valid.calls k _ _ l0 t188 _ ?side1 ?side2 A12.out).mono ?_); (case side1 => repeat (first | exact (Kd.C_below HR0.out HB.out) | (with_reducible refine Kd.C_alloc ?_ _) | (with_reducible refine Kd.C_drewN ?_ _) | (with_reducible refine Kd.C_drew ?_))); (case side2 => exact HC0.out); rintro e w17 ⟨rfl, hb⟩; refine ⟨_, rfl, ?_⟩; have n0_ := Aside0.mk (Kd.R_below (by (with_reducible repeat (first | apply Kd.R_alloc | apply Kd.R_drewN | apply Kd.R_drew)); exact HO182.out) hb); have n1_ := Aside0.mk (below_step (by repeat (first | (with_reducible first | exact HB.out | apply below_alloc | apply pw_below_drewN | apply below_drew1) | exact HB.out)) hb); clear HO182; clear HB; have HO182 := n0_; have HB := n1_; clear n0_ n1_; (try clear hb); (try clear hb2); (try clear hk); (try clear hi)) | (go_at_call 17; (with_reducible refine (tidemarklaw25_left.calls k _ _ t180 m181 _ _ l0 t189 _ HM181.out ?side1 ?side2 ?side3 ?side4 A16.out).mono ?_); (case side1 => repeat (first | exact (Kd.R_reads' (HO182.out)).2.2 | (with_reducible refine Kd.C_alloc ?_ _) | (with_reducible refine Kd.C_drewN ?_ _) | (with_reducible refine Kd.C_drew ?_))); (case side2 => exact (Kd.R_reads' (HO182.out)).2.1); (case side3 => repeat (first | exact (Kd.C_below HR0.out HB.out) | (with_reducible refine Kd.C_alloc ?_ _) | (with_reducible refine Kd.C_drewN ?_ _) | (with_reducible refine Kd.C_drew ?_))); (case side4 => exact HC0.out); rintro e w' ⟨rfl, ⟨nd, rfl⟩⟩))
          go_meet
          case rel => exact ⟨_, (!t189), (by first | rfl | (simp; done) | (simp [*]; done)), H', ⟨by first | omega | exact Nat.le_refl _⟩, ⟨by (with_reducible repeat (first | apply Kd.R_alloc | apply Kd.R_drewN | apply Kd.R_drew)); exact (R_pre HO182.out)⟩, ⟨by repeat (first | (with_reducible first | exact HB.out | apply below_alloc | apply pw_below_drewN | apply below_drew1) | exact HB.out)⟩⟩
        · rw [if_neg c15] at H
          have c15b0 : (t185 == t187) = false := beq_eq_false_iff_ne.mpr c15
          have c15b1 : (t185 != t187) = true := bne_iff_ne.mpr c15
          have H' := Aside0.mk H
          clear H
          go_wp2_with (first | ((with_reducible refine gate_callee (f := 16) rfl ?_); refine goesL_ (some 29) rfl rfl Tryd.func16 (by kernel_rfl) rfl #[.slice A0 l0.length c0] rfl (by (try simp only [List.map_toArray, List.map_cons, List.map_nil]); first | done | rfl | (simp only [List.length_drop, List.length_take]; rfl)) ?_; (with_reducible refine (tidemarkref25_Valid.calls k _ _ l0 t188 _ ?side1 ?side2 A12.out).mono ?_); (case side1 => repeat (first | exact (Kd.C_below HR0.out HB.out) | (with_reducible refine Kd.C_alloc ?_ _) | (with_reducible refine Kd.C_drewN ?_ _) | (with_reducible refine Kd.C_drew ?_))); (case side2 => exact HC0.out); rintro e w18 ⟨rfl, hb⟩; refine ⟨_, rfl, ?_⟩; have n0_ := Aside0.mk (Kd.R_below (by (with_reducible repeat (first | apply Kd.R_alloc | apply Kd.R_drewN | apply Kd.R_drew)); exact HO182.out) hb); have n1_ := Aside0.mk (below_step (by repeat (first | (with_reducible first | exact HB.out | apply below_alloc | apply pw_below_drewN | apply below_drew1) | exact HB.out)) hb); clear HO182; clear HB; have HO182 := n0_; have HB := n1_; clear n0_ n1_; (try clear hb); (try clear hb2); (try clear hk); (try clear hi)))
          go_meet
          case rel => exact ⟨_, (true), (by first | rfl | (simp; done) | (simp [*]; done)), H', ⟨by first | omega | exact Nat.le_refl _⟩, ⟨by (with_reducible repeat (first | apply Kd.R_alloc | apply Kd.R_drewN | apply Kd.R_drew)); exact (R_pre HO182.out)⟩, ⟨by repeat (first | (with_reducible first | exact HB.out | apply below_alloc | apply pw_below_drewN | apply below_drew1) | exact HB.out)⟩⟩
      · rw [if_neg c14] at H
        have c14b0 : (t184.toList == t186.toList) = false := beq_eq_false_iff_ne.mpr c14
        have c14b1 : (t184.toList != t186.toList) = true := bne_iff_ne.mpr c14
        have H' := Aside0.mk H
        clear H
        go_wp2_with (first | ((with_reducible refine gate_callee (f := 16) rfl ?_); refine goesL_ (some 29) rfl rfl Tryd.func16 (by kernel_rfl) rfl #[.slice A0 l0.length c0] rfl (by (try simp only [List.map_toArray, List.map_cons, List.map_nil]); first | done | rfl | (simp only [List.length_drop, List.length_take]; rfl)) ?_; (with_reducible refine (tidemarkref25_Valid.calls k _ _ l0 t188 _ ?side1 ?side2 A12.out).mono ?_); (case side1 => repeat (first | exact (Kd.C_below HR0.out HB.out) | (with_reducible refine Kd.C_alloc ?_ _) | (with_reducible refine Kd.C_drewN ?_ _) | (with_reducible refine Kd.C_drew ?_))); (case side2 => exact HC0.out); rintro e w19 ⟨rfl, hb⟩; refine ⟨_, rfl, ?_⟩; have n0_ := Aside0.mk (Kd.R_below (by (with_reducible repeat (first | apply Kd.R_alloc | apply Kd.R_drewN | apply Kd.R_drew)); exact HO182.out) hb); have n1_ := Aside0.mk (below_step (by repeat (first | (with_reducible first | exact HB.out | apply below_alloc | apply pw_below_drewN | apply below_drew1) | exact HB.out)) hb); clear HO182; clear HB; have HO182 := n0_; have HB := n1_; clear n0_ n1_; (try clear hb); (try clear hb2); (try clear hk); (try clear hi)))
        go_meet
        case rel => exact ⟨_, (true), (by first | rfl | (simp; done) | (simp [*]; done)), H', ⟨by first | omega | exact Nat.le_refl _⟩, ⟨by (with_reducible repeat (first | apply Kd.R_alloc | apply Kd.R_drewN | apply Kd.R_drew)); exact (R_pre HO182.out)⟩, ⟨by repeat (first | (with_reducible first | exact HB.out | apply below_alloc | apply pw_below_drewN | apply below_drew1) | exact HB.out)⟩⟩
    · rw [if_neg c13] at H
      have c13b0 : (t183 == t188) = false := beq_eq_false_iff_ne.mpr c13
      have c13b1 : (t183 != t188) = true := bne_iff_ne.mpr c13
      (first | rw [c13b0] | (simp only [i64_w, i32_w]; rw [c13b0]) | skip)
      have H' := Aside0.mk H
      clear H
      go_wp2_with (first | ((with_reducible refine gate_callee (f := 16) rfl ?_); refine goesL_ (some 29) rfl rfl Tryd.func16 (by kernel_rfl) rfl #[.slice A0 l0.length c0] rfl (by (try simp only [List.map_toArray, List.map_cons, List.map_nil]); first | done | rfl | (simp only [List.length_drop, List.length_take]; rfl)) ?_; (with_reducible refine (tidemarkref25_Valid.calls k _ _ l0 t188 _ ?side1 ?side2 A12.out).mono ?_); (case side1 => repeat (first | exact (Kd.C_below HR0.out HB.out) | (with_reducible refine Kd.C_alloc ?_ _) | (with_reducible refine Kd.C_drewN ?_ _) | (with_reducible refine Kd.C_drew ?_))); (case side2 => exact HC0.out); rintro e w20 ⟨rfl, hb⟩; refine ⟨_, rfl, ?_⟩; have n0_ := Aside0.mk (Kd.R_below (by (with_reducible repeat (first | apply Kd.R_alloc | apply Kd.R_drewN | apply Kd.R_drew)); exact HO182.out) hb); have n1_ := Aside0.mk (below_step (by repeat (first | (with_reducible first | exact HB.out | apply below_alloc | apply pw_below_drewN | apply below_drew1) | exact HB.out)) hb); clear HO182; clear HB; have HO182 := n0_; have HB := n1_; clear n0_ n1_; (try clear hb); (try clear hb2); (try clear hk); (try clear hi)))
      go_meet
      case rel => exact ⟨_, (true), (by first | rfl | (simp; done) | (simp [*]; done)), H', ⟨by first | omega | exact Nat.le_refl _⟩, ⟨by (with_reducible repeat (first | apply Kd.R_alloc | apply Kd.R_drewN | apply Kd.R_drew)); exact (R_pre HO182.out)⟩, ⟨by repeat (first | (with_reducible first | exact HB.out | apply below_alloc | apply pw_below_drewN | apply below_drew1) | exact HB.out)⟩⟩
  case rest =>
    clear HC6
    try clear c1
    try clear p2
    try clear c3
    try clear c12
    try clear c13
    try clear c13b0
    try clear c13b1
    try clear c14
    try clear c14b0
    try clear c14b1
    try clear c15
    try clear c15b0
    try clear c15b1
    try clear c16
    obtain ⟨kq, x46_5, rfl, HA, HJ5, HO_3, HB⟩ := hcut
    cases kq with
    | zero => exact absurd HA.out (by simp [tidemarklaw25_TupleEncodes.j0])
    | succ kj5 =>
      have H := HA.out
      clear HA
      simp only [tidemarklaw25_TupleEncodes.j0] at H
      by_cases c21 : x46_5 = true
      · subst c21
        have H1 : (some false) = some r := by rw [if_pos rfl] at H; exact H
        clear H
        have H := H1
        clear H1
        exact absurd ((Option.some.inj H).trans HT0.out) (by decide)
      · replace c21 := Bool.eq_false_iff.mpr c21
        subst c21
        have H1 : ((tidemarklaw25_over.f kj5 t180).bind fun t190 => ((tuple_Encode.f kj5 t190).bind fun bt191 => ((tidemarkref25_Encode.f kj5 t190).bind fun bt193 => ((tuple_Valid.f kj5 t190).bind fun t195 => ((tidemarkref25_Valid.f kj5 t190).bind fun t196 => (if t195 = t196 then (if bt191.1.toList = bt193.1.toList then (some (bt191.2 == bt193.2)) else (some false)) else (some false))))))) = some r := by rw [if_neg (show ¬ (false = true) by decide)] at H; exact H
        clear H
        have H := H1
        clear H1
        replace H := Option.bind_eq_some_iff.mp H
        obtain ⟨t190, A220, H⟩ := H
        replace H : ((tuple_Encode.f kj5 t190).bind fun bt191 => ((tidemarkref25_Encode.f kj5 t190).bind fun bt193 => ((tuple_Valid.f kj5 t190).bind fun t195 => ((tidemarkref25_Valid.f kj5 t190).bind fun t196 => (if t195 = t196 then (if bt191.1.toList = bt193.1.toList then (some (bt191.2 == bt193.2)) else (some false)) else (some false)))))) = some r := H
        have A22 := Aside0.mk A220
        clear A220
        replace H := Option.bind_eq_some_iff.mp H
        obtain ⟨⟨t191, t192⟩, A230, H⟩ := H
        replace H : ((tidemarkref25_Encode.f kj5 t190).bind fun bt193 => ((tuple_Valid.f kj5 t190).bind fun t195 => ((tidemarkref25_Valid.f kj5 t190).bind fun t196 => (if t195 = t196 then (if t191.toList = bt193.1.toList then (some (t192 == bt193.2)) else (some false)) else (some false))))) = some r := H
        have A23 := Aside0.mk A230
        clear A230
        replace H := Option.bind_eq_some_iff.mp H
        obtain ⟨⟨t193, t194⟩, A240, H⟩ := H
        replace H : ((tuple_Valid.f kj5 t190).bind fun t195 => ((tidemarkref25_Valid.f kj5 t190).bind fun t196 => (if t195 = t196 then (if t191.toList = t193.toList then (some (t192 == t194)) else (some false)) else (some false)))) = some r := H
        have A24 := Aside0.mk A240
        clear A240
        replace H := Option.bind_eq_some_iff.mp H
        obtain ⟨t195, A250, H⟩ := H
        replace H : ((tidemarkref25_Valid.f kj5 t190).bind fun t196 => (if t195 = t196 then (if t191.toList = t193.toList then (some (t192 == t194)) else (some false)) else (some false))) = some r := H
        have A25 := Aside0.mk A250
        clear A250
        replace H := Option.bind_eq_some_iff.mp H
        obtain ⟨t196, A260, H⟩ := H
        replace H : (if t195 = t196 then (if t191.toList = t193.toList then (some (t192 == t194)) else (some false)) else (some false)) = some r := H
        have A26 := Aside0.mk A260
        clear A260
        by_cases c27 : t195 = t196
        · rw [if_pos c27] at H
          have c27b0 : (t195 == t196) = true := beq_iff_eq.mpr c27
          have c27b1 : (t195 != t196) = false := bne_eq_false_iff_eq.mpr c27
          clear c27
          by_cases c28 : t191.toList = t193.toList
          · rw [if_pos c28] at H
            have c28b0 : (t191.toList == t193.toList) = true := beq_iff_eq.mpr c28
            have c28b1 : (t191.toList != t193.toList) = false := bne_eq_false_iff_eq.mpr c28
            clear c28
            obtain rfl := Option.some.inj H
            go_wp2_with (first | ((with_reducible refine gate_callee (f := 18) rfl ?_); refine goesL_ (some 48) rfl rfl Tryd.func18 (by kernel_rfl) rfl #[.slice Ao8 t180.length co8] rfl (by (try simp only [List.map_toArray, List.map_cons, List.map_nil]); first | done | rfl | (simp only [List.length_drop, List.length_take]; rfl)) ?_; (with_reducible refine (tidemarklaw25_over.calls kj5 (fun k_ => some k_ = (.slice Ao8 t180.length co8 : Value).ownBlock) (.slice Ao8 t180.length co8) t180 t190 w _ ?side1 ?side2 A22.out).mono ?_); (case side1 => repeat (first | (with_reducible first | exact HB.out | apply below_alloc | apply pw_below_drewN | apply below_drew1) | exact HB.out)); (case side2 => exact Kd.R_tight rfl HO_3.out); rintro e w29 ⟨rfl, hy0, hb, hkp⟩; refine ⟨_, rfl, ?_⟩; have n0_ := Aside0.mk (Kd.R_reok rfl hy0 (fun k_ e_ => HO_3.out.1 k_ e_)); have n1_ := Aside0.mk (hb); clear HO_3; clear HB; have HO_3 := n0_; have HB := n1_; clear n0_ n1_; (try clear hb); (try clear hkp); (try clear hy0)) | ((with_reducible refine gate_callee (f := 14) rfl ?_); refine goesL_ (some 51) rfl rfl Tryd.func14 (by kernel_rfl) rfl #[.slice Ao8 t190.length co8] rfl (by (try simp only [List.map_toArray, List.map_cons, List.map_nil]); first | done | (rw [show t190.length = t180.length from (Kd.R_reads' HO_3.out).1.symm] <;> rfl) | rfl | (simp only [List.length_drop, List.length_take]; rfl)) ?_; (with_reducible refine (tuple_Encode.calls kj5 _ _ t190 t191 t192 _ ?side1 ?side2 A23.out (Tb.keep TB.out ?sideT)).mono ?_); (case side1 => repeat (first | exact (Kd.R_reads' HO_3.out).2.2 | (with_reducible refine Kd.C_alloc ?_ _) | (with_reducible refine Kd.C_drewN ?_ _) | (with_reducible refine Kd.C_drew ?_))); (case side2 => rw [show t190.length = t180.length from (Kd.R_reads' HO_3.out).1.symm]; exact (Kd.R_reads' HO_3.out).2.1); (case sideT => repeat (first | (with_reducible first | exact HB.out | apply below_alloc | apply pw_below_drewN | apply below_drew1) | exact HB.out)); rintro e w30 ⟨rfl, hb⟩; refine ⟨_, rfl, ?_⟩; have n0_ := Aside0.mk (Kd.R_below (by (with_reducible repeat (first | apply Kd.R_alloc | apply Kd.R_drewN | apply Kd.R_drew)); exact HO_3.out) hb); have n1_ := Aside0.mk (below_step (by repeat (first | (with_reducible first | exact HB.out | apply below_alloc | apply pw_below_drewN | apply below_drew1) | exact HB.out)) hb); clear HO_3; clear HB; have HO_3 := n0_; have HB := n1_; clear n0_ n1_; (try clear hb); (try clear hb2); (try clear hk); (try clear hi)) | ((with_reducible refine gate_callee (f := 15) rfl ?_); refine goesL_ (some 56) rfl rfl Tryd.func15 (by kernel_rfl) rfl #[.slice Ao8 t190.length co8] rfl (by (try simp only [List.map_toArray, List.map_cons, List.map_nil]); first | done | (rw [show t190.length = t180.length from (Kd.R_reads' HO_3.out).1.symm] <;> rfl) | rfl | (simp only [List.length_drop, List.length_take]; rfl)) ?_; (with_reducible refine (tidemarkref25_Encode.calls kj5 _ _ t190 t193 t194 _ ?side1 ?side2 A24.out).mono ?_); (case side1 => repeat (first | exact (Kd.R_reads' HO_3.out).2.2 | (with_reducible refine Kd.C_alloc ?_ _) | (with_reducible refine Kd.C_drewN ?_ _) | (with_reducible refine Kd.C_drew ?_))); (case side2 => rw [show t190.length = t180.length from (Kd.R_reads' HO_3.out).1.symm]; exact (Kd.R_reads' HO_3.out).2.1); rintro e w31 ⟨rfl, hb⟩; refine ⟨_, rfl, ?_⟩; have n0_ := Aside0.mk (Kd.R_below (by (with_reducible repeat (first | apply Kd.R_alloc | apply Kd.R_drewN | apply Kd.R_drew)); exact HO_3.out) hb); have n1_ := Aside0.mk (below_step (by repeat (first | (with_reducible first | exact HB.out | apply below_alloc | apply pw_below_drewN | apply below_drew1) | exact HB.out)) hb); clear HO_3; clear HB; have HO_3 := n0_; have HB := n1_; clear n0_ n1_; (try clear hb); (try clear hb2); (try clear hk); (try clear hi)) | ((with_reducible refine gate_callee (f := 13) rfl ?_); refine goesL_ (some 60) rfl rfl Tryd.func13 (by kernel_rfl) rfl #[.slice Ao8 t190.length co8] rfl (by (try simp only [List.map_toArray, List.map_cons, List.map_nil]); first | done | (rw [show t190.length = t180.length from (Kd.R_reads' HO_3.out).1.symm] <;> rfl) | rfl | (simp only [List.length_drop, List.length_take]; rfl)) ?_; (with_reducible refine (tuple_Valid.calls kj5 _ _ t190 t195 _ ?side1 ?side2 A25.out).mono ?_); (case side1 => repeat (first | exact (Kd.R_reads' HO_3.out).2.2 | (with_reducible refine Kd.C_alloc ?_ _) | (with_reducible refine Kd.C_drewN ?_ _) | (with_reducible refine Kd.C_drew ?_))); (case side2 => rw [show t190.length = t180.length from (Kd.R_reads' HO_3.out).1.symm]; exact (Kd.R_reads' HO_3.out).2.1); rintro e w32 ⟨rfl, hb⟩; refine ⟨_, rfl, ?_⟩; have n0_ := Aside0.mk (Kd.R_below (by (with_reducible repeat (first | apply Kd.R_alloc | apply Kd.R_drewN | apply Kd.R_drew)); exact HO_3.out) hb); have n1_ := Aside0.mk (below_step (by repeat (first | (with_reducible first | exact HB.out | apply below_alloc | apply pw_below_drewN | apply below_drew1) | exact HB.out)) hb); clear HO_3; clear HB; have HO_3 := n0_; have HB := n1_; clear n0_ n1_; (try clear hb); (try clear hb2); (try clear hk); (try clear hi)) | ((with_reducible refine gate_callee (f := 16) rfl ?_); refine goesL_ (some 62) rfl rfl Tryd.func16 (by kernel_rfl) rfl #[.slice Ao8 t190.length co8] rfl (by (try simp only [List.map_toArray, List.map_cons, List.map_nil]); first | done | (rw [show t190.length = t180.length from (Kd.R_reads' HO_3.out).1.symm] <;> rfl) | rfl | (simp only [List.length_drop, List.length_take]; rfl)) ?_; (with_reducible refine (tidemarkref25_Valid.calls kj5 _ _ t190 t196 _ ?side1 ?side2 A26.out).mono ?_); (case side1 => repeat (first | exact (Kd.R_reads' HO_3.out).2.2 | (with_reducible refine Kd.C_alloc ?_ _) | (with_reducible refine Kd.C_drewN ?_ _) | (with_reducible refine Kd.C_drew ?_))); (case side2 => rw [show t190.length = t180.length from (Kd.R_reads' HO_3.out).1.symm]; exact (Kd.R_reads' HO_3.out).2.1); rintro e w33 ⟨rfl, hb⟩; refine ⟨_, rfl, ?_⟩; have n0_ := Aside0.mk (Kd.R_below (by (with_reducible repeat (first | apply Kd.R_alloc | apply Kd.R_drewN | apply Kd.R_drew)); exact HO_3.out) hb); have n1_ := Aside0.mk (below_step (by repeat (first | (with_reducible first | exact HB.out | apply below_alloc | apply pw_below_drewN | apply below_drew1) | exact HB.out)) hb); clear HO_3; clear HB; have HO_3 := n0_; have HB := n1_; clear n0_ n1_; (try clear hb); (try clear hb2); (try clear hk); (try clear hi)))
            go_ret
            exact ⟨by first | rfl | (simp [errW_none, errW_some] <;> rfl) | (simp [*, errW_none, errW_some] <;> rfl), by repeat (first | (with_reducible first | exact HB.out | apply below_alloc | apply pw_below_drewN | apply below_drew1) | exact HB.out)⟩
          · rw [if_neg c28] at H
            have c28b0 : (t191.toList == t193.toList) = false := beq_eq_false_iff_ne.mpr c28
            have c28b1 : (t191.toList != t193.toList) = true := bne_iff_ne.mpr c28
            exact absurd ((Option.some.inj H).trans HT0.out) (by decide)
        · rw [if_neg c27] at H
          have c27b0 : (t195 == t196) = false := beq_eq_false_iff_ne.mpr c27
          have c27b1 : (t195 != t196) = true := bne_iff_ne.mpr c27
          exact absurd ((Option.some.inj H).trans HT0.out) (by decide)
end Go.Proofs.YtoieckmegdcaeaaDoor.G
end
