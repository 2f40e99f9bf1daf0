-- Laid by a program of this session (printx.py) over the kit's printer; Lean checks it.
import Derived.Test.YtoieckmegdcaeaaG0
import Derived.Test.YtoieckmegdcaeaaGf37
namespace Go.Proofs.Ytoieckmegdcaeaa.G
open Go.RowKit Go.Proofs.YtoieckmegdcaeaaW.PrintWords Go.Proofs.YtoieckmegdcaeaaW.PrintLast Go.Proofs.YtoieckmegdcaeaaW.PrintMore
attribute [local go_sem] max2_int min2_int max_two min_two max_three min_three max_four min_four   -- for this text's walks alone
set_option linter.unusedVariables false
set_option linter.unusedSimpArgs false

/-! ### tidemarkref25_integer: function 35 -/
def tidemarkref25_integer.l0 : Nat → Int → Int → ByteArray → Option (ByteArray)
  | 0, _, _, _ => none
  | k + 1, x0, x3, x4 => if x3 > 0 then (if x0 < 0 then ((some (([255 - ((Int.tmod x3 256) % 256)] : List Int) : List Int)).bind fun y192 => (if (strOfNums y192).size + x4.size ≤ 9223372036854775807 then (tidemarkref25_integer.l0 k x0 (IntKind.u64.wrap (Int.tdiv x3 256)) ((strOfNums y192) ++ x4)) else (none))) else ((some (([(Int.tmod x3 256) % 256] : List Int) : List Int)).bind fun y195 => (if (strOfNums y195).size + x4.size ≤ 9223372036854775807 then (tidemarkref25_integer.l0 k x0 (IntKind.u64.wrap (Int.tdiv x3 256)) ((strOfNums y195) ++ x4)) else (none)))) else (if x0 < 0 then ((some (([(wrap64 (24 - (x4.size : Int))) % 256] : List Int) : List Int)).bind fun y198 => (if (strOfNums y198).size + x4.size ≤ 9223372036854775807 then (some ((strOfNums y198) ++ x4)) else (none))) else ((some (([(wrap64 (24 + (x4.size : Int))) % 256] : List Int) : List Int)).bind fun y201 => (if (strOfNums y201).size + x4.size ≤ 9223372036854775807 then (some ((strOfNums y201) ++ x4)) else (none))))
def tidemarkref25_integer.f (k : Nat) (a0 : Int) : Option (ByteArray) := (tidemarkref25_far.f a0).bind fun t191 => (tidemarkref25_integer.l0 k a0 t191 (⟨#[]⟩ : ByteArray))
theorem tidemarkref25_integer.mono_l : ∀ k, (∀ y0 y1 y2, LeO (tidemarkref25_integer.l0 k y0 y1 y2) (tidemarkref25_integer.l0 (k + 1) y0 y1 y2))
  | 0 => fun _ _ _ r h => by simp [tidemarkref25_integer.l0] at h
  | k + 1 => by
    have ih0 := tidemarkref25_integer.mono_l k
    · intro y0 y1 y2
      unfold tidemarkref25_integer.l0
      repeat' first
      | (with_reducible exact ih0 _ _ _)
      | (with_reducible exact LeO.refl _)
      | (with_reducible exact LeO.none _)
      | (with_reducible refine LeO.ite ?_ ?_)
      | (with_reducible refine LeO.bind ?_ (fun _ => ?_))
      | exact ih0 _ _ _
      | exact LeO.none _
      | refine LeO.ite ?_ ?_
      | refine LeO.bind ?_ (fun _ => ?_)
theorem tidemarkref25_integer.mono : ∀ a0 k, LeO (tidemarkref25_integer.f k a0) (tidemarkref25_integer.f (k + 1) a0) := by
  intro a0 k
  have ih0 := tidemarkref25_integer.mono_l k
  unfold tidemarkref25_integer.f
  repeat' first
      | (with_reducible exact ih0 _ _ _)
      | (with_reducible exact LeO.refl _)
      | (with_reducible exact LeO.none _)
      | (with_reducible refine LeO.ite ?_ ?_)
      | (with_reducible refine LeO.bind ?_ (fun _ => ?_))
      | exact ih0 _ _ _
      | exact LeO.none _
      | refine LeO.ite ?_ ?_
      | refine LeO.bind ?_ (fun _ => ?_)
set_option maxHeartbeats 8000000 in
set_option maxRecDepth 100000 in
theorem tidemarkref25_integer.calls (k : Nat) (a0 : Int) (r : ByteArray) (w : World) (h : tidemarkref25_integer.f k a0 = some r) :
    Calls Try.prog 35 #[.int .i64 a0] w fun e w' => e = .returned (.string r) ∧ Below w.heap.size w w' := by
  have HB := Aside0.mk (Below.refl w.heap.size w)
  have H : ((tidemarkref25_far.f a0).bind fun t191 => (tidemarkref25_integer.l0 k a0 t191 (⟨#[]⟩ : ByteArray))) = some r := h
  clear h
  replace H := Option.bind_eq_some_iff.mp H
  obtain ⟨t191, A20, H⟩ := H
  replace H : (tidemarkref25_integer.l0 k a0 t191 (⟨#[]⟩ : ByteArray)) = some r := H
  have A2 := Aside0.mk A20
  clear A20
  have H' := Aside0.mk H
  clear H
  go_enter Try.func35, Try.ntmps35
  go_wp2_with (first | ((with_reducible refine gate_callee (f := 37) rfl ?_); refine goesL_ (some 8) rfl rfl Try.func37 (by kernel_rfl) rfl #[.int .i64 a0] rfl (by (try simp only [List.map_toArray, List.map_cons, List.map_nil]); first | done | rfl | (simp only [List.length_drop, List.length_take]; rfl)) ?_; (with_reducible refine (tidemarkref25_far.calls a0 t191 _ A2.out).mono ?_); rintro e w' ⟨rfl, ⟨nd, rfl⟩⟩; refine ⟨_, rfl, ?_⟩))
  go_loopg [3, 4] k (fun kq v3 v4 w' => ∃ (x3_1 : Int) (x4_1 : ByteArray), v3 = .int .u64 x3_1 ∧ v4 = .string x4_1 ∧ Aside0 (tidemarkref25_integer.l0 kq a0 x3_1 x4_1 = some r) ∧ Aside0 (kq ≤ k) ∧ Aside0 (Below w.heap.size w w'))
  case atStart => exact ⟨(t191), ((⟨#[]⟩ : ByteArray)), (by first | rfl | (simp; done) | (simp [*]; done)), (by first | rfl | (simp; done) | (simp [*]; done)), H', ⟨Nat.le_refl _⟩, ⟨by repeat (first | (with_reducible first | exact HB.out | apply below_alloc | apply pw_below_drewN | apply below_drew1) | exact HB.out)⟩⟩
  case round =>
    clear H'
    try clear p2
    obtain ⟨x3_1, x4_1, rfl, rfl, HA, HK1, HB⟩ := hrel
    cases gk with
    | zero => exact absurd HA.out (by simp [tidemarkref25_integer.l0])
    | succ k1 =>
      have H := HA.out
      clear HA
      simp only [tidemarkref25_integer.l0] at H
      by_cases c3 : x3_1 > 0
      · rw [if_pos c3] at H
        have c3b0 : decide (0 < x3_1) = true := decide_eq_true c3
        clear c3
        by_cases c4 : a0 < 0
        · rw [if_pos c4] at H
          have c4b0 : decide (a0 < 0) = true := decide_eq_true c4
          clear c4
          obtain ⟨y192, hy192⟩ : ∃ y_ : List Int, y_ = (([255 - ((Int.tmod x3_1 256) % 256)] : List Int)) := ⟨_, rfl⟩
          replace H : (if (strOfNums y192).size + x4_1.size ≤ 9223372036854775807 then (tidemarkref25_integer.l0 k1 a0 (IntKind.u64.wrap (Int.tdiv x3_1 256)) ((strOfNums y192) ++ x4_1)) else (none)) = some r := by first | (rw [hy192]; with_reducible exact H) | (have H2_ := (Option.bind_some _ _).symm.trans H; rw [hy192]; with_reducible exact H2_) | (have H2_ := (Option.bind_some _ _).symm.trans H; with_reducible exact H2_) | with_reducible exact H | (rw [hy192]; exact H) | exact H
          have Ny192 := Aside0.mk hy192
          clear hy192
          by_cases c5 : (strOfNums y192).size + x4_1.size ≤ 9223372036854775807
          · rw [if_pos c5] at H
            have c5b0 := eq_true c5
            have c5b1 : decide ((strOfNums y192).size + x4_1.size ≤ 9223372036854775807) = true := decide_eq_true c5
            try have c5b2 : (9223372036854775807 < (strOfNums y192).size + x4_1.size) = False := eq_false (Nat.not_lt.2 c5)
            have H' := Aside0.mk H
            clear H
            go_wp2_with (first | ((with_reducible refine gate_dst (N := 19) rfl ?_); refine Kd.R_lit (Kd.int .u8) _ 5 ?hg (N := 19) ?hd (xs := ([255 - ((Int.tmod x3_1 256) % 256)] : List Int)) (inner := [.int .u8 (255 - ((Int.tmod x3_1 256) % 256))]) (ok := fun _ => True) (okp := fun _ => True) ?hr ?hp (fun _ hk => hk) trivial (Below.refl _ _) (Nat.le_refl _) (by simp) ?_; (case hd => rfl); (case hg => rfl); (case hr => first | (go_simp; done) | (go_simp; rfl)); (case hp => exact (Reps.one (show Kd.M (Kd.int .u8) _ _ _ (255 - ((Int.tmod x3_1 256) % 256)) [.int .u8 (255 - ((Int.tmod x3_1 256) % 256))] from rfl) (Reps.none _ _))); intro v193 w6 ho7 hb hg_ hnew_; clear hg_ hnew_; (first | rw [← Ny192.out] at ho7 | (simp only [Int.reduceToNat] at ho7; rw [← Ny192.out] at ho7)); have n0_ := Aside0.mk (Kd.R_lower ho7 (below_size (by repeat (first | (with_reducible first | exact HB.out | apply below_alloc | apply pw_below_drewN | apply below_drew1) | exact HB.out)))); have n1_ := Aside0.mk (below_step (by repeat (first | (with_reducible first | exact HB.out | apply below_alloc | apply pw_below_drewN | apply below_drew1) | exact HB.out)) hb); clear HB; have HO194 := n0_; have HB := n1_; clear n0_ n1_; clear hb ho7; have hcv8 := own_string (P := Try.prog) Try.underlying63 Try.underlying5 Try.underlying9 (Kd.own_of_R HO194.out)))
            go_roundg k1
            case measure => have := HK1.out; omega
            case rel => exact ⟨(IntKind.u64.wrap (Int.tdiv x3_1 256)), ((strOfNums y192) ++ x4_1), (by first | rfl | (simp; done) | (simp [*]; done)), (by first | rfl | (simp; done) | (simp [*]; done)), H', ⟨by have := HK1.out; omega⟩, ⟨by repeat (first | (with_reducible first | exact HB.out | apply below_alloc | apply pw_below_drewN | apply below_drew1) | exact HB.out)⟩⟩
          · rw [if_neg c5] at H
            exact absurd H (by simp)
        · rw [if_neg c4] at H
          have c4b0 : decide (a0 < 0) = false := decide_eq_false c4
          clear c4
          obtain ⟨y195, hy195⟩ : ∃ y_ : List Int, y_ = (([(Int.tmod x3_1 256) % 256] : List Int)) := ⟨_, rfl⟩
          replace H : (if (strOfNums y195).size + x4_1.size ≤ 9223372036854775807 then (tidemarkref25_integer.l0 k1 a0 (IntKind.u64.wrap (Int.tdiv x3_1 256)) ((strOfNums y195) ++ x4_1)) else (none)) = some r := by first | (rw [hy195]; with_reducible exact H) | (have H2_ := (Option.bind_some _ _).symm.trans H; rw [hy195]; with_reducible exact H2_) | (have H2_ := (Option.bind_some _ _).symm.trans H; with_reducible exact H2_) | with_reducible exact H | (rw [hy195]; exact H) | exact H
          have Ny195 := Aside0.mk hy195
          clear hy195
          by_cases c9 : (strOfNums y195).size + x4_1.size ≤ 9223372036854775807
          · rw [if_pos c9] at H
            have c9b0 := eq_true c9
            have c9b1 : decide ((strOfNums y195).size + x4_1.size ≤ 9223372036854775807) = true := decide_eq_true c9
            try have c9b2 : (9223372036854775807 < (strOfNums y195).size + x4_1.size) = False := eq_false (Nat.not_lt.2 c9)
            have H' := Aside0.mk H
            clear H
            go_wp2_with (first | ((with_reducible refine gate_dst (N := 19) rfl ?_); refine Kd.R_lit (Kd.int .u8) _ 5 ?hg (N := 19) ?hd (xs := ([(Int.tmod x3_1 256) % 256] : List Int)) (inner := [.int .u8 ((Int.tmod x3_1 256) % 256)]) (ok := fun _ => True) (okp := fun _ => True) ?hr ?hp (fun _ hk => hk) trivial (Below.refl _ _) (Nat.le_refl _) (by simp) ?_; (case hd => rfl); (case hg => rfl); (case hr => first | (go_simp; done) | (go_simp; rfl)); (case hp => exact (Reps.one (show Kd.M (Kd.int .u8) _ _ _ ((Int.tmod x3_1 256) % 256) [.int .u8 ((Int.tmod x3_1 256) % 256)] from rfl) (Reps.none _ _))); intro v196 w10 ho11 hb hg_ hnew_; clear hg_ hnew_; (first | rw [← Ny195.out] at ho11 | (simp only [Int.reduceToNat] at ho11; rw [← Ny195.out] at ho11)); have n0_ := Aside0.mk (Kd.R_lower ho11 (below_size (by repeat (first | (with_reducible first | exact HB.out | apply below_alloc | apply pw_below_drewN | apply below_drew1) | exact HB.out)))); have n1_ := Aside0.mk (below_step (by repeat (first | (with_reducible first | exact HB.out | apply below_alloc | apply pw_below_drewN | apply below_drew1) | exact HB.out)) hb); clear HB; have HO197 := n0_; have HB := n1_; clear n0_ n1_; clear hb ho11; have hcv12 := own_string (P := Try.prog) Try.underlying63 Try.underlying5 Try.underlying9 (Kd.own_of_R HO197.out)))
            go_roundg k1
            case measure => have := HK1.out; omega
            case rel => exact ⟨(IntKind.u64.wrap (Int.tdiv x3_1 256)), ((strOfNums y195) ++ x4_1), (by first | rfl | (simp; done) | (simp [*]; done)), (by first | rfl | (simp; done) | (simp [*]; done)), H', ⟨by have := HK1.out; omega⟩, ⟨by repeat (first | (with_reducible first | exact HB.out | apply below_alloc | apply pw_below_drewN | apply below_drew1) | exact HB.out)⟩⟩
          · rw [if_neg c9] at H
            exact absurd H (by simp)
      · rw [if_neg c3] at H
        have c3b0 : decide (0 < x3_1) = false := decide_eq_false c3
        clear c3
        by_cases c13 : a0 < 0
        · rw [if_pos c13] at H
          have c13b0 : decide (a0 < 0) = true := decide_eq_true c13
          clear c13
          obtain ⟨y198, hy198⟩ : ∃ y_ : List Int, y_ = (([(wrap64 (24 - (x4_1.size : Int))) % 256] : List Int)) := ⟨_, rfl⟩
          replace H : (if (strOfNums y198).size + x4_1.size ≤ 9223372036854775807 then (some ((strOfNums y198) ++ x4_1)) else (none)) = some r := by first | (rw [hy198]; with_reducible exact H) | (have H2_ := (Option.bind_some _ _).symm.trans H; rw [hy198]; with_reducible exact H2_) | (have H2_ := (Option.bind_some _ _).symm.trans H; with_reducible exact H2_) | with_reducible exact H | (rw [hy198]; exact H) | exact H
          have Ny198 := Aside0.mk hy198
          clear hy198
          by_cases c14 : (strOfNums y198).size + x4_1.size ≤ 9223372036854775807
          · rw [if_pos c14] at H
            have c14b0 := eq_true c14
            have c14b1 : decide ((strOfNums y198).size + x4_1.size ≤ 9223372036854775807) = true := decide_eq_true c14
            try have c14b2 : (9223372036854775807 < (strOfNums y198).size + x4_1.size) = False := eq_false (Nat.not_lt.2 c14)
            obtain rfl := Option.some.inj H
            have e_ : wrap64 (24 - (x4_1.size : Int)) = 24 - (x4_1.size : Int) := by
              unfold wrap64; omega
            rw [e_] at Ny198
            clear e_
            go_wp2_with (first | ((with_reducible refine gate_dst (N := 35) rfl ?_); refine Kd.R_lit (Kd.int .u8) _ 5 ?hg (N := 35) ?hd (xs := ([(24 - (x4_1.size : Int)) % 256] : List Int)) (inner := [.int .u8 ((24 - (x4_1.size : Int)) % 256)]) (ok := fun _ => True) (okp := fun _ => True) ?hr ?hp (fun _ hk => hk) trivial (Below.refl _ _) (Nat.le_refl _) (by simp) ?_; (case hd => rfl); (case hg => rfl); (case hr => first | (go_simp; done) | (go_simp; rfl)); (case hp => exact (Reps.one (show Kd.M (Kd.int .u8) _ _ _ ((24 - (x4_1.size : Int)) % 256) [.int .u8 ((24 - (x4_1.size : Int)) % 256)] from rfl) (Reps.none _ _))); intro v199 w15 ho16 hb hg_ hnew_; clear hg_ hnew_; (first | rw [← Ny198.out] at ho16 | (simp only [Int.reduceToNat] at ho16; rw [← Ny198.out] at ho16)); have n0_ := Aside0.mk (Kd.R_lower ho16 (below_size (by repeat (first | (with_reducible first | exact HB.out | apply below_alloc | apply pw_below_drewN | apply below_drew1) | exact HB.out)))); have n1_ := Aside0.mk (below_step (by repeat (first | (with_reducible first | exact HB.out | apply below_alloc | apply pw_below_drewN | apply below_drew1) | exact HB.out)) hb); clear HB; have HO200 := n0_; have HB := n1_; clear n0_ n1_; clear hb ho16; have hcv17 := own_string (P := Try.prog) Try.underlying63 Try.underlying5 Try.underlying9 (Kd.own_of_R HO200.out)))
            go_ret
            exact ⟨by first | rfl | (simp [errW_none, errW_some] <;> rfl) | (simp [*, errW_none, errW_some] <;> rfl), by repeat (first | (with_reducible first | exact HB.out | apply below_alloc | apply pw_below_drewN | apply below_drew1) | exact HB.out)⟩
          · rw [if_neg c14] at H
            exact absurd H (by simp)
        · rw [if_neg c13] at H
          have c13b0 : decide (a0 < 0) = false := decide_eq_false c13
          clear c13
          obtain ⟨y201, hy201⟩ : ∃ y_ : List Int, y_ = (([(wrap64 (24 + (x4_1.size : Int))) % 256] : List Int)) := ⟨_, rfl⟩
          replace H : (if (strOfNums y201).size + x4_1.size ≤ 9223372036854775807 then (some ((strOfNums y201) ++ x4_1)) else (none)) = some r := by first | (rw [hy201]; with_reducible exact H) | (have H2_ := (Option.bind_some _ _).symm.trans H; rw [hy201]; with_reducible exact H2_) | (have H2_ := (Option.bind_some _ _).symm.trans H; with_reducible exact H2_) | with_reducible exact H | (rw [hy201]; exact H) | exact H
          have Ny201 := Aside0.mk hy201
          clear hy201
          by_cases c18 : (strOfNums y201).size + x4_1.size ≤ 9223372036854775807
          · rw [if_pos c18] at H
            have c18b0 := eq_true c18
            have c18b1 : decide ((strOfNums y201).size + x4_1.size ≤ 9223372036854775807) = true := decide_eq_true c18
            try have c18b2 : (9223372036854775807 < (strOfNums y201).size + x4_1.size) = False := eq_false (Nat.not_lt.2 c18)
            obtain rfl := Option.some.inj H
            go_wp2_with (first | ((with_reducible refine gate_dst (N := 35) rfl ?_); refine Kd.R_lit (Kd.int .u8) _ 5 ?hg (N := 35) ?hd (xs := ([(wrap64 (24 + (x4_1.size : Int))) % 256] : List Int)) (inner := [.int .u8 ((wrap64 (24 + (x4_1.size : Int))) % 256)]) (ok := fun _ => True) (okp := fun _ => True) ?hr ?hp (fun _ hk => hk) trivial (Below.refl _ _) (Nat.le_refl _) (by simp) ?_; (case hd => rfl); (case hg => rfl); (case hr => first | (go_simp; done) | (go_simp; rfl)); (case hp => exact (Reps.one (show Kd.M (Kd.int .u8) _ _ _ ((wrap64 (24 + (x4_1.size : Int))) % 256) [.int .u8 ((wrap64 (24 + (x4_1.size : Int))) % 256)] from rfl) (Reps.none _ _))); intro v202 w19 ho20 hb hg_ hnew_; clear hg_ hnew_; (first | rw [← Ny201.out] at ho20 | (simp only [Int.reduceToNat] at ho20; rw [← Ny201.out] at ho20)); have n0_ := Aside0.mk (Kd.R_lower ho20 (below_size (by repeat (first | (with_reducible first | exact HB.out | apply below_alloc | apply pw_below_drewN | apply below_drew1) | exact HB.out)))); have n1_ := Aside0.mk (below_step (by repeat (first | (with_reducible first | exact HB.out | apply below_alloc | apply pw_below_drewN | apply below_drew1) | exact HB.out)) hb); clear HB; have HO203 := n0_; have HB := n1_; clear n0_ n1_; clear hb ho20; have hcv21 := own_string (P := Try.prog) Try.underlying63 Try.underlying5 Try.underlying9 (Kd.own_of_R HO203.out)))
            go_ret
            exact ⟨by first | rfl | (simp [errW_none, errW_some] <;> rfl) | (simp [*, errW_none, errW_some] <;> rfl), by repeat (first | (with_reducible first | exact HB.out | apply below_alloc | apply pw_below_drewN | apply below_drew1) | exact HB.out)⟩
          · rw [if_neg c18] at H
            exact absurd H (by simp)

end Go.Proofs.Ytoieckmegdcaeaa.G
