-- Packed by a program of this session (pack.py) from texts of this claim.
import Derived.Test.YtoieckmegdcaeaaDoorP9
import Derived.Test.YtoieckmegdcaeaaDoorP0GFn
import Derived.Test.YtoieckmegdcaeaaDoorP12b
import Derived.Test.YtoieckmegdcaeaaDoorP12a
import Derived.Test.YtoieckmegdcaeaaDoorP11b
section
namespace Go.Proofs.YtoieckmegdcaeaaDoor.G
open Go.RowKit Go.Proofs.YtoieckmegdcaeaaDoorW.PrintWords Go.Proofs.YtoieckmegdcaeaaDoorW.PrintLast Go.Proofs.YtoieckmegdcaeaaDoorW.PrintMore
attribute [local go_sem] max2_int min2_int max_two min_two max_three min_three max_four min_four   -- for this text's walks alone
set_option linter.unusedVariables false
set_option linter.unusedSimpArgs false

/-! ### slices_CompareFunc: function 35 -/
def slices_CompareFunc.l0 : Nat → List (S36) → List (S36) → List (S36) → Int → Int → Option (Int)
  | 0, _, _, _, _, _ => none
  | k + 1, x0, x1, x11, x12, x13 => if x13 < x12 then (if 0 ≤ x13 then (if x13 < (x11.length : Int) then (if x13 ≥ (x1.length : Int) then (some 1) else (if x13 < (x1.length : Int) then ((tuple_compare.f k ((rd_T36 x11 x13).f0) ((rd_T36 x11 x13).f1) ((rd_T36 x11 x13).f2) ((rd_T36 x11 x13).f3) ((rd_T36 x1 x13).f0) ((rd_T36 x1 x13).f1) ((rd_T36 x1 x13).f2) ((rd_T36 x1 x13).f3)).bind fun t393 => (if t393 = 0 then (slices_CompareFunc.l0 k x0 x1 x11 x12 (wrap64 (x13 + 1))) else (some t393))) else (none))) else (none)) else (none)) else (if (x0.length : Int) < (x1.length : Int) then (some (-1)) else (some 0))
def slices_CompareFunc.f (k : Nat) (l0 : List (S36)) (l1 : List (S36)) : Option (Int) := slices_CompareFunc.l0 k l0 l1 l0 (l0.length : Int) 0
theorem slices_CompareFunc.mono_l : ∀ k, (∀ y0 y1 y2 y3 y4, LeO (slices_CompareFunc.l0 k y0 y1 y2 y3 y4) (slices_CompareFunc.l0 (k + 1) y0 y1 y2 y3 y4))
  | 0 => fun _ _ _ _ _ r h => by simp [slices_CompareFunc.l0] at h
  | k + 1 => by
    have ih0 := slices_CompareFunc.mono_l k
    · intro y0 y1 y2 y3 y4
      unfold slices_CompareFunc.l0
      repeat' first
      | (with_reducible exact ih0 _ _ _ _ _)
      | (with_reducible exact tuple_compare.mono _ _ _ _ _ _ _ _ _)
      | (with_reducible exact LeO.refl _)
      | (with_reducible exact LeO.none _)
      | (with_reducible refine LeO.ite ?_ ?_)
      | (with_reducible refine LeO.bind ?_ (fun _ => ?_))
      | exact ih0 _ _ _ _ _
      | exact tuple_compare.mono _ _ _ _ _ _ _ _ _
      | exact LeO.none _
      | refine LeO.ite ?_ ?_
      | refine LeO.bind ?_ (fun _ => ?_)
theorem slices_CompareFunc.mono : ∀ a0 a1 k, LeO (slices_CompareFunc.f k a0 a1) (slices_CompareFunc.f (k + 1) a0 a1) := by
  intro a0 a1 k
  have ih0 := slices_CompareFunc.mono_l k
  unfold slices_CompareFunc.f
  repeat' first
      | (with_reducible exact ih0 _ _ _ _ _)
      | (with_reducible exact tuple_compare.mono _ _ _ _ _ _ _ _ _)
      | (with_reducible exact LeO.refl _)
      | (with_reducible exact LeO.none _)
      | (with_reducible refine LeO.ite ?_ ?_)
      | (with_reducible refine LeO.bind ?_ (fun _ => ?_))
      | exact ih0 _ _ _ _ _
      | exact tuple_compare.mono _ _ _ _ _ _ _ _ _
      | exact LeO.none _
      | refine LeO.ite ?_ ?_
      | refine LeO.bind ?_ (fun _ => ?_)
set_option maxHeartbeats 8000000 in
set_option maxRecDepth 100000 in
theorem slices_CompareFunc.calls (k : Nat) (A0 : Option Addr) (c0 : Nat) (l0 : List (S36)) (A1 : Option Addr) (c1 : Nat) (l1 : List (S36)) (r : Int) (w : World) (hr0 : Kd.C k36 w A0 l0.length l0) (hc0 : l0.length ≤ c0) (hr1 : Kd.C k36 w A1 l1.length l1) (hc1 : l1.length ≤ c1) (h : slices_CompareFunc.f k l0 l1 = some r) :
    Calls Tryd.prog 35 #[.slice A0 l0.length c0, .slice A1 l1.length c1, .func (.func 36) #[] #[]] w fun e w' => e = .returned (.int .i64 r) ∧ Below w.heap.size w w' := by
  have hu36 := Tryd.underlying36
  have HR0 := Aside0.mk hr0
  have HC0 := Aside0.mk hc0
  clear hr0 hc0
  have HR1 := Aside0.mk hr1
  have HC1 := Aside0.mk hc1
  clear hr1 hc1
  have HB := Aside0.mk (Below.refl w.heap.size w)
  have H : (slices_CompareFunc.l0 k l0 l1 l0 (l0.length : Int) 0) = some r := h
  clear h
  have H' := Aside0.mk H
  clear H
  go_enter Tryd.func35, Tryd.ntmps35
  go_wp2
  go_loopg [13] k (fun kq v13 w' => ∃ (x13_1 : Int), v13 = .int .i64 x13_1 ∧ Aside0 (slices_CompareFunc.l0 kq l0 l1 l0 (l0.length : Int) x13_1 = some r) ∧ Aside0 (kq ≤ k) ∧ Aside0 (Below w.heap.size w w'))
  case atStart => exact ⟨(0), (by first | rfl | (simp; done) | (simp [*]; done)), H', ⟨Nat.le_refl _⟩, ⟨by repeat (first | (with_reducible first | exact HB.out | apply below_alloc | apply pw_below_drewN | apply below_drew1) | exact HB.out)⟩⟩
  case round =>
    clear H'
    try clear c1
    try clear p2
    obtain ⟨x13_1, rfl, HA, HK1, HB⟩ := hrel
    cases gk with
    | zero => exact absurd HA.out (by simp [slices_CompareFunc.l0])
    | succ k1 =>
      have H := HA.out
      clear HA
      simp only [slices_CompareFunc.l0] at H
      by_cases c3 : x13_1 < (l0.length : Int)
      · rw [if_pos c3] at H
        have c3b0 : decide (x13_1 < (l0.length : Int)) = true := decide_eq_true c3
        clear c3
        by_cases c4 : 0 ≤ x13_1
        · rw [if_pos c4] at H
          have c4b0 : decide (0 ≤ x13_1) = true := decide_eq_true c4
          clear c4
          by_cases c5 : x13_1 < (l0.length : Int)
          · rw [if_pos c5] at H
            have c5b0 : decide (x13_1 < (l0.length : Int)) = true := decide_eq_true c5
            clear c5
            by_cases c6 : x13_1 ≥ (l1.length : Int)
            · rw [if_pos c6] at H
              have c6b0 : decide ((l1.length : Int) ≤ x13_1) = true := decide_eq_true c6
              clear c6
              obtain rfl := Option.some.inj H
              have p389 : 0 ≤ (x13_1 : Int) := of_decide_eq_true (by first | (with_reducible assumption) | assumption)
              have q389 : x13_1 < (l0.length : Int) := of_decide_eq_true (by first | (with_reducible assumption) | assumption)
              obtain ⟨ad389, e389, hx389_0, hx389_1, hx389_2, hx389_3⟩ := at_T36 HR0.out x13_1 p389 q389
              cases e389
              replace hx389_0 := (HB.out.cell (World.block_lt_of_cell? w _ hx389_0)).trans hx389_0
              replace hx389_1 := (HB.out.cell (World.block_lt_of_cell? w _ hx389_1)).trans hx389_1
              replace hx389_2 := (HB.out.cell (World.block_lt_of_cell? w _ hx389_2)).trans hx389_2
              replace hx389_3 := (HB.out.cell (World.block_lt_of_cell? w _ hx389_3)).trans hx389_3
              replace p389 := eq_true p389
              replace q389 := eq_true q389
              go_wp2_with (first | ((with_reducible refine gate_dst (N := 8) rfl ?_); refine box_event ?hg (N := 8) ?hd (cs := #[.int .i64 0, .bool false, .int .i64 0, .string (⟨#[]⟩ : ByteArray)]) (t := 36) ?hr ?_; (case hd => rfl); (case hg => rfl); (case hr => first | (go_simp; done) | (go_simp; rfl)); intro gb390 hg w7 hbox hb; have n0_ := Aside0.mk (below_step (by repeat (first | (with_reducible first | exact HB.out | apply below_alloc | apply pw_below_drewN | apply below_drew1) | exact HB.out)) hb); have n1_ := Aside0.mk (hbox); have n2_ := Aside0.mk ((by rw [hg]; exact (below_size (by repeat (first | (with_reducible first | exact HB.out | apply below_alloc | apply pw_below_drewN | apply below_drew1) | exact HB.out))) : w.heap.size ≤ gb390)); have n3_ := Aside0.mk ((by rw [hg]; exact (below_size (by repeat (first | (with_reducible first | exact HB.out | apply below_alloc | apply pw_below_drewN | apply below_drew1) | exact HB.out))) : w.heap.size ≤ gb390)); clear HB; have HB := n0_; have BK390 := n1_; have GW390 := n2_; have GE390 := n3_; clear n0_ n1_ n2_ n3_; clear hb hbox hg; have hcz8_0 : w7.cell? ⟨gb390, 0, none⟩ = some (.int .i64 0) := (blk_cell BK390.out 0).trans rfl; have hcz8_1 : w7.cell? ⟨gb390, 1, none⟩ = some (.bool false) := (blk_cell BK390.out 1).trans rfl; have hcz8_2 : w7.cell? ⟨gb390, 2, none⟩ = some (.int .i64 0) := (blk_cell BK390.out 2).trans rfl; have hcz8_3 : w7.cell? ⟨gb390, 3, none⟩ = some (.string (⟨#[]⟩ : ByteArray)) := (blk_cell BK390.out 3).trans rfl; have hfz8_0 := blk_frozen BK390.out 0; have hfz8_1 := blk_frozen BK390.out 1; have hfz8_2 := blk_frozen BK390.out 2; have hfz8_3 := blk_frozen BK390.out 3))
              go_ret
              exact ⟨by first | rfl | (simp [errW_none, errW_some] <;> rfl) | (simp [*, errW_none, errW_some] <;> rfl), by repeat (first | (with_reducible first | exact HB.out | apply below_alloc | apply pw_below_drewN | apply below_drew1 | refine below_set ?_ GE390.out) | exact HB.out)⟩
            · rw [if_neg c6] at H
              have c6b0 : decide ((l1.length : Int) ≤ x13_1) = false := decide_eq_false c6
              clear c6
              by_cases c9 : x13_1 < (l1.length : Int)
              · rw [if_pos c9] at H
                have c9b0 : decide (x13_1 < (l1.length : Int)) = true := decide_eq_true c9
                clear c9
                replace H := Option.bind_eq_some_iff.mp H
                obtain ⟨t393, A100, H⟩ := H
                replace H : (if t393 = 0 then (slices_CompareFunc.l0 k1 l0 l1 l0 (l0.length : Int) (wrap64 (x13_1 + 1))) else (some t393)) = some r := H
                have A10 := Aside0.mk A100
                clear A100
                by_cases c11 : t393 = 0
                · rw [if_pos c11] at H
                  have c11b0 : (t393 == 0) = true := beq_iff_eq.mpr c11
                  have c11b1 : (t393 != 0) = false := bne_eq_false_iff_eq.mpr c11
                  clear c11
                  have H' := Aside0.mk H
                  clear H
                  have p389 : 0 ≤ (x13_1 : Int) := of_decide_eq_true (by first | (with_reducible assumption) | assumption)
                  have q389 : x13_1 < (l0.length : Int) := of_decide_eq_true (by first | (with_reducible assumption) | assumption)
                  obtain ⟨ad389, e389, hx389_0, hx389_1, hx389_2, hx389_3⟩ := at_T36 HR0.out x13_1 p389 q389
                  cases e389
                  replace hx389_0 := (HB.out.cell (World.block_lt_of_cell? w _ hx389_0)).trans hx389_0
                  replace hx389_1 := (HB.out.cell (World.block_lt_of_cell? w _ hx389_1)).trans hx389_1
                  replace hx389_2 := (HB.out.cell (World.block_lt_of_cell? w _ hx389_2)).trans hx389_2
                  replace hx389_3 := (HB.out.cell (World.block_lt_of_cell? w _ hx389_3)).trans hx389_3
                  replace p389 := eq_true p389
                  replace q389 := eq_true q389
                  go_wp2_with (first | ((with_reducible refine gate_dst (N := 8) rfl ?_); refine box_event ?hg (N := 8) ?hd (cs := #[.int .i64 0, .bool false, .int .i64 0, .string (⟨#[]⟩ : ByteArray)]) (t := 36) ?hr ?_; (case hd => rfl); (case hg => rfl); (case hr => first | (go_simp; done) | (go_simp; rfl)); intro gb390 hg w12 hbox hb; have n0_ := Aside0.mk (below_step (by repeat (first | (with_reducible first | exact HB.out | apply below_alloc | apply pw_below_drewN | apply below_drew1) | exact HB.out)) hb); have n1_ := Aside0.mk (hbox); have n2_ := Aside0.mk ((by rw [hg]; exact (below_size (by repeat (first | (with_reducible first | exact HB.out | apply below_alloc | apply pw_below_drewN | apply below_drew1) | exact HB.out))) : w.heap.size ≤ gb390)); have n3_ := Aside0.mk ((by rw [hg]; exact (below_size (by repeat (first | (with_reducible first | exact HB.out | apply below_alloc | apply pw_below_drewN | apply below_drew1) | exact HB.out))) : w.heap.size ≤ gb390)); clear HB; have HB := n0_; have BK390 := n1_; have GW390 := n2_; have GE390 := n3_; clear n0_ n1_ n2_ n3_; clear hb hbox hg; have hcz13_0 : w12.cell? ⟨gb390, 0, none⟩ = some (.int .i64 0) := (blk_cell BK390.out 0).trans rfl; have hcz13_1 : w12.cell? ⟨gb390, 1, none⟩ = some (.bool false) := (blk_cell BK390.out 1).trans rfl; have hcz13_2 : w12.cell? ⟨gb390, 2, none⟩ = some (.int .i64 0) := (blk_cell BK390.out 2).trans rfl; have hcz13_3 : w12.cell? ⟨gb390, 3, none⟩ = some (.string (⟨#[]⟩ : ByteArray)) := (blk_cell BK390.out 3).trans rfl; have hfz13_0 := blk_frozen BK390.out 0; have hfz13_1 := blk_frozen BK390.out 1; have hfz13_2 := blk_frozen BK390.out 2; have hfz13_3 := blk_frozen BK390.out 3; have p391 : 0 ≤ (x13_1 : Int) := of_decide_eq_true (by first | (with_reducible assumption) | assumption); have q391 : x13_1 < (l1.length : Int) := of_decide_eq_true (by first | (with_reducible assumption) | assumption); obtain ⟨ad391, e391, hx391_0, hx391_1, hx391_2, hx391_3⟩ := at_T36 HR1.out x13_1 p391 q391; cases e391; have hn391_0 : ad391.block ≠ gb390 := Nat.ne_of_lt (Nat.lt_of_lt_of_le (by have := World.block_lt_of_cell? _ _ hx391_0; first | rwa [add_block] at this | exact this) GW390.out); have hn391_1 : ad391.block ≠ gb390 := Nat.ne_of_lt (Nat.lt_of_lt_of_le (by have := World.block_lt_of_cell? _ _ hx391_0; first | rwa [add_block] at this | exact this) GW390.out); have hn391_2 : ad391.block ≠ gb390 := Nat.ne_of_lt (Nat.lt_of_lt_of_le (by have := World.block_lt_of_cell? _ _ hx391_0; first | rwa [add_block] at this | exact this) GW390.out); have hn391_3 : ad391.block ≠ gb390 := Nat.ne_of_lt (Nat.lt_of_lt_of_le (by have := World.block_lt_of_cell? _ _ hx391_0; first | rwa [add_block] at this | exact this) GW390.out); replace hx391_0 := (HB.out.cell (World.block_lt_of_cell? w _ hx391_0)).trans hx391_0; replace hx391_1 := (HB.out.cell (World.block_lt_of_cell? w _ hx391_1)).trans hx391_1; replace hx391_2 := (HB.out.cell (World.block_lt_of_cell? w _ hx391_2)).trans hx391_2; replace hx391_3 := (HB.out.cell (World.block_lt_of_cell? w _ hx391_3)).trans hx391_3; replace hx391_0 := (cell_far (p := ⟨gb390, 0, none⟩) (by first | (rw [add_block]; exact hn391_0) | (show (Addr.add _ _).block ≠ _; rw [add_block]; exact hn391_0) | exact hn391_0) (.int .i64 ((rd_T36 l0 x13_1).f0))).trans hx391_0; replace hx391_1 := (cell_far (p := ⟨gb390, 0, none⟩) (by first | (rw [add_block]; exact hn391_0) | (show (Addr.add _ _).block ≠ _; rw [add_block]; exact hn391_0) | exact hn391_0) (.int .i64 ((rd_T36 l0 x13_1).f0))).trans hx391_1; replace hx391_2 := (cell_far (p := ⟨gb390, 0, none⟩) (by first | (rw [add_block]; exact hn391_0) | (show (Addr.add _ _).block ≠ _; rw [add_block]; exact hn391_0) | exact hn391_0) (.int .i64 ((rd_T36 l0 x13_1).f0))).trans hx391_2; replace hx391_3 := (cell_far (p := ⟨gb390, 0, none⟩) (by first | (rw [add_block]; exact hn391_0) | (show (Addr.add _ _).block ≠ _; rw [add_block]; exact hn391_0) | exact hn391_0) (.int .i64 ((rd_T36 l0 x13_1).f0))).trans hx391_3; replace hx391_0 := (cell_far (p := ⟨gb390, 1, none⟩) (by first | (rw [add_block]; exact hn391_1) | (show (Addr.add _ _).block ≠ _; rw [add_block]; exact hn391_1) | exact hn391_1) (.bool ((rd_T36 l0 x13_1).f1))).trans hx391_0; replace hx391_1 := (cell_far (p := ⟨gb390, 1, none⟩) (by first | (rw [add_block]; exact hn391_1) | (show (Addr.add _ _).block ≠ _; rw [add_block]; exact hn391_1) | exact hn391_1) (.bool ((rd_T36 l0 x13_1).f1))).trans hx391_1; replace hx391_2 := (cell_far (p := ⟨gb390, 1, none⟩) (by first | (rw [add_block]; exact hn391_1) | (show (Addr.add _ _).block ≠ _; rw [add_block]; exact hn391_1) | exact hn391_1) (.bool ((rd_T36 l0 x13_1).f1))).trans hx391_2; replace hx391_3 := (cell_far (p := ⟨gb390, 1, none⟩) (by first | (rw [add_block]; exact hn391_1) | (show (Addr.add _ _).block ≠ _; rw [add_block]; exact hn391_1) | exact hn391_1) (.bool ((rd_T36 l0 x13_1).f1))).trans hx391_3; replace hx391_0 := (cell_far (p := ⟨gb390, 2, none⟩) (by first | (rw [add_block]; exact hn391_2) | (show (Addr.add _ _).block ≠ _; rw [add_block]; exact hn391_2) | exact hn391_2) (.int .i64 ((rd_T36 l0 x13_1).f2))).trans hx391_0; replace hx391_1 := (cell_far (p := ⟨gb390, 2, none⟩) (by first | (rw [add_block]; exact hn391_2) | (show (Addr.add _ _).block ≠ _; rw [add_block]; exact hn391_2) | exact hn391_2) (.int .i64 ((rd_T36 l0 x13_1).f2))).trans hx391_1; replace hx391_2 := (cell_far (p := ⟨gb390, 2, none⟩) (by first | (rw [add_block]; exact hn391_2) | (show (Addr.add _ _).block ≠ _; rw [add_block]; exact hn391_2) | exact hn391_2) (.int .i64 ((rd_T36 l0 x13_1).f2))).trans hx391_2; replace hx391_3 := (cell_far (p := ⟨gb390, 2, none⟩) (by first | (rw [add_block]; exact hn391_2) | (show (Addr.add _ _).block ≠ _; rw [add_block]; exact hn391_2) | exact hn391_2) (.int .i64 ((rd_T36 l0 x13_1).f2))).trans hx391_3; replace hx391_0 := (cell_far (p := ⟨gb390, 3, none⟩) (by first | (rw [add_block]; exact hn391_3) | (show (Addr.add _ _).block ≠ _; rw [add_block]; exact hn391_3) | exact hn391_3) (.string ((rd_T36 l0 x13_1).f3))).trans hx391_0; replace hx391_1 := (cell_far (p := ⟨gb390, 3, none⟩) (by first | (rw [add_block]; exact hn391_3) | (show (Addr.add _ _).block ≠ _; rw [add_block]; exact hn391_3) | exact hn391_3) (.string ((rd_T36 l0 x13_1).f3))).trans hx391_1; replace hx391_2 := (cell_far (p := ⟨gb390, 3, none⟩) (by first | (rw [add_block]; exact hn391_3) | (show (Addr.add _ _).block ≠ _; rw [add_block]; exact hn391_3) | exact hn391_3) (.string ((rd_T36 l0 x13_1).f3))).trans hx391_2; replace hx391_3 := (cell_far (p := ⟨gb390, 3, none⟩) (by first | (rw [add_block]; exact hn391_3) | (show (Addr.add _ _).block ≠ _; rw [add_block]; exact hn391_3) | exact hn391_3) (.string ((rd_T36 l0 x13_1).f3))).trans hx391_3; clear hn391_0; clear hn391_1; clear hn391_2; clear hn391_3; replace p391 := eq_true p391; replace q391 := eq_true q391) | ((with_reducible refine gate_dst (N := 9) rfl ?_); refine box_event ?hg (N := 9) ?hd (cs := #[.int .i64 0, .bool false, .int .i64 0, .string (⟨#[]⟩ : ByteArray)]) (t := 36) ?hr ?_; (case hd => rfl); (case hg => rfl); (case hr => first | (go_simp; done) | (go_simp; rfl)); intro gb392 hg w14 hbox hb; have n0_ := Aside0.mk (blk_below (g := gb390) (o := .cells #[.int .i64 ((rd_T36 l0 x13_1).f0), .bool ((rd_T36 l0 x13_1).f1), .int .i64 ((rd_T36 l0 x13_1).f2), .string ((rd_T36 l0 x13_1).f3)] 36 (0, 0)) (by (with_reducible repeat (first | refine blk_drewN ?_ _ | refine blk_drew ?_ | refine blk_alloc ?_ _)); refine blk_put (cs := #[.int .i64 ((rd_T36 l0 x13_1).f0), .bool ((rd_T36 l0 x13_1).f1), .int .i64 ((rd_T36 l0 x13_1).f2), .string (⟨#[]⟩ : ByteArray)]) ?_ 3 _ rfl; (with_reducible repeat (first | refine blk_drewN ?_ _ | refine blk_drew ?_ | refine blk_alloc ?_ _)); refine blk_put (cs := #[.int .i64 ((rd_T36 l0 x13_1).f0), .bool ((rd_T36 l0 x13_1).f1), .int .i64 0, .string (⟨#[]⟩ : ByteArray)]) ?_ 2 _ rfl; (with_reducible repeat (first | refine blk_drewN ?_ _ | refine blk_drew ?_ | refine blk_alloc ?_ _)); refine blk_put (cs := #[.int .i64 ((rd_T36 l0 x13_1).f0), .bool false, .int .i64 0, .string (⟨#[]⟩ : ByteArray)]) ?_ 1 _ rfl; (with_reducible repeat (first | refine blk_drewN ?_ _ | refine blk_drew ?_ | refine blk_alloc ?_ _)); refine blk_put (cs := #[.int .i64 0, .bool false, .int .i64 0, .string (⟨#[]⟩ : ByteArray)]) ?_ 0 _ rfl; (with_reducible repeat (first | refine blk_drewN ?_ _ | refine blk_drew ?_ | refine blk_alloc ?_ _)); exact BK390.out) hb); have n1_ := Aside0.mk (below_step (by repeat (first | (with_reducible first | exact HB.out | apply below_alloc | apply pw_below_drewN | apply below_drew1 | refine below_set ?_ GE390.out) | exact HB.out)) hb); have n2_ := Aside0.mk (hbox); have n3_ := Aside0.mk ((by rw [hg]; exact (below_size (by repeat (first | (with_reducible first | exact HB.out | apply below_alloc | apply pw_below_drewN | apply below_drew1 | refine below_set ?_ GE390.out) | exact HB.out))) : w.heap.size ≤ gb392)); have n4_ := Aside0.mk ((by rw [hg]; exact (below_size (by repeat (first | (with_reducible first | exact HB.out | apply below_alloc | apply pw_below_drewN | apply below_drew1 | refine below_set ?_ GE390.out) | exact HB.out))) : w.heap.size ≤ gb392)); have n5_ := Aside0.mk ((by rw [hg]; exact Nat.ne_of_lt (blk_lt (g := gb390) (o := .cells #[.int .i64 ((rd_T36 l0 x13_1).f0), .bool ((rd_T36 l0 x13_1).f1), .int .i64 ((rd_T36 l0 x13_1).f2), .string ((rd_T36 l0 x13_1).f3)] 36 (0, 0)) (by (with_reducible repeat (first | refine blk_drewN ?_ _ | refine blk_drew ?_ | refine blk_alloc ?_ _)); refine blk_put (cs := #[.int .i64 ((rd_T36 l0 x13_1).f0), .bool ((rd_T36 l0 x13_1).f1), .int .i64 ((rd_T36 l0 x13_1).f2), .string (⟨#[]⟩ : ByteArray)]) ?_ 3 _ rfl; (with_reducible repeat (first | refine blk_drewN ?_ _ | refine blk_drew ?_ | refine blk_alloc ?_ _)); refine blk_put (cs := #[.int .i64 ((rd_T36 l0 x13_1).f0), .bool ((rd_T36 l0 x13_1).f1), .int .i64 0, .string (⟨#[]⟩ : ByteArray)]) ?_ 2 _ rfl; (with_reducible repeat (first | refine blk_drewN ?_ _ | refine blk_drew ?_ | refine blk_alloc ?_ _)); refine blk_put (cs := #[.int .i64 ((rd_T36 l0 x13_1).f0), .bool false, .int .i64 0, .string (⟨#[]⟩ : ByteArray)]) ?_ 1 _ rfl; (with_reducible repeat (first | refine blk_drewN ?_ _ | refine blk_drew ?_ | refine blk_alloc ?_ _)); refine blk_put (cs := #[.int .i64 0, .bool false, .int .i64 0, .string (⟨#[]⟩ : ByteArray)]) ?_ 0 _ rfl; (with_reducible repeat (first | refine blk_drewN ?_ _ | refine blk_drew ?_ | refine blk_alloc ?_ _)); exact BK390.out)) : gb390 ≠ gb392)); have n6_ := Aside0.mk ((by rw [hg]; exact Nat.ne_of_gt (blk_lt (g := gb390) (o := .cells #[.int .i64 ((rd_T36 l0 x13_1).f0), .bool ((rd_T36 l0 x13_1).f1), .int .i64 ((rd_T36 l0 x13_1).f2), .string ((rd_T36 l0 x13_1).f3)] 36 (0, 0)) (by (with_reducible repeat (first | refine blk_drewN ?_ _ | refine blk_drew ?_ | refine blk_alloc ?_ _)); refine blk_put (cs := #[.int .i64 ((rd_T36 l0 x13_1).f0), .bool ((rd_T36 l0 x13_1).f1), .int .i64 ((rd_T36 l0 x13_1).f2), .string (⟨#[]⟩ : ByteArray)]) ?_ 3 _ rfl; (with_reducible repeat (first | refine blk_drewN ?_ _ | refine blk_drew ?_ | refine blk_alloc ?_ _)); refine blk_put (cs := #[.int .i64 ((rd_T36 l0 x13_1).f0), .bool ((rd_T36 l0 x13_1).f1), .int .i64 0, .string (⟨#[]⟩ : ByteArray)]) ?_ 2 _ rfl; (with_reducible repeat (first | refine blk_drewN ?_ _ | refine blk_drew ?_ | refine blk_alloc ?_ _)); refine blk_put (cs := #[.int .i64 ((rd_T36 l0 x13_1).f0), .bool false, .int .i64 0, .string (⟨#[]⟩ : ByteArray)]) ?_ 1 _ rfl; (with_reducible repeat (first | refine blk_drewN ?_ _ | refine blk_drew ?_ | refine blk_alloc ?_ _)); refine blk_put (cs := #[.int .i64 0, .bool false, .int .i64 0, .string (⟨#[]⟩ : ByteArray)]) ?_ 0 _ rfl; (with_reducible repeat (first | refine blk_drewN ?_ _ | refine blk_drew ?_ | refine blk_alloc ?_ _)); exact BK390.out)) : gb392 ≠ gb390)); clear BK390; clear HB; have BK390 := n0_; have HB := n1_; have BK392 := n2_; have GW392 := n3_; have GE392 := n4_; have NB390_392 := n5_; have NB392_390 := n6_; clear n0_ n1_ n2_ n3_ n4_ n5_ n6_; clear hb hbox hg; have hnb15 := NB392_390.out; have hnc15 := NB390_392.out; have hcz16_0 : w14.cell? ⟨gb392, 0, none⟩ = some (.int .i64 0) := (blk_cell BK392.out 0).trans rfl; have hcz16_1 : w14.cell? ⟨gb392, 1, none⟩ = some (.bool false) := (blk_cell BK392.out 1).trans rfl; have hcz16_2 : w14.cell? ⟨gb392, 2, none⟩ = some (.int .i64 0) := (blk_cell BK392.out 2).trans rfl; have hcz16_3 : w14.cell? ⟨gb392, 3, none⟩ = some (.string (⟨#[]⟩ : ByteArray)) := (blk_cell BK392.out 3).trans rfl; have hfz16_0 := blk_frozen BK392.out 0; have hfz16_1 := blk_frozen BK392.out 1; have hfz16_2 := blk_frozen BK392.out 2; have hfz16_3 := blk_frozen BK392.out 3; have hcz17_0 : w14.cell? ⟨gb390, 0, none⟩ = some (.int .i64 ((rd_T36 l0 x13_1).f0)) := (blk_cell BK390.out 0).trans rfl; have hcz17_1 : w14.cell? ⟨gb390, 1, none⟩ = some (.bool ((rd_T36 l0 x13_1).f1)) := (blk_cell BK390.out 1).trans rfl; have hcz17_2 : w14.cell? ⟨gb390, 2, none⟩ = some (.int .i64 ((rd_T36 l0 x13_1).f2)) := (blk_cell BK390.out 2).trans rfl; have hcz17_3 : w14.cell? ⟨gb390, 3, none⟩ = some (.string ((rd_T36 l0 x13_1).f3)) := (blk_cell BK390.out 3).trans rfl; have hfz17_0 := blk_frozen BK390.out 0; have hfz17_1 := blk_frozen BK390.out 1; have hfz17_2 := blk_frozen BK390.out 2; have hfz17_3 := blk_frozen BK390.out 3) | ((with_reducible refine gate_value rfl ?_); refine goesV_ (some 29) rfl rfl Tryd.func36 (by kernel_rfl) rfl #[.agg #[.int .i64 ((rd_T36 l0 x13_1).f0), .bool ((rd_T36 l0 x13_1).f1), .int .i64 ((rd_T36 l0 x13_1).f2), .string ((rd_T36 l0 x13_1).f3)], .agg #[.int .i64 ((rd_T36 l1 x13_1).f0), .bool ((rd_T36 l1 x13_1).f1), .int .i64 ((rd_T36 l1 x13_1).f2), .string ((rd_T36 l1 x13_1).f3)]] rfl (by first | rfl | (go_simp; done) | (go_simp; rfl)) (by (try simp only [List.map_toArray, List.map_cons, List.map_nil]); first | done | rfl | (simp only [List.length_drop, List.length_take]; rfl)) ?_; (with_reducible refine (tuple_compare.calls k1 ((rd_T36 l0 x13_1).f0) ((rd_T36 l0 x13_1).f1) ((rd_T36 l0 x13_1).f2) ((rd_T36 l0 x13_1).f3) ((rd_T36 l1 x13_1).f0) ((rd_T36 l1 x13_1).f1) ((rd_T36 l1 x13_1).f2) ((rd_T36 l1 x13_1).f3) t393 _ A10.out).mono ?_); rintro e w18 ⟨rfl, hb⟩; refine ⟨_, rfl, ?_⟩; have n0_ := Aside0.mk (blk_below (g := gb390) (o := .cells #[.int .i64 ((rd_T36 l0 x13_1).f0), .bool ((rd_T36 l0 x13_1).f1), .int .i64 ((rd_T36 l0 x13_1).f2), .string ((rd_T36 l0 x13_1).f3)] 36 (0, 0)) (by (with_reducible repeat (first | refine blk_drewN ?_ _ | refine blk_drew ?_ | refine blk_alloc ?_ _)); refine blk_far ?_ NB390_392.out _; (with_reducible repeat (first | refine blk_drewN ?_ _ | refine blk_drew ?_ | refine blk_alloc ?_ _)); refine blk_far ?_ NB390_392.out _; (with_reducible repeat (first | refine blk_drewN ?_ _ | refine blk_drew ?_ | refine blk_alloc ?_ _)); refine blk_far ?_ NB390_392.out _; (with_reducible repeat (first | refine blk_drewN ?_ _ | refine blk_drew ?_ | refine blk_alloc ?_ _)); refine blk_far ?_ NB390_392.out _; (with_reducible repeat (first | refine blk_drewN ?_ _ | refine blk_drew ?_ | refine blk_alloc ?_ _)); exact BK390.out) hb); have n1_ := Aside0.mk (blk_below (g := gb392) (o := .cells #[.int .i64 ((rd_T36 l1 x13_1).f0), .bool ((rd_T36 l1 x13_1).f1), .int .i64 ((rd_T36 l1 x13_1).f2), .string ((rd_T36 l1 x13_1).f3)] 36 (0, 0)) (by (with_reducible repeat (first | refine blk_drewN ?_ _ | refine blk_drew ?_ | refine blk_alloc ?_ _)); refine blk_put (cs := #[.int .i64 ((rd_T36 l1 x13_1).f0), .bool ((rd_T36 l1 x13_1).f1), .int .i64 ((rd_T36 l1 x13_1).f2), .string (⟨#[]⟩ : ByteArray)]) ?_ 3 _ rfl; (with_reducible repeat (first | refine blk_drewN ?_ _ | refine blk_drew ?_ | refine blk_alloc ?_ _)); refine blk_put (cs := #[.int .i64 ((rd_T36 l1 x13_1).f0), .bool ((rd_T36 l1 x13_1).f1), .int .i64 0, .string (⟨#[]⟩ : ByteArray)]) ?_ 2 _ rfl; (with_reducible repeat (first | refine blk_drewN ?_ _ | refine blk_drew ?_ | refine blk_alloc ?_ _)); refine blk_put (cs := #[.int .i64 ((rd_T36 l1 x13_1).f0), .bool false, .int .i64 0, .string (⟨#[]⟩ : ByteArray)]) ?_ 1 _ rfl; (with_reducible repeat (first | refine blk_drewN ?_ _ | refine blk_drew ?_ | refine blk_alloc ?_ _)); refine blk_put (cs := #[.int .i64 0, .bool false, .int .i64 0, .string (⟨#[]⟩ : ByteArray)]) ?_ 0 _ rfl; (with_reducible repeat (first | refine blk_drewN ?_ _ | refine blk_drew ?_ | refine blk_alloc ?_ _)); exact BK392.out) hb); have n2_ := Aside0.mk (below_step (by repeat (first | (with_reducible first | exact HB.out | apply below_alloc | apply pw_below_drewN | apply below_drew1 | refine below_set ?_ GE390.out | refine below_set ?_ GE392.out) | exact HB.out)) hb); clear BK390; clear BK392; clear HB; have BK390 := n0_; have BK392 := n1_; have HB := n2_; clear n0_ n1_ n2_; (try clear hb); (try clear hb2); (try clear hk); (try clear hi)))
                  go_roundg k1
                  case measure => have := HK1.out; omega
                  case rel => exact ⟨(wrap64 (x13_1 + 1)), (by first | rfl | (simp; done) | (simp [*]; done)), H', ⟨by have := HK1.out; omega⟩, ⟨by repeat (first | (with_reducible first | exact HB.out | apply below_alloc | apply pw_below_drewN | apply below_drew1 | refine below_set ?_ GE390.out | refine below_set ?_ GE392.out) | exact HB.out)⟩⟩
                · rw [if_neg c11] at H
                  have c11b0 : (t393 == 0) = false := beq_eq_false_iff_ne.mpr c11
                  have c11b1 : (t393 != 0) = true := bne_iff_ne.mpr c11
                  obtain rfl := Option.some.inj H
                  have p389 : 0 ≤ (x13_1 : Int) := of_decide_eq_true (by first | (with_reducible assumption) | assumption)
                  have q389 : x13_1 < (l0.length : Int) := of_decide_eq_true (by first | (with_reducible assumption) | assumption)
                  obtain ⟨ad389, e389, hx389_0, hx389_1, hx389_2, hx389_3⟩ := at_T36 HR0.out x13_1 p389 q389
                  cases e389
                  replace hx389_0 := (HB.out.cell (World.block_lt_of_cell? w _ hx389_0)).trans hx389_0
                  replace hx389_1 := (HB.out.cell (World.block_lt_of_cell? w _ hx389_1)).trans hx389_1
                  replace hx389_2 := (HB.out.cell (World.block_lt_of_cell? w _ hx389_2)).trans hx389_2
                  replace hx389_3 := (HB.out.cell (World.block_lt_of_cell? w _ hx389_3)).trans hx389_3
                  replace p389 := eq_true p389
                  replace q389 := eq_true q389
                  go_wp2_with (first | ((with_reducible refine gate_dst (N := 8) rfl ?_); refine box_event ?hg (N := 8) ?hd (cs := #[.int .i64 0, .bool false, .int .i64 0, .string (⟨#[]⟩ : ByteArray)]) (t := 36) ?hr ?_; (case hd => rfl); (case hg => rfl); (case hr => first | (go_simp; done) | (go_simp; rfl)); intro gb390 hg w19 hbox hb; have n0_ := Aside0.mk (below_step (by repeat (first | (with_reducible first | exact HB.out | apply below_alloc | apply pw_below_drewN | apply below_drew1) | exact HB.out)) hb); have n1_ := Aside0.mk (hbox); have n2_ := Aside0.mk ((by rw [hg]; exact (below_size (by repeat (first | (with_reducible first | exact HB.out | apply below_alloc | apply pw_below_drewN | apply below_drew1) | exact HB.out))) : w.heap.size ≤ gb390)); have n3_ := Aside0.mk ((by rw [hg]; exact (below_size (by repeat (first | (with_reducible first | exact HB.out | apply below_alloc | apply pw_below_drewN | apply below_drew1) | exact HB.out))) : w.heap.size ≤ gb390)); clear HB; have HB := n0_; have BK390 := n1_; have GW390 := n2_; have GE390 := n3_; clear n0_ n1_ n2_ n3_; clear hb hbox hg; have hcz20_0 : w19.cell? ⟨gb390, 0, none⟩ = some (.int .i64 0) := (blk_cell BK390.out 0).trans rfl; have hcz20_1 : w19.cell? ⟨gb390, 1, none⟩ = some (.bool false) := (blk_cell BK390.out 1).trans rfl; have hcz20_2 : w19.cell? ⟨gb390, 2, none⟩ = some (.int .i64 0) := (blk_cell BK390.out 2).trans rfl; have hcz20_3 : w19.cell? ⟨gb390, 3, none⟩ = some (.string (⟨#[]⟩ : ByteArray)) := (blk_cell BK390.out 3).trans rfl; have hfz20_0 := blk_frozen BK390.out 0; have hfz20_1 := blk_frozen BK390.out 1; have hfz20_2 := blk_frozen BK390.out 2; have hfz20_3 := blk_frozen BK390.out 3; have p391 : 0 ≤ (x13_1 : Int) := of_decide_eq_true (by first | (with_reducible assumption) | assumption); have q391 : x13_1 < (l1.length : Int) := of_decide_eq_true (by first | (with_reducible assumption) | assumption); obtain ⟨ad391, e391, hx391_0, hx391_1, hx391_2, hx391_3⟩ := at_T36 HR1.out x13_1 p391 q391; cases e391; have hn391_0 : ad391.block ≠ gb390 := Nat.ne_of_lt (Nat.lt_of_lt_of_le (by have := World.block_lt_of_cell? _ _ hx391_0; first | rwa [add_block] at this | exact this) GW390.out); have hn391_1 : ad391.block ≠ gb390 := Nat.ne_of_lt (Nat.lt_of_lt_of_le (by have := World.block_lt_of_cell? _ _ hx391_0; first | rwa [add_block] at this | exact this) GW390.out); have hn391_2 : ad391.block ≠ gb390 := Nat.ne_of_lt (Nat.lt_of_lt_of_le (by have := World.block_lt_of_cell? _ _ hx391_0; first | rwa [add_block] at this | exact this) GW390.out); have hn391_3 : ad391.block ≠ gb390 := Nat.ne_of_lt (Nat.lt_of_lt_of_le (by have := World.block_lt_of_cell? _ _ hx391_0; first | rwa [add_block] at this | exact this) GW390.out); replace hx391_0 := (HB.out.cell (World.block_lt_of_cell? w _ hx391_0)).trans hx391_0; replace hx391_1 := (HB.out.cell (World.block_lt_of_cell? w _ hx391_1)).trans hx391_1; replace hx391_2 := (HB.out.cell (World.block_lt_of_cell? w _ hx391_2)).trans hx391_2; replace hx391_3 := (HB.out.cell (World.block_lt_of_cell? w _ hx391_3)).trans hx391_3; replace hx391_0 := (cell_far (p := ⟨gb390, 0, none⟩) (by first | (rw [add_block]; exact hn391_0) | (show (Addr.add _ _).block ≠ _; rw [add_block]; exact hn391_0) | exact hn391_0) (.int .i64 ((rd_T36 l0 x13_1).f0))).trans hx391_0; replace hx391_1 := (cell_far (p := ⟨gb390, 0, none⟩) (by first | (rw [add_block]; exact hn391_0) | (show (Addr.add _ _).block ≠ _; rw [add_block]; exact hn391_0) | exact hn391_0) (.int .i64 ((rd_T36 l0 x13_1).f0))).trans hx391_1; replace hx391_2 := (cell_far (p := ⟨gb390, 0, none⟩) (by first | (rw [add_block]; exact hn391_0) | (show (Addr.add _ _).block ≠ _; rw [add_block]; exact hn391_0) | exact hn391_0) (.int .i64 ((rd_T36 l0 x13_1).f0))).trans hx391_2; replace hx391_3 := (cell_far (p := ⟨gb390, 0, none⟩) (by first | (rw [add_block]; exact hn391_0) | (show (Addr.add _ _).block ≠ _; rw [add_block]; exact hn391_0) | exact hn391_0) (.int .i64 ((rd_T36 l0 x13_1).f0))).trans hx391_3; replace hx391_0 := (cell_far (p := ⟨gb390, 1, none⟩) (by first | (rw [add_block]; exact hn391_1) | (show (Addr.add _ _).block ≠ _; rw [add_block]; exact hn391_1) | exact hn391_1) (.bool ((rd_T36 l0 x13_1).f1))).trans hx391_0; replace hx391_1 := (cell_far (p := ⟨gb390, 1, none⟩) (by first | (rw [add_block]; exact hn391_1) | (show (Addr.add _ _).block ≠ _; rw [add_block]; exact hn391_1) | exact hn391_1) (.bool ((rd_T36 l0 x13_1).f1))).trans hx391_1; replace hx391_2 := (cell_far (p := ⟨gb390, 1, none⟩) (by first | (rw [add_block]; exact hn391_1) | (show (Addr.add _ _).block ≠ _; rw [add_block]; exact hn391_1) | exact hn391_1) (.bool ((rd_T36 l0 x13_1).f1))).trans hx391_2; replace hx391_3 := (cell_far (p := ⟨gb390, 1, none⟩) (by first | (rw [add_block]; exact hn391_1) | (show (Addr.add _ _).block ≠ _; rw [add_block]; exact hn391_1) | exact hn391_1) (.bool ((rd_T36 l0 x13_1).f1))).trans hx391_3; replace hx391_0 := (cell_far (p := ⟨gb390, 2, none⟩) (by first | (rw [add_block]; exact hn391_2) | (show (Addr.add _ _).block ≠ _; rw [add_block]; exact hn391_2) | exact hn391_2) (.int .i64 ((rd_T36 l0 x13_1).f2))).trans hx391_0; replace hx391_1 := (cell_far (p := ⟨gb390, 2, none⟩) (by first | (rw [add_block]; exact hn391_2) | (show (Addr.add _ _).block ≠ _; rw [add_block]; exact hn391_2) | exact hn391_2) (.int .i64 ((rd_T36 l0 x13_1).f2))).trans hx391_1; replace hx391_2 := (cell_far (p := ⟨gb390, 2, none⟩) (by first | (rw [add_block]; exact hn391_2) | (show (Addr.add _ _).block ≠ _; rw [add_block]; exact hn391_2) | exact hn391_2) (.int .i64 ((rd_T36 l0 x13_1).f2))).trans hx391_2; replace hx391_3 := (cell_far (p := ⟨gb390, 2, none⟩) (by first | (rw [add_block]; exact hn391_2) | (show (Addr.add _ _).block ≠ _; rw [add_block]; exact hn391_2) | exact hn391_2) (.int .i64 ((rd_T36 l0 x13_1).f2))).trans hx391_3; replace hx391_0 := (cell_far (p := ⟨gb390, 3, none⟩) (by first | (rw [add_block]; exact hn391_3) | (show (Addr.add _ _).block ≠ _; rw [add_block]; exact hn391_3) | exact hn391_3) (.string ((rd_T36 l0 x13_1).f3))).trans hx391_0; replace hx391_1 := (cell_far (p := ⟨gb390, 3, none⟩) (by first | (rw [add_block]; exact hn391_3) | (show (Addr.add _ _).block ≠ _; rw [add_block]; exact hn391_3) | exact hn391_3) (.string ((rd_T36 l0 x13_1).f3))).trans hx391_1; replace hx391_2 := (cell_far (p := ⟨gb390, 3, none⟩) (by first | (rw [add_block]; exact hn391_3) | (show (Addr.add _ _).block ≠ _; rw [add_block]; exact hn391_3) | exact hn391_3) (.string ((rd_T36 l0 x13_1).f3))).trans hx391_2; replace hx391_3 := (cell_far (p := ⟨gb390, 3, none⟩) (by first | (rw [add_block]; exact hn391_3) | (show (Addr.add _ _).block ≠ _; rw [add_block]; exact hn391_3) | exact hn391_3) (.string ((rd_T36 l0 x13_1).f3))).trans hx391_3; clear hn391_0; clear hn391_1; clear hn391_2; clear hn391_3; replace p391 := eq_true p391; replace q391 := eq_true q391) | ((with_reducible refine gate_dst (N := 9) rfl ?_); refine box_event ?hg (N := 9) ?hd (cs := #[.int .i64 0, .bool false, .int .i64 0, .string (⟨#[]⟩ : ByteArray)]) (t := 36) ?hr ?_; (case hd => rfl); (case hg => rfl); (case hr => first | (go_simp; done) | (go_simp; rfl)); intro gb392 hg w21 hbox hb; have n0_ := Aside0.mk (blk_below (g := gb390) (o := .cells #[.int .i64 ((rd_T36 l0 x13_1).f0), .bool ((rd_T36 l0 x13_1).f1), .int .i64 ((rd_T36 l0 x13_1).f2), .string ((rd_T36 l0 x13_1).f3)] 36 (0, 0)) (by (with_reducible repeat (first | refine blk_drewN ?_ _ | refine blk_drew ?_ | refine blk_alloc ?_ _)); refine blk_put (cs := #[.int .i64 ((rd_T36 l0 x13_1).f0), .bool ((rd_T36 l0 x13_1).f1), .int .i64 ((rd_T36 l0 x13_1).f2), .string (⟨#[]⟩ : ByteArray)]) ?_ 3 _ rfl; (with_reducible repeat (first | refine blk_drewN ?_ _ | refine blk_drew ?_ | refine blk_alloc ?_ _)); refine blk_put (cs := #[.int .i64 ((rd_T36 l0 x13_1).f0), .bool ((rd_T36 l0 x13_1).f1), .int .i64 0, .string (⟨#[]⟩ : ByteArray)]) ?_ 2 _ rfl; (with_reducible repeat (first | refine blk_drewN ?_ _ | refine blk_drew ?_ | refine blk_alloc ?_ _)); refine blk_put (cs := #[.int .i64 ((rd_T36 l0 x13_1).f0), .bool false, .int .i64 0, .string (⟨#[]⟩ : ByteArray)]) ?_ 1 _ rfl; (with_reducible repeat (first | refine blk_drewN ?_ _ | refine blk_drew ?_ | refine blk_alloc ?_ _)); refine blk_put (cs := #[.int .i64 0, .bool false, .int .i64 0, .string (⟨#[]⟩ : ByteArray)]) ?_ 0 _ rfl; (with_reducible repeat (first | refine blk_drewN ?_ _ | refine blk_drew ?_ | refine blk_alloc ?_ _)); exact BK390.out) hb); have n1_ := Aside0.mk (below_step (by repeat (first | (with_reducible first | exact HB.out | apply below_alloc | apply pw_below_drewN | apply below_drew1 | refine below_set ?_ GE390.out) | exact HB.out)) hb); have n2_ := Aside0.mk (hbox); have n3_ := Aside0.mk ((by rw [hg]; exact (below_size (by repeat (first | (with_reducible first | exact HB.out | apply below_alloc | apply pw_below_drewN | apply below_drew1 | refine below_set ?_ GE390.out) | exact HB.out))) : w.heap.size ≤ gb392)); have n4_ := Aside0.mk ((by rw [hg]; exact (below_size (by repeat (first | (with_reducible first | exact HB.out | apply below_alloc | apply pw_below_drewN | apply below_drew1 | refine below_set ?_ GE390.out) | exact HB.out))) : w.heap.size ≤ gb392)); have n5_ := Aside0.mk ((by rw [hg]; exact Nat.ne_of_lt (blk_lt (g := gb390) (o := .cells #[.int .i64 ((rd_T36 l0 x13_1).f0), .bool ((rd_T36 l0 x13_1).f1), .int .i64 ((rd_T36 l0 x13_1).f2), .string ((rd_T36 l0 x13_1).f3)] 36 (0, 0)) (by (with_reducible repeat (first | refine blk_drewN ?_ _ | refine blk_drew ?_ | refine blk_alloc ?_ _)); refine blk_put (cs := #[.int .i64 ((rd_T36 l0 x13_1).f0), .bool ((rd_T36 l0 x13_1).f1), .int .i64 ((rd_T36 l0 x13_1).f2), .string (⟨#[]⟩ : ByteArray)]) ?_ 3 _ rfl; (with_reducible repeat (first | refine blk_drewN ?_ _ | refine blk_drew ?_ | refine blk_alloc ?_ _)); refine blk_put (cs := #[.int .i64 ((rd_T36 l0 x13_1).f0), .bool ((rd_T36 l0 x13_1).f1), .int .i64 0, .string (⟨#[]⟩ : ByteArray)]) ?_ 2 _ rfl; (with_reducible repeat (first | refine blk_drewN ?_ _ | refine blk_drew ?_ | refine blk_alloc ?_ _)); refine blk_put (cs := #[.int .i64 ((rd_T36 l0 x13_1).f0), .bool false, .int .i64 0, .string (⟨#[]⟩ : ByteArray)]) ?_ 1 _ rfl; (with_reducible repeat (first | refine blk_drewN ?_ _ | refine blk_drew ?_ | refine blk_alloc ?_ _)); refine blk_put (cs := #[.int .i64 0, .bool false, .int .i64 0, .string (⟨#[]⟩ : ByteArray)]) ?_ 0 _ rfl; (with_reducible repeat (first | refine blk_drewN ?_ _ | refine blk_drew ?_ | refine blk_alloc ?_ _)); exact BK390.out)) : gb390 ≠ gb392)); have n6_ := Aside0.mk ((by rw [hg]; exact Nat.ne_of_gt (blk_lt (g := gb390) (o := .cells #[.int .i64 ((rd_T36 l0 x13_1).f0), .bool ((rd_T36 l0 x13_1).f1), .int .i64 ((rd_T36 l0 x13_1).f2), .string ((rd_T36 l0 x13_1).f3)] 36 (0, 0)) (by (with_reducible repeat (first | refine blk_drewN ?_ _ | refine blk_drew ?_ | refine blk_alloc ?_ _)); refine blk_put (cs := #[.int .i64 ((rd_T36 l0 x13_1).f0), .bool ((rd_T36 l0 x13_1).f1), .int .i64 ((rd_T36 l0 x13_1).f2), .string (⟨#[]⟩ : ByteArray)]) ?_ 3 _ rfl; (with_reducible repeat (first | refine blk_drewN ?_ _ | refine blk_drew ?_ | refine blk_alloc ?_ _)); refine blk_put (cs := #[.int .i64 ((rd_T36 l0 x13_1).f0), .bool ((rd_T36 l0 x13_1).f1), .int .i64 0, .string (⟨#[]⟩ : ByteArray)]) ?_ 2 _ rfl; (with_reducible repeat (first | refine blk_drewN ?_ _ | refine blk_drew ?_ | refine blk_alloc ?_ _)); refine blk_put (cs := #[.int .i64 ((rd_T36 l0 x13_1).f0), .bool false, .int .i64 0, .string (⟨#[]⟩ : ByteArray)]) ?_ 1 _ rfl; (with_reducible repeat (first | refine blk_drewN ?_ _ | refine blk_drew ?_ | refine blk_alloc ?_ _)); refine blk_put (cs := #[.int .i64 0, .bool false, .int .i64 0, .string (⟨#[]⟩ : ByteArray)]) ?_ 0 _ rfl; (with_reducible repeat (first | refine blk_drewN ?_ _ | refine blk_drew ?_ | refine blk_alloc ?_ _)); exact BK390.out)) : gb392 ≠ gb390)); clear BK390; clear HB; have BK390 := n0_; have HB := n1_; have BK392 := n2_; have GW392 := n3_; have GE392 := n4_; have NB390_392 := n5_; have NB392_390 := n6_; clear n0_ n1_ n2_ n3_ n4_ n5_ n6_; clear hb hbox hg; have hnb22 := NB392_390.out; have hnc22 := NB390_392.out; have hcz23_0 : w21.cell? ⟨gb392, 0, none⟩ = some (.int .i64 0) := (blk_cell BK392.out 0).trans rfl; have hcz23_1 : w21.cell? ⟨gb392, 1, none⟩ = some (.bool false) := (blk_cell BK392.out 1).trans rfl; have hcz23_2 : w21.cell? ⟨gb392, 2, none⟩ = some (.int .i64 0) := (blk_cell BK392.out 2).trans rfl; have hcz23_3 : w21.cell? ⟨gb392, 3, none⟩ = some (.string (⟨#[]⟩ : ByteArray)) := (blk_cell BK392.out 3).trans rfl; have hfz23_0 := blk_frozen BK392.out 0; have hfz23_1 := blk_frozen BK392.out 1; have hfz23_2 := blk_frozen BK392.out 2; have hfz23_3 := blk_frozen BK392.out 3; have hcz24_0 : w21.cell? ⟨gb390, 0, none⟩ = some (.int .i64 ((rd_T36 l0 x13_1).f0)) := (blk_cell BK390.out 0).trans rfl; have hcz24_1 : w21.cell? ⟨gb390, 1, none⟩ = some (.bool ((rd_T36 l0 x13_1).f1)) := (blk_cell BK390.out 1).trans rfl; have hcz24_2 : w21.cell? ⟨gb390, 2, none⟩ = some (.int .i64 ((rd_T36 l0 x13_1).f2)) := (blk_cell BK390.out 2).trans rfl; have hcz24_3 : w21.cell? ⟨gb390, 3, none⟩ = some (.string ((rd_T36 l0 x13_1).f3)) := (blk_cell BK390.out 3).trans rfl; have hfz24_0 := blk_frozen BK390.out 0; have hfz24_1 := blk_frozen BK390.out 1; have hfz24_2 := blk_frozen BK390.out 2; have hfz24_3 := blk_frozen BK390.out 3) | ((with_reducible refine gate_value rfl ?_); refine goesV_ (some 29) rfl rfl Tryd.func36 (by kernel_rfl) rfl #[.agg #[.int .i64 ((rd_T36 l0 x13_1).f0), .bool ((rd_T36 l0 x13_1).f1), .int .i64 ((rd_T36 l0 x13_1).f2), .string ((rd_T36 l0 x13_1).f3)], .agg #[.int .i64 ((rd_T36 l1 x13_1).f0), .bool ((rd_T36 l1 x13_1).f1), .int .i64 ((rd_T36 l1 x13_1).f2), .string ((rd_T36 l1 x13_1).f3)]] rfl (by first | rfl | (go_simp; done) | (go_simp; rfl)) (by (try simp only [List.map_toArray, List.map_cons, List.map_nil]); first | done | rfl | (simp only [List.length_drop, List.length_take]; rfl)) ?_; (with_reducible refine (tuple_compare.calls k1 ((rd_T36 l0 x13_1).f0) ((rd_T36 l0 x13_1).f1) ((rd_T36 l0 x13_1).f2) ((rd_T36 l0 x13_1).f3) ((rd_T36 l1 x13_1).f0) ((rd_T36 l1 x13_1).f1) ((rd_T36 l1 x13_1).f2) ((rd_T36 l1 x13_1).f3) t393 _ A10.out).mono ?_); rintro e w25 ⟨rfl, hb⟩; refine ⟨_, rfl, ?_⟩; have n0_ := Aside0.mk (blk_below (g := gb390) (o := .cells #[.int .i64 ((rd_T36 l0 x13_1).f0), .bool ((rd_T36 l0 x13_1).f1), .int .i64 ((rd_T36 l0 x13_1).f2), .string ((rd_T36 l0 x13_1).f3)] 36 (0, 0)) (by (with_reducible repeat (first | refine blk_drewN ?_ _ | refine blk_drew ?_ | refine blk_alloc ?_ _)); refine blk_far ?_ NB390_392.out _; (with_reducible repeat (first | refine blk_drewN ?_ _ | refine blk_drew ?_ | refine blk_alloc ?_ _)); refine blk_far ?_ NB390_392.out _; (with_reducible repeat (first | refine blk_drewN ?_ _ | refine blk_drew ?_ | refine blk_alloc ?_ _)); refine blk_far ?_ NB390_392.out _; (with_reducible repeat (first | refine blk_drewN ?_ _ | refine blk_drew ?_ | refine blk_alloc ?_ _)); refine blk_far ?_ NB390_392.out _; (with_reducible repeat (first | refine blk_drewN ?_ _ | refine blk_drew ?_ | refine blk_alloc ?_ _)); exact BK390.out) hb); have n1_ := Aside0.mk (blk_below (g := gb392) (o := .cells #[.int .i64 ((rd_T36 l1 x13_1).f0), .bool ((rd_T36 l1 x13_1).f1), .int .i64 ((rd_T36 l1 x13_1).f2), .string ((rd_T36 l1 x13_1).f3)] 36 (0, 0)) (by (with_reducible repeat (first | refine blk_drewN ?_ _ | refine blk_drew ?_ | refine blk_alloc ?_ _)); refine blk_put (cs := #[.int .i64 ((rd_T36 l1 x13_1).f0), .bool ((rd_T36 l1 x13_1).f1), .int .i64 ((rd_T36 l1 x13_1).f2), .string (⟨#[]⟩ : ByteArray)]) ?_ 3 _ rfl; (with_reducible repeat (first | refine blk_drewN ?_ _ | refine blk_drew ?_ | refine blk_alloc ?_ _)); refine blk_put (cs := #[.int .i64 ((rd_T36 l1 x13_1).f0), .bool ((rd_T36 l1 x13_1).f1), .int .i64 0, .string (⟨#[]⟩ : ByteArray)]) ?_ 2 _ rfl; (with_reducible repeat (first | refine blk_drewN ?_ _ | refine blk_drew ?_ | refine blk_alloc ?_ _)); refine blk_put (cs := #[.int .i64 ((rd_T36 l1 x13_1).f0), .bool false, .int .i64 0, .string (⟨#[]⟩ : ByteArray)]) ?_ 1 _ rfl; (with_reducible repeat (first | refine blk_drewN ?_ _ | refine blk_drew ?_ | refine blk_alloc ?_ _)); refine blk_put (cs := #[.int .i64 0, .bool false, .int .i64 0, .string (⟨#[]⟩ : ByteArray)]) ?_ 0 _ rfl; (with_reducible repeat (first | refine blk_drewN ?_ _ | refine blk_drew ?_ | refine blk_alloc ?_ _)); exact BK392.out) hb); have n2_ := Aside0.mk (below_step (by repeat (first | (with_reducible first | exact HB.out | apply below_alloc | apply pw_below_drewN | apply below_drew1 | refine below_set ?_ GE390.out | refine below_set ?_ GE392.out) | exact HB.out)) hb); clear BK390; clear BK392; clear HB; have BK390 := n0_; have BK392 := n1_; have HB := n2_; clear n0_ n1_ n2_; (try clear hb); (try clear hb2); (try clear hk); (try clear hi)))
                  go_ret
                  exact ⟨by first | rfl | (simp [errW_none, errW_some] <;> rfl) | (simp [*, errW_none, errW_some] <;> rfl), by repeat (first | (with_reducible first | exact HB.out | apply below_alloc | apply pw_below_drewN | apply below_drew1 | refine below_set ?_ GE390.out | refine below_set ?_ GE392.out) | exact HB.out)⟩
              · rw [if_neg c9] at H
                exact absurd H (by simp)
          · rw [if_neg c5] at H
            exact absurd H (by simp)
        · rw [if_neg c4] at H
          exact absurd H (by simp)
      · rw [if_neg c3] at H
        have c3b0 : decide (x13_1 < (l0.length : Int)) = false := decide_eq_false c3
        clear c3
        by_cases c26 : (l0.length : Int) < (l1.length : Int)
        · rw [if_pos c26] at H
          have c26b0 : decide ((l0.length : Int) < (l1.length : Int)) = true := decide_eq_true c26
          have c26b1 : decide (l0.length < l1.length) = true := decide_eq_true (Int.ofNat_lt.mp c26)
          clear c26
          obtain rfl := Option.some.inj H
          go_wp2
          go_ret
          exact ⟨by first | rfl | (simp [errW_none, errW_some] <;> rfl) | (simp [*, errW_none, errW_some] <;> rfl), by repeat (first | (with_reducible first | exact HB.out | apply below_alloc | apply pw_below_drewN | apply below_drew1) | exact HB.out)⟩
        · rw [if_neg c26] at H
          have c26b0 : decide ((l0.length : Int) < (l1.length : Int)) = false := decide_eq_false c26
          have c26b1 : decide (l0.length < l1.length) = false := decide_eq_false (fun h => c26 (Int.ofNat_lt.mpr h))
          clear c26
          obtain rfl := Option.some.inj H
          go_wp2
          go_ret
          exact ⟨by first | rfl | (simp [errW_none, errW_some] <;> rfl) | (simp [*, errW_none, errW_some] <;> rfl), by repeat (first | (with_reducible first | exact HB.out | apply below_alloc | apply pw_below_drewN | apply below_drew1) | exact HB.out)⟩

end Go.Proofs.YtoieckmegdcaeaaDoor.G
end

section
namespace Go.Proofs.YtoieckmegdcaeaaDoor.G
open Go.RowKit Go.Proofs.YtoieckmegdcaeaaDoorW.PrintWords Go.Proofs.YtoieckmegdcaeaaDoorW.PrintLast Go.Proofs.YtoieckmegdcaeaaDoorW.PrintMore
attribute [local go_sem] max2_int min2_int max_two min_two max_three min_three max_four min_four   -- for this text's walks alone
set_option linter.unusedVariables false
set_option linter.unusedSimpArgs false

/-! ### tuple_Encode: function 14 -/
def tuple_Encode.l0 : Nat → List Int → List (S36) → Int → Int → Option (ByteArray × Int)
  | 0, _, _, _, _ => none
  | k + 1, x4, x10, x11, x12 => if x12 < x11 then (if 0 ≤ x12 then (if x12 < (x10.length : Int) then ((tuple_value.f x4 ((rd_T36 x10 x12).f0) ((rd_T36 x10 x12).f1) ((rd_T36 x10 x12).f2) ((rd_T36 x10 x12).f3)).bind fun t140 => (tuple_Encode.l0 k t140 x10 x11 (wrap64 (x12 + 1)))) else (none)) else (none)) else (some (strOfNums x4, 0))
def tuple_Encode.f (k : Nat) (l0 : List (S36)) : Option (ByteArray × Int) := (tuple_Valid.f k l0).bind fun t137 => (if t137 = 0 then (tuple_Encode.l0 k ([] : List Int) l0 (l0.length : Int) 0) else (some ((⟨#[]⟩ : ByteArray), 1)))
theorem tuple_Encode.mono_l : ∀ k, (∀ y0 y1 y2 y3, LeO (tuple_Encode.l0 k y0 y1 y2 y3) (tuple_Encode.l0 (k + 1) y0 y1 y2 y3))
  | 0 => fun _ _ _ _ r h => by simp [tuple_Encode.l0] at h
  | k + 1 => by
    have ih0 := tuple_Encode.mono_l k
    · intro y0 y1 y2 y3
      unfold tuple_Encode.l0
      repeat' first
      | (with_reducible exact ih0 _ _ _ _)
      | (with_reducible exact tuple_Valid.mono _ _)
      | (with_reducible exact LeO.refl _)
      | (with_reducible exact LeO.none _)
      | (with_reducible refine LeO.ite ?_ ?_)
      | (with_reducible refine LeO.bind ?_ (fun _ => ?_))
      | exact ih0 _ _ _ _
      | exact tuple_Valid.mono _ _
      | exact LeO.none _
      | refine LeO.ite ?_ ?_
      | refine LeO.bind ?_ (fun _ => ?_)
theorem tuple_Encode.mono : ∀ a0 k, LeO (tuple_Encode.f k a0) (tuple_Encode.f (k + 1) a0) := by
  intro a0 k
  have ih0 := tuple_Encode.mono_l k
  unfold tuple_Encode.f
  repeat' first
      | (with_reducible exact ih0 _ _ _ _)
      | (with_reducible exact tuple_Valid.mono _ _)
      | (with_reducible exact LeO.refl _)
      | (with_reducible exact LeO.none _)
      | (with_reducible refine LeO.ite ?_ ?_)
      | (with_reducible refine LeO.bind ?_ (fun _ => ?_))
      | exact ih0 _ _ _ _
      | exact tuple_Valid.mono _ _
      | exact LeO.none _
      | refine LeO.ite ?_ ?_
      | refine LeO.bind ?_ (fun _ => ?_)
set_option maxHeartbeats 8000000 in
set_option maxRecDepth 100000 in
theorem tuple_Encode.calls (k : Nat) (A0 : Option Addr) (c0 : Nat) (l0 : List (S36)) (r1 : ByteArray) (r2 : Int) (w : World) (hr0 : Kd.C k36 w A0 l0.length l0) (hc0 : l0.length ≤ c0) (h : tuple_Encode.f k l0 = some (r1, r2)) (tb : Tb w) :
    Calls Tryd.prog 14 #[.slice A0 l0.length c0] w fun e w' => e = .returned (.tuple #[.string r1, .int .i64 r2]) ∧ Below w.heap.size w w' := by
  have TB := Aside0.mk tb
  clear tb
  have hu36 := Tryd.underlying36
  have HR0 := Aside0.mk hr0
  have HC0 := Aside0.mk hc0
  clear hr0 hc0
  have HB := Aside0.mk (Below.refl w.heap.size w)
  have H : ((tuple_Valid.f k l0).bind fun t137 => (if t137 = 0 then (tuple_Encode.l0 k ([] : List Int) l0 (l0.length : Int) 0) else (some ((⟨#[]⟩ : ByteArray), 1)))) = some (r1, r2) := h
  clear h
  replace H := Option.bind_eq_some_iff.mp H
  obtain ⟨t137, A20, H⟩ := H
  replace H : (if t137 = 0 then (tuple_Encode.l0 k ([] : List Int) l0 (l0.length : Int) 0) else (some ((⟨#[]⟩ : ByteArray), 1))) = some (r1, r2) := H
  have A2 := Aside0.mk A20
  clear A20
  by_cases c3 : t137 = 0
  · rw [if_pos c3] at H
    have c3b0 : (t137 == 0) = true := beq_iff_eq.mpr c3
    have c3b1 : (t137 != 0) = false := bne_eq_false_iff_eq.mpr c3
    clear c3
    have H' := Aside0.mk H
    clear H
    go_enter Tryd.func14, Tryd.ntmps14
    go_wp2_with (first | ((with_reducible refine gate_callee (f := 13) rfl ?_); refine goesL_ (some 8) rfl rfl Tryd.func13 (by kernel_rfl) rfl #[.slice A0 l0.length c0] rfl (by (try simp only [List.map_toArray, List.map_cons, List.map_nil]); first | done | rfl | (simp only [List.length_drop, List.length_take]; rfl)) ?_; (with_reducible refine (tuple_Valid.calls k _ _ l0 t137 _ ?side1 ?side2 A2.out).mono ?_); (case side1 => repeat (first | exact HR0.out | (with_reducible refine Kd.C_alloc ?_ _) | (with_reducible refine Kd.C_drewN ?_ _) | (with_reducible refine Kd.C_drew ?_))); (case side2 => exact HC0.out); rintro e w4 ⟨rfl, hb⟩; refine ⟨_, rfl, ?_⟩; have n0_ := Aside0.mk (below_step (by repeat (first | (with_reducible first | exact HB.out | apply below_alloc | apply pw_below_drewN | apply below_drew1) | exact HB.out)) hb); clear HB; have HB := n0_; clear n0_; (try clear hb); (try clear hb2); (try clear hk); (try clear hi)))
    go_loopg [4, 12] k (fun kq v4 v12 w' => ∃ (x4_1 : List Int) (x12_1 : Int), v12 = .int .i64 x12_1 ∧ Aside0 (tuple_Encode.l0 kq x4_1 l0 (l0.length : Int) x12_1 = some (r1, r2)) ∧ Aside0 (kq ≤ k) ∧ Aside0 (Kd.R (Kd.int .u8) 5 w' w.heap.size (fun _ => True) v4 x4_1) ∧ Aside0 (Below w.heap.size w w'))
    case atStart => exact ⟨(([] : List Int)), (0), (by first | rfl | (simp; done) | (simp [*]; done)), H', ⟨Nat.le_refl _⟩, ⟨by first | exact Kd.R_nil _ _ _ _ _ | exact Kd.N_nil _ _ _ _ _ | exact Kd.V_nil _ _ _ _ _ | exact Kd.Q_nil _ _ _ _ _ | exact Kd.S_nil _ _ _ _ _⟩, ⟨by repeat (first | (with_reducible first | exact HB.out | apply below_alloc | apply pw_below_drewN | apply below_drew1) | exact HB.out)⟩⟩
    case round =>
      clear H'
      try clear c1
      try clear p2
      try clear c3
      try clear c3b0
      try clear c3b1
      obtain ⟨x4_1, x12_1, rfl, HA, HK1, HO_4, HB⟩ := hrel
      cases gk with
      | zero => exact absurd HA.out (by simp [tuple_Encode.l0])
      | succ k1 =>
        have H := HA.out
        clear HA
        simp only [tuple_Encode.l0] at H
        by_cases c5 : x12_1 < (l0.length : Int)
        · rw [if_pos c5] at H
          have c5b0 : decide (x12_1 < (l0.length : Int)) = true := decide_eq_true c5
          clear c5
          by_cases c6 : 0 ≤ x12_1
          · rw [if_pos c6] at H
            have c6b0 : decide (0 ≤ x12_1) = true := decide_eq_true c6
            clear c6
            by_cases c7 : x12_1 < (l0.length : Int)
            · rw [if_pos c7] at H
              have c7b0 : decide (x12_1 < (l0.length : Int)) = true := decide_eq_true c7
              clear c7
              replace H := Option.bind_eq_some_iff.mp H
              obtain ⟨t140, A80, H⟩ := H
              replace H : (tuple_Encode.l0 k1 t140 l0 (l0.length : Int) (wrap64 (x12_1 + 1))) = some (r1, r2) := H
              have A8 := Aside0.mk A80
              clear A80
              have H' := Aside0.mk H
              clear H
              have p138 : 0 ≤ (x12_1 : Int) := of_decide_eq_true (by first | (with_reducible assumption) | assumption)
              have q138 : x12_1 < (l0.length : Int) := of_decide_eq_true (by first | (with_reducible assumption) | assumption)
              obtain ⟨ad138, e138, hx138_0, hx138_1, hx138_2, hx138_3⟩ := at_T36 HR0.out x12_1 p138 q138
              cases e138
              replace hx138_0 := (HB.out.cell (World.block_lt_of_cell? w _ hx138_0)).trans hx138_0
              replace hx138_1 := (HB.out.cell (World.block_lt_of_cell? w _ hx138_1)).trans hx138_1
              replace hx138_2 := (HB.out.cell (World.block_lt_of_cell? w _ hx138_2)).trans hx138_2
              replace hx138_3 := (HB.out.cell (World.block_lt_of_cell? w _ hx138_3)).trans hx138_3
              replace p138 := eq_true p138
              replace q138 := eq_true q138
              go_wp2_with (first | ((with_reducible refine gate_dst (N := 6) rfl ?_); refine box_event ?hg (N := 6) ?hd (cs := #[.int .i64 0, .bool false, .int .i64 0, .string (⟨#[]⟩ : ByteArray)]) (t := 36) ?hr ?_; (case hd => rfl); (case hg => rfl); (case hr => first | (go_simp; done) | (go_simp; rfl)); intro gb139 hg w9 hbox hb; have n0_ := Aside0.mk (Kd.R_below (by (with_reducible repeat (first | apply Kd.R_alloc | apply Kd.R_drewN | apply Kd.R_drew)); exact HO_4.out) hb); have n1_ := Aside0.mk (below_step (by repeat (first | (with_reducible first | exact HB.out | apply below_alloc | apply pw_below_drewN | apply below_drew1) | exact HB.out)) hb); have n2_ := Aside0.mk (hbox); have n3_ := Aside0.mk ((by rw [hg]; exact (below_size (by repeat (first | (with_reducible first | exact HB.out | apply below_alloc | apply pw_below_drewN | apply below_drew1) | exact HB.out))) : w.heap.size ≤ gb139)); have n4_ := Aside0.mk ((by rw [hg]; exact (below_size (by repeat (first | (with_reducible first | exact HB.out | apply below_alloc | apply pw_below_drewN | apply below_drew1) | exact HB.out))) : w.heap.size ≤ gb139)); clear HO_4; clear HB; have HO_4 := n0_; have HB := n1_; have BK139 := n2_; have GW139 := n3_; have GE139 := n4_; clear n0_ n1_ n2_ n3_ n4_; clear hb hbox hg; have hcz10_0 : w9.cell? ⟨gb139, 0, none⟩ = some (.int .i64 0) := (blk_cell BK139.out 0).trans rfl; have hcz10_1 : w9.cell? ⟨gb139, 1, none⟩ = some (.bool false) := (blk_cell BK139.out 1).trans rfl; have hcz10_2 : w9.cell? ⟨gb139, 2, none⟩ = some (.int .i64 0) := (blk_cell BK139.out 2).trans rfl; have hcz10_3 : w9.cell? ⟨gb139, 3, none⟩ = some (.string (⟨#[]⟩ : ByteArray)) := (blk_cell BK139.out 3).trans rfl; have hfz10_0 := blk_frozen BK139.out 0; have hfz10_1 := blk_frozen BK139.out 1; have hfz10_2 := blk_frozen BK139.out 2; have hfz10_3 := blk_frozen BK139.out 3) | ((with_reducible refine gate_store (t := 36) (p := 6) rfl ?_); refine store_event (t := 36) (p := 6) (v := ?vo_w11) (w1 := ((((w9.setCell ⟨gb139, 0, none⟩ (.int .i64 ((rd_T36 l0 x12_1).f0))).setCell ⟨gb139, 1, none⟩ (.bool ((rd_T36 l0 x12_1).f1))).setCell ⟨gb139, 2, none⟩ (.int .i64 ((rd_T36 l0 x12_1).f2))).setCell ⟨gb139, 3, none⟩ (.string ((rd_T36 l0 x12_1).f3)))) ?hg ?ho ?hn ?hr ?_; (case ho => rfl); (case hg => rfl); (case hn => rfl); (case hr => first | (go_simp; done) | (go_simp; rfl)); intro w11 hw; have n0_ : Aside0 (Kd.R (Kd.int .u8) 5 w11 w.heap.size (fun _ => True) u4 x4_1) := ⟨(by rw [hw]; exact (by (with_reducible repeat (first | apply Kd.R_alloc | apply Kd.R_drewN | apply Kd.R_drew)); exact Kd.R_mono (Kd.R_far (p := ⟨gb139, 3, none⟩) (Kd.R_far (p := ⟨gb139, 2, none⟩) (Kd.R_far (p := ⟨gb139, 1, none⟩) (Kd.R_far (p := ⟨gb139, 0, none⟩) (Kd.R_types HO_4.out BK139.out (by decide)) (fun _ hk => hk.2) (.int .i64 ((rd_T36 l0 x12_1).f0))) (fun _ hk => hk.2) (.bool ((rd_T36 l0 x12_1).f1))) (fun _ hk => hk.2) (.int .i64 ((rd_T36 l0 x12_1).f2))) (fun _ hk => hk.2) (.string ((rd_T36 l0 x12_1).f3))) (fun _ hk => trivial)))⟩; have n1_ : Aside0 (w11.heap[gb139]? = some (.cells #[.int .i64 ((rd_T36 l0 x12_1).f0), .bool ((rd_T36 l0 x12_1).f1), .int .i64 ((rd_T36 l0 x12_1).f2), .string ((rd_T36 l0 x12_1).f3)] 36 (0, 0))) := ⟨(by rw [hw]; exact (by (with_reducible repeat (first | refine blk_drewN ?_ _ | refine blk_drew ?_ | refine blk_alloc ?_ _)); refine blk_put (cs := #[.int .i64 ((rd_T36 l0 x12_1).f0), .bool ((rd_T36 l0 x12_1).f1), .int .i64 ((rd_T36 l0 x12_1).f2), .string (⟨#[]⟩ : ByteArray)]) ?_ 3 _ rfl; (with_reducible repeat (first | refine blk_drewN ?_ _ | refine blk_drew ?_ | refine blk_alloc ?_ _)); refine blk_put (cs := #[.int .i64 ((rd_T36 l0 x12_1).f0), .bool ((rd_T36 l0 x12_1).f1), .int .i64 0, .string (⟨#[]⟩ : ByteArray)]) ?_ 2 _ rfl; (with_reducible repeat (first | refine blk_drewN ?_ _ | refine blk_drew ?_ | refine blk_alloc ?_ _)); refine blk_put (cs := #[.int .i64 ((rd_T36 l0 x12_1).f0), .bool false, .int .i64 0, .string (⟨#[]⟩ : ByteArray)]) ?_ 1 _ rfl; (with_reducible repeat (first | refine blk_drewN ?_ _ | refine blk_drew ?_ | refine blk_alloc ?_ _)); refine blk_put (cs := #[.int .i64 0, .bool false, .int .i64 0, .string (⟨#[]⟩ : ByteArray)]) ?_ 0 _ rfl; (with_reducible repeat (first | refine blk_drewN ?_ _ | refine blk_drew ?_ | refine blk_alloc ?_ _)); exact BK139.out))⟩; have n2_ : Aside0 (Below w.heap.size w w11) := ⟨(by rw [hw]; exact (by repeat (first | (with_reducible first | exact HB.out | apply below_alloc | apply pw_below_drewN | apply below_drew1 | refine below_set ?_ GE139.out) | exact HB.out)))⟩; clear hw; clear HO_4; clear BK139; clear HB; have HO_4 := n0_; have BK139 := n1_; have HB := n2_; clear n0_ n1_ n2_; have hcz12_0 : w11.cell? ⟨gb139, 0, none⟩ = some (.int .i64 ((rd_T36 l0 x12_1).f0)) := (blk_cell BK139.out 0).trans rfl; have hcz12_1 : w11.cell? ⟨gb139, 1, none⟩ = some (.bool ((rd_T36 l0 x12_1).f1)) := (blk_cell BK139.out 1).trans rfl; have hcz12_2 : w11.cell? ⟨gb139, 2, none⟩ = some (.int .i64 ((rd_T36 l0 x12_1).f2)) := (blk_cell BK139.out 2).trans rfl; have hcz12_3 : w11.cell? ⟨gb139, 3, none⟩ = some (.string ((rd_T36 l0 x12_1).f3)) := (blk_cell BK139.out 3).trans rfl; have hfz12_0 := blk_frozen BK139.out 0; have hfz12_1 := blk_frozen BK139.out 1; have hfz12_2 := blk_frozen BK139.out 2; have hfz12_3 := blk_frozen BK139.out 3; obtain ⟨Ao13, co13, eo13⟩ := Kd.R_slice HO_4.out; subst eo13) | ((with_reducible refine gate_callee (f := 32) rfl ?_); refine goesL_ (some 18) rfl rfl Tryd.func32 (by kernel_rfl) rfl #[.slice Ao13 x4_1.length co13, .agg #[.int .i64 ((rd_T36 l0 x12_1).f0), .bool ((rd_T36 l0 x12_1).f1), .int .i64 ((rd_T36 l0 x12_1).f2), .string ((rd_T36 l0 x12_1).f3)]] rfl (by (try simp only [List.map_toArray, List.map_cons, List.map_nil]); first | done | rfl | (simp only [List.length_drop, List.length_take]; rfl)) ?_; (with_reducible refine (tuple_value.calls (fun k_ => some k_ = (.slice Ao13 x4_1.length co13 : Value).ownBlock) (.slice Ao13 x4_1.length co13) x4_1 ((rd_T36 l0 x12_1).f0) ((rd_T36 l0 x12_1).f1) ((rd_T36 l0 x12_1).f2) ((rd_T36 l0 x12_1).f3) t140 w _ ?side1 ?side2 A8.out TB.out).mono ?_); (case side1 => repeat (first | (with_reducible first | exact HB.out | apply below_alloc | apply pw_below_drewN | apply below_drew1 | refine below_set ?_ GE139.out) | exact HB.out)); (case side2 => exact Kd.R_tight rfl HO_4.out); rintro e w14 ⟨v141, rfl, ho0, hb, hkp⟩; refine ⟨_, rfl, ?_⟩; have n0_ := Aside0.mk (blk_kept (by (with_reducible repeat (first | refine blk_drewN ?_ _ | refine blk_drew ?_ | refine blk_alloc ?_ _)); exact BK139.out) hkp (fun hs_ => (fun e_ => (Kd.R_ne HO_4.out BK139.out (by decide)) e_) hs_)); have n1_ := Aside0.mk (Kd.R_mono (ok' := fun k_ => True) ho0 (fun k_ hk_ => trivial)); have n2_ := Aside0.mk (hb); clear BK139; clear HB; clear HO_4; have BK139 := n0_; have HO142 := n1_; have HB := n2_; clear n0_ n1_ n2_; (try clear hb); (try clear hkp); (try clear ho0)))
              go_roundg k1
              case measure => have := HK1.out; omega
              case rel => exact ⟨(t140), (wrap64 (x12_1 + 1)), (by first | rfl | (simp; done) | (simp [*]; done)), H', ⟨by have := HK1.out; omega⟩, ⟨by (with_reducible repeat (first | apply Kd.R_alloc | apply Kd.R_drewN | apply Kd.R_drew)); exact HO142.out⟩, ⟨by repeat (first | (with_reducible first | exact HB.out | apply below_alloc | apply pw_below_drewN | apply below_drew1 | refine below_set ?_ GE139.out) | exact HB.out)⟩⟩
            · rw [if_neg c7] at H
              exact absurd H (by simp)
          · rw [if_neg c6] at H
            exact absurd H (by simp)
        · rw [if_neg c5] at H
          have c5b0 : decide (x12_1 < (l0.length : Int)) = false := decide_eq_false c5
          clear c5
          simp only [Option.some.injEq, Prod.mk.injEq] at H
          obtain ⟨rfl, rfl⟩ := H
          have hcv15 := own_string (P := Tryd.prog) Tryd.underlying51 Tryd.underlying5 Tryd.underlying9 (Kd.own_of_R HO_4.out)
          go_wp2
          go_ret2
          exact ⟨by first | rfl | (simp [errW_none, errW_some] <;> rfl) | (simp [*, errW_none, errW_some] <;> rfl), by repeat (first | (with_reducible first | exact HB.out | apply below_alloc | apply pw_below_drewN | apply below_drew1) | exact HB.out)⟩
  · rw [if_neg c3] at H
    have c3b0 : (t137 == 0) = false := beq_eq_false_iff_ne.mpr c3
    have c3b1 : (t137 != 0) = true := bne_iff_ne.mpr c3
    simp only [Option.some.injEq, Prod.mk.injEq] at H
    obtain ⟨rfl, rfl⟩ := H
    go_enter Tryd.func14, Tryd.ntmps14
    go_wp2_with (first | ((with_reducible refine gate_callee (f := 13) rfl ?_); refine goesL_ (some 8) rfl rfl Tryd.func13 (by kernel_rfl) rfl #[.slice A0 l0.length c0] rfl (by (try simp only [List.map_toArray, List.map_cons, List.map_nil]); first | done | rfl | (simp only [List.length_drop, List.length_take]; rfl)) ?_; (with_reducible refine (tuple_Valid.calls k _ _ l0 t137 _ ?side1 ?side2 A2.out).mono ?_); (case side1 => repeat (first | exact HR0.out | (with_reducible refine Kd.C_alloc ?_ _) | (with_reducible refine Kd.C_drewN ?_ _) | (with_reducible refine Kd.C_drew ?_))); (case side2 => exact HC0.out); rintro e w16 ⟨rfl, hb⟩; refine ⟨_, rfl, ?_⟩; have n0_ := Aside0.mk (below_step (by repeat (first | (with_reducible first | exact HB.out | apply below_alloc | apply pw_below_drewN | apply below_drew1) | exact HB.out)) hb); clear HB; have HB := n0_; clear n0_; (try clear hb); (try clear hb2); (try clear hk); (try clear hi)))
    go_ret2
    exact ⟨by first | rfl | (simp [errW_none, errW_some] <;> rfl) | (simp [*, errW_none, errW_some] <;> rfl), by repeat (first | (with_reducible first | exact HB.out | apply below_alloc | apply pw_below_drewN | apply below_drew1) | exact HB.out)⟩

end Go.Proofs.YtoieckmegdcaeaaDoor.G
end

section
namespace Go.Proofs.YtoieckmegdcaeaaDoor.G
open Go.RowKit Go.Proofs.YtoieckmegdcaeaaDoorW.PrintWords Go.Proofs.YtoieckmegdcaeaaDoorW.PrintLast Go.Proofs.YtoieckmegdcaeaaDoorW.PrintMore
attribute [local go_sem] max2_int min2_int max_two min_two max_three min_three max_four min_four   -- for this text's walks alone
set_option linter.unusedVariables false
set_option linter.unusedSimpArgs false

/-! ### tidemarkref25_Encode: function 15 -/
def tidemarkref25_Encode.l0 : Nat → List (S36) → ByteArray → Int → Option (ByteArray × Int)
  | 0, _, _, _ => none
  | k + 1, x0, x5, x6 => if x6 < (x0.length : Int) then (if 0 ≤ x6 then ((tidemarkref25_code.f k ((rd_T36 x0 x6).f0) ((rd_T36 x0 x6).f1) ((rd_T36 x0 x6).f2) ((rd_T36 x0 x6).f3)).bind fun t169 => (if x5.size + t169.size ≤ 9223372036854775807 then (tidemarkref25_Encode.l0 k x0 (x5 ++ t169) (wrap64 (x6 + 1))) else (none))) else (none)) else (some (x5, 0))
def tidemarkref25_Encode.f (k : Nat) (l0 : List (S36)) : Option (ByteArray × Int) := (tidemarkref25_Valid.f k l0).bind fun t167 => (if t167 = 0 then (tidemarkref25_Encode.l0 k l0 (⟨#[]⟩ : ByteArray) 0) else (some ((⟨#[]⟩ : ByteArray), 1)))
theorem tidemarkref25_Encode.mono_l : ∀ k, (∀ y0 y1 y2, LeO (tidemarkref25_Encode.l0 k y0 y1 y2) (tidemarkref25_Encode.l0 (k + 1) y0 y1 y2))
  | 0 => fun _ _ _ r h => by simp [tidemarkref25_Encode.l0] at h
  | k + 1 => by
    have ih0 := tidemarkref25_Encode.mono_l k
    · intro y0 y1 y2
      unfold tidemarkref25_Encode.l0
      repeat' first
      | (with_reducible exact ih0 _ _ _)
      | (with_reducible exact tidemarkref25_Valid.mono _ _)
      | (with_reducible exact tidemarkref25_code.mono _ _ _ _ _)
      | (with_reducible exact LeO.refl _)
      | (with_reducible exact LeO.none _)
      | (with_reducible refine LeO.ite ?_ ?_)
      | (with_reducible refine LeO.bind ?_ (fun _ => ?_))
      | exact ih0 _ _ _
      | exact tidemarkref25_Valid.mono _ _
      | exact tidemarkref25_code.mono _ _ _ _ _
      | exact LeO.none _
      | refine LeO.ite ?_ ?_
      | refine LeO.bind ?_ (fun _ => ?_)
theorem tidemarkref25_Encode.mono : ∀ a0 k, LeO (tidemarkref25_Encode.f k a0) (tidemarkref25_Encode.f (k + 1) a0) := by
  intro a0 k
  have ih0 := tidemarkref25_Encode.mono_l k
  unfold tidemarkref25_Encode.f
  repeat' first
      | (with_reducible exact ih0 _ _ _)
      | (with_reducible exact tidemarkref25_Valid.mono _ _)
      | (with_reducible exact tidemarkref25_code.mono _ _ _ _ _)
      | (with_reducible exact LeO.refl _)
      | (with_reducible exact LeO.none _)
      | (with_reducible refine LeO.ite ?_ ?_)
      | (with_reducible refine LeO.bind ?_ (fun _ => ?_))
      | exact ih0 _ _ _
      | exact tidemarkref25_Valid.mono _ _
      | exact tidemarkref25_code.mono _ _ _ _ _
      | exact LeO.none _
      | refine LeO.ite ?_ ?_
      | refine LeO.bind ?_ (fun _ => ?_)
set_option maxHeartbeats 8000000 in
set_option maxRecDepth 100000 in
theorem tidemarkref25_Encode.calls (k : Nat) (A0 : Option Addr) (c0 : Nat) (l0 : List (S36)) (r1 : ByteArray) (r2 : Int) (w : World) (hr0 : Kd.C k36 w A0 l0.length l0) (hc0 : l0.length ≤ c0) (h : tidemarkref25_Encode.f k l0 = some (r1, r2)) :
    Calls Tryd.prog 15 #[.slice A0 l0.length c0] w fun e w' => e = .returned (.tuple #[.string r1, .int .i64 r2]) ∧ Below w.heap.size w w' := by
  have hu36 := Tryd.underlying36
  have HR0 := Aside0.mk hr0
  have HC0 := Aside0.mk hc0
  clear hr0 hc0
  have HB := Aside0.mk (Below.refl w.heap.size w)
  have H : ((tidemarkref25_Valid.f k l0).bind fun t167 => (if t167 = 0 then (tidemarkref25_Encode.l0 k l0 (⟨#[]⟩ : ByteArray) 0) else (some ((⟨#[]⟩ : ByteArray), 1)))) = some (r1, r2) := h
  clear h
  replace H := Option.bind_eq_some_iff.mp H
  obtain ⟨t167, A20, H⟩ := H
  replace H : (if t167 = 0 then (tidemarkref25_Encode.l0 k l0 (⟨#[]⟩ : ByteArray) 0) else (some ((⟨#[]⟩ : ByteArray), 1))) = some (r1, r2) := H
  have A2 := Aside0.mk A20
  clear A20
  by_cases c3 : t167 = 0
  · rw [if_pos c3] at H
    have c3b0 : (t167 == 0) = true := beq_iff_eq.mpr c3
    have c3b1 : (t167 != 0) = false := bne_eq_false_iff_eq.mpr c3
    clear c3
    have H' := Aside0.mk H
    clear H
    go_enter Tryd.func15, Tryd.ntmps15
    go_wp2_with (first | ((with_reducible refine gate_callee (f := 16) rfl ?_); refine goesL_ (some 8) rfl rfl Tryd.func16 (by kernel_rfl) rfl #[.slice A0 l0.length c0] rfl (by (try simp only [List.map_toArray, List.map_cons, List.map_nil]); first | done | rfl | (simp only [List.length_drop, List.length_take]; rfl)) ?_; (with_reducible refine (tidemarkref25_Valid.calls k _ _ l0 t167 _ ?side1 ?side2 A2.out).mono ?_); (case side1 => repeat (first | exact HR0.out | (with_reducible refine Kd.C_alloc ?_ _) | (with_reducible refine Kd.C_drewN ?_ _) | (with_reducible refine Kd.C_drew ?_))); (case side2 => exact HC0.out); rintro e w4 ⟨rfl, hb⟩; refine ⟨_, rfl, ?_⟩; have n0_ := Aside0.mk (below_step (by repeat (first | (with_reducible first | exact HB.out | apply below_alloc | apply pw_below_drewN | apply below_drew1) | exact HB.out)) hb); clear HB; have HB := n0_; clear n0_; (try clear hb); (try clear hb2); (try clear hk); (try clear hi)))
    go_loopg [5, 6] k (fun kq v5 v6 w' => ∃ (x5_1 : ByteArray) (x6_1 : Int), v5 = .string x5_1 ∧ v6 = .int .i64 x6_1 ∧ Aside0 (tidemarkref25_Encode.l0 kq l0 x5_1 x6_1 = some (r1, r2)) ∧ Aside0 (kq ≤ k) ∧ Aside0 (Below w.heap.size w w'))
    case atStart => exact ⟨((⟨#[]⟩ : ByteArray)), (0), (by first | rfl | (simp; done) | (simp [*]; done)), (by first | rfl | (simp; done) | (simp [*]; done)), H', ⟨Nat.le_refl _⟩, ⟨by repeat (first | (with_reducible first | exact HB.out | apply below_alloc | apply pw_below_drewN | apply below_drew1) | exact HB.out)⟩⟩
    case round =>
      clear H'
      try clear c1
      try clear p2
      try clear c3
      try clear c3b0
      try clear c3b1
      obtain ⟨x5_1, x6_1, rfl, rfl, HA, HK1, HB⟩ := hrel
      cases gk with
      | zero => exact absurd HA.out (by simp [tidemarkref25_Encode.l0])
      | succ k1 =>
        have H := HA.out
        clear HA
        simp only [tidemarkref25_Encode.l0] at H
        by_cases c5 : x6_1 < (l0.length : Int)
        · rw [if_pos c5] at H
          have c5b0 : decide (x6_1 < (l0.length : Int)) = true := decide_eq_true c5
          clear c5
          by_cases c6 : 0 ≤ x6_1
          · rw [if_pos c6] at H
            have c6b0 : decide (0 ≤ x6_1) = true := decide_eq_true c6
            clear c6
            replace H := Option.bind_eq_some_iff.mp H
            obtain ⟨t169, A70, H⟩ := H
            replace H : (if x5_1.size + t169.size ≤ 9223372036854775807 then (tidemarkref25_Encode.l0 k1 l0 (x5_1 ++ t169) (wrap64 (x6_1 + 1))) else (none)) = some (r1, r2) := H
            have A7 := Aside0.mk A70
            clear A70
            by_cases c8 : x5_1.size + t169.size ≤ 9223372036854775807
            · rw [if_pos c8] at H
              have c8b0 := eq_true c8
              have c8b1 : decide (x5_1.size + t169.size ≤ 9223372036854775807) = true := decide_eq_true c8
              try have c8b2 : (9223372036854775807 < x5_1.size + t169.size) = False := eq_false (Nat.not_lt.2 c8)
              have H' := Aside0.mk H
              clear H
              have p168 : 0 ≤ (x6_1 : Int) := of_decide_eq_true (by first | (with_reducible assumption) | assumption)
              have q168 : x6_1 < (l0.length : Int) := of_decide_eq_true (by first | (with_reducible assumption) | assumption)
              obtain ⟨ad168, e168, hx168_0, hx168_1, hx168_2, hx168_3⟩ := at_T36 HR0.out x6_1 p168 q168
              cases e168
              replace hx168_0 := (HB.out.cell (World.block_lt_of_cell? w _ hx168_0)).trans hx168_0
              replace hx168_1 := (HB.out.cell (World.block_lt_of_cell? w _ hx168_1)).trans hx168_1
              replace hx168_2 := (HB.out.cell (World.block_lt_of_cell? w _ hx168_2)).trans hx168_2
              replace hx168_3 := (HB.out.cell (World.block_lt_of_cell? w _ hx168_3)).trans hx168_3
              replace p168 := eq_true p168
              replace q168 := eq_true q168
              go_wp2_with (first | ((with_reducible refine gate_callee (f := 33) rfl ?_); refine goesL_ (some 22) rfl rfl Tryd.func33 (by kernel_rfl) rfl #[.agg #[.int .i64 ((rd_T36 l0 x6_1).f0), .bool ((rd_T36 l0 x6_1).f1), .int .i64 ((rd_T36 l0 x6_1).f2), .string ((rd_T36 l0 x6_1).f3)]] rfl (by (try simp only [List.map_toArray, List.map_cons, List.map_nil]); first | done | rfl | (simp only [List.length_drop, List.length_take]; rfl)) ?_; (with_reducible refine (tidemarkref25_code.calls k1 ((rd_T36 l0 x6_1).f0) ((rd_T36 l0 x6_1).f1) ((rd_T36 l0 x6_1).f2) ((rd_T36 l0 x6_1).f3) t169 _ A7.out).mono ?_); rintro e w9 ⟨rfl, hb⟩; refine ⟨_, rfl, ?_⟩; have n0_ := Aside0.mk (below_step (by repeat (first | (with_reducible first | exact HB.out | apply below_alloc | apply pw_below_drewN | apply below_drew1) | exact HB.out)) hb); clear HB; have HB := n0_; clear n0_; (try clear hb); (try clear hb2); (try clear hk); (try clear hi)))
              go_roundg k1
              case measure => have := HK1.out; omega
              case rel => exact ⟨(x5_1 ++ t169), (wrap64 (x6_1 + 1)), (by first | rfl | (simp; done) | (simp [*]; done)), (by first | rfl | (simp; done) | (simp [*]; done)), H', ⟨by have := HK1.out; omega⟩, ⟨by repeat (first | (with_reducible first | exact HB.out | apply below_alloc | apply pw_below_drewN | apply below_drew1) | exact HB.out)⟩⟩
            · rw [if_neg c8] at H
              exact absurd H (by simp)
          · rw [if_neg c6] at H
            exact absurd H (by simp)
        · rw [if_neg c5] at H
          have c5b0 : decide (x6_1 < (l0.length : Int)) = false := decide_eq_false c5
          clear c5
          simp only [Option.some.injEq, Prod.mk.injEq] at H
          obtain ⟨rfl, rfl⟩ := H
          go_wp2
          go_ret2
          exact ⟨by first | rfl | (simp [errW_none, errW_some] <;> rfl) | (simp [*, errW_none, errW_some] <;> rfl), by repeat (first | (with_reducible first | exact HB.out | apply below_alloc | apply pw_below_drewN | apply below_drew1) | exact HB.out)⟩
  · rw [if_neg c3] at H
    have c3b0 : (t167 == 0) = false := beq_eq_false_iff_ne.mpr c3
    have c3b1 : (t167 != 0) = true := bne_iff_ne.mpr c3
    simp only [Option.some.injEq, Prod.mk.injEq] at H
    obtain ⟨rfl, rfl⟩ := H
    go_enter Tryd.func15, Tryd.ntmps15
    go_wp2_with (first | ((with_reducible refine gate_callee (f := 16) rfl ?_); refine goesL_ (some 8) rfl rfl Tryd.func16 (by kernel_rfl) rfl #[.slice A0 l0.length c0] rfl (by (try simp only [List.map_toArray, List.map_cons, List.map_nil]); first | done | rfl | (simp only [List.length_drop, List.length_take]; rfl)) ?_; (with_reducible refine (tidemarkref25_Valid.calls k _ _ l0 t167 _ ?side1 ?side2 A2.out).mono ?_); (case side1 => repeat (first | exact HR0.out | (with_reducible refine Kd.C_alloc ?_ _) | (with_reducible refine Kd.C_drewN ?_ _) | (with_reducible refine Kd.C_drew ?_))); (case side2 => exact HC0.out); rintro e w10 ⟨rfl, hb⟩; refine ⟨_, rfl, ?_⟩; have n0_ := Aside0.mk (below_step (by repeat (first | (with_reducible first | exact HB.out | apply below_alloc | apply pw_below_drewN | apply below_drew1) | exact HB.out)) hb); clear HB; have HB := n0_; clear n0_; (try clear hb); (try clear hb2); (try clear hk); (try clear hi)))
    go_ret2
    exact ⟨by first | rfl | (simp [errW_none, errW_some] <;> rfl) | (simp [*, errW_none, errW_some] <;> rfl), by repeat (first | (with_reducible first | exact HB.out | apply below_alloc | apply pw_below_drewN | apply below_drew1) | exact HB.out)⟩

end Go.Proofs.YtoieckmegdcaeaaDoor.G
end
