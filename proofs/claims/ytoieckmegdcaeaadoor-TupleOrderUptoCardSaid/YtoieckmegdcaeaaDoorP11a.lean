-- Packed by a program of this session (pack.py) from texts of this claim.
import Derived.Test.YtoieckmegdcaeaaDoorP9
import Derived.Test.YtoieckmegdcaeaaDoorP10b
import Derived.Test.YtoieckmegdcaeaaDoorP10a
import Derived.Lib.Zigzag
import Derived.Laws.BitsAllLaws
section
namespace Go.Proofs.YtoieckmegdcaeaaDoor.G
open Go.RowKit Go.Proofs.YtoieckmegdcaeaaDoorW.PrintWords Go.Proofs.YtoieckmegdcaeaaDoorW.PrintLast Go.Proofs.YtoieckmegdcaeaaDoorW.PrintMore
attribute [local go_sem] max2_int min2_int max_two min_two max_three min_three max_four min_four   -- for this text's walks alone
set_option linter.unusedVariables false
set_option linter.unusedSimpArgs false

/-! ### tuple_first: function 37 -/
mutual
def tuple_first.j0 : Nat → Int → ByteArray → Bool → Option (Int × Bool × Int × ByteArray × ByteArray × Bool)
  | 0, _, _, _ => none
  | k + 1, x5, x6, x23 => if x23 = true then (some (1, (x5 == 3), 0, (⟨#[]⟩ : ByteArray), x6, true)) else (if x5 = 48 then ((tuple_text.f k x6).bind fun bt283 => (if 0 ≤ bt283.2.1 then (if bt283.2.1 ≤ (x6.size : Int) then (some (3, false, 0, bt283.1, x6.extract (bt283.2.1 : Int).toNat x6.size, bt283.2.2)) else (none)) else (none))) else (if x5 < 16 then (tuple_first.j1 k x5 x6 true) else (tuple_first.j1 k x5 x6 (decide (x5 > 32)))))
def tuple_first.j1 : Nat → Int → ByteArray → Bool → Option (Int × Bool × Int × ByteArray × ByteArray × Bool)
  | 0, _, _, _ => none
  | k + 1, x5, x6, x49 => if x49 = true then (some (0, false, 0, (⟨#[]⟩ : ByteArray), (⟨#[]⟩ : ByteArray), false)) else (if (x6.size : Int) < (mx (wrap64 (x5 - 24)) (wrap64 (24 - x5))) then (some (0, false, 0, (⟨#[]⟩ : ByteArray), (⟨#[]⟩ : ByteArray), false)) else ((tuple_whole.f k x6 (mx (wrap64 (x5 - 24)) (wrap64 (24 - x5))) (decide (x5 < 24))).bind fun bt286 => (if 0 ≤ (mx (wrap64 (x5 - 24)) (wrap64 (24 - x5))) then (if (mx (wrap64 (x5 - 24)) (wrap64 (24 - x5))) ≤ (x6.size : Int) then (some (2, false, bt286.1, (⟨#[]⟩ : ByteArray), x6.extract ((mx (wrap64 (x5 - 24)) (wrap64 (24 - x5))) : Int).toNat x6.size, bt286.2)) else (none)) else (none))))
end
def tuple_first.f (k : Nat) (a0 : ByteArray) : Option (Int × Bool × Int × ByteArray × ByteArray × Bool) := if 0 < (a0.size : Int) then (if 1 ≤ (a0.size : Int) then (if (wrap64 (bt a0 0)) = 1 then (some (0, false, 0, (⟨#[]⟩ : ByteArray), a0.extract 1 a0.size, true)) else (if (wrap64 (bt a0 0)) = 2 then (tuple_first.j0 k (wrap64 (bt a0 0)) (a0.extract 1 a0.size) true) else (tuple_first.j0 k (wrap64 (bt a0 0)) (a0.extract 1 a0.size) ((wrap64 (bt a0 0)) == 3)))) else (none)) else (none)
theorem tuple_first.mono_l : ∀ k, (∀ y0 y1 y2, LeO (tuple_first.j0 k y0 y1 y2) (tuple_first.j0 (k + 1) y0 y1 y2)) ∧ (∀ y0 y1 y2, LeO (tuple_first.j1 k y0 y1 y2) (tuple_first.j1 (k + 1) y0 y1 y2))
  | 0 => ⟨fun _ _ _ r h => by simp [tuple_first.j0] at h, fun _ _ _ r h => by simp [tuple_first.j1] at h⟩
  | k + 1 => by
    obtain ⟨ih0, ih1⟩ := tuple_first.mono_l k
    refine ⟨?_, ?_⟩
    · intro y0 y1 y2
      unfold tuple_first.j0
      repeat' first
      | (with_reducible exact ih0 _ _ _)
      | (with_reducible exact ih1 _ _ _)
      | (with_reducible exact tuple_text.mono _ _)
      | (with_reducible exact tuple_whole.mono _ _ _ _)
      | (with_reducible exact LeO.refl _)
      | (with_reducible exact LeO.none _)
      | (with_reducible refine LeO.ite ?_ ?_)
      | (with_reducible refine LeO.bind ?_ (fun _ => ?_))
      | exact ih0 _ _ _
      | exact ih1 _ _ _
      | exact tuple_text.mono _ _
      | exact tuple_whole.mono _ _ _ _
      | exact LeO.none _
      | refine LeO.ite ?_ ?_
      | refine LeO.bind ?_ (fun _ => ?_)
    · intro y0 y1 y2
      unfold tuple_first.j1
      repeat' first
      | (with_reducible exact ih0 _ _ _)
      | (with_reducible exact ih1 _ _ _)
      | (with_reducible exact tuple_text.mono _ _)
      | (with_reducible exact tuple_whole.mono _ _ _ _)
      | (with_reducible exact LeO.refl _)
      | (with_reducible exact LeO.none _)
      | (with_reducible refine LeO.ite ?_ ?_)
      | (with_reducible refine LeO.bind ?_ (fun _ => ?_))
      | exact ih0 _ _ _
      | exact ih1 _ _ _
      | exact tuple_text.mono _ _
      | exact tuple_whole.mono _ _ _ _
      | exact LeO.none _
      | refine LeO.ite ?_ ?_
      | refine LeO.bind ?_ (fun _ => ?_)
theorem tuple_first.mono : ∀ a0 k, LeO (tuple_first.f k a0) (tuple_first.f (k + 1) a0) := by
  intro a0 k
  obtain ⟨ih0, ih1⟩ := tuple_first.mono_l k
  unfold tuple_first.f
  repeat' first
      | (with_reducible exact ih0 _ _ _)
      | (with_reducible exact ih1 _ _ _)
      | (with_reducible exact tuple_text.mono _ _)
      | (with_reducible exact tuple_whole.mono _ _ _ _)
      | (with_reducible exact LeO.refl _)
      | (with_reducible exact LeO.none _)
      | (with_reducible refine LeO.ite ?_ ?_)
      | (with_reducible refine LeO.bind ?_ (fun _ => ?_))
      | exact ih0 _ _ _
      | exact ih1 _ _ _
      | exact tuple_text.mono _ _
      | exact tuple_whole.mono _ _ _ _
      | exact LeO.none _
      | refine LeO.ite ?_ ?_
      | refine LeO.bind ?_ (fun _ => ?_)
def tuple_first.T8 : Bool × List (List Nat × List Nat) := (true, [([], []), ([0], [0]), ([], []), ([], []), ([2, 3], [2, 3]), ([], []), ([1, 0, 1], [1]), ([4, 6, 0, 1, 2, 3, 4, 6], [4]), ([5, 7, 0, 1, 2, 3, 4, 5, 6, 7], [5])])
def tuple_first.B8 : List Nat := [0, 1, 0, 0, 12, 0, 3, 95, 255]
theorem tuple_first.tab8 : rtab .any (opsOf Tryd.f37 8) = tuple_first.T8 := by kernel_rfl
theorem tuple_first.bits8 : waitsOk tuple_first.T8.2 tuple_first.B8 = true := by kernel_rfl
def tuple_first.T15 : Bool × List (List Nat × List Nat) := (true, [([], []), ([0], [0]), ([], []), ([], []), ([2, 3], [2, 3]), ([], []), ([1, 0, 1], [1]), ([4, 6, 0, 1, 2, 3, 4, 6], [4]), ([5, 7, 0, 1, 2, 3, 4, 5, 6, 7], [5])])
def tuple_first.B15 : List Nat := [0, 1, 0, 0, 12, 0, 3, 95, 255]
theorem tuple_first.tab15 : rtab .any (opsOf Tryd.f37 15) = tuple_first.T15 := by kernel_rfl
theorem tuple_first.bits15 : waitsOk tuple_first.T15.2 tuple_first.B15 = true := by kernel_rfl
set_option maxHeartbeats 8000000 in
set_option maxRecDepth 100000 in
theorem tuple_first.calls (k : Nat) (a0 : ByteArray) (r1 : Int) (r2 : Bool) (r3 : Int) (r4 : ByteArray) (r5 : ByteArray) (r6 : Bool) (w : World) (h : tuple_first.f k a0 = some (r1, r2, r3, r4, r5, r6)) :
    Calls Tryd.prog 37 #[.string a0] w fun e w' => e = .returned (.tuple #[.agg #[.int .i64 r1, .bool r2, .int .i64 r3, .string r4], .string r5, .bool r6]) ∧ Below w.heap.size w w' := by
  have hu36 := Tryd.underlying36
  have HB := Aside0.mk (Below.refl w.heap.size w)
  have H : (if 0 < (a0.size : Int) then (if 1 ≤ (a0.size : Int) then (if (wrap64 (bt a0 0)) = 1 then (some (0, false, 0, (⟨#[]⟩ : ByteArray), a0.extract 1 a0.size, true)) else (if (wrap64 (bt a0 0)) = 2 then (tuple_first.j0 k (wrap64 (bt a0 0)) (a0.extract 1 a0.size) true) else (tuple_first.j0 k (wrap64 (bt a0 0)) (a0.extract 1 a0.size) ((wrap64 (bt a0 0)) == 3)))) else (none)) else (none)) = some (r1, r2, r3, r4, r5, r6) := h
  clear h
  by_cases c2 : 0 < (a0.size : Int)
  · rw [if_pos c2] at H
    have c2b0 : decide (0 < (a0.size : Int)) = true := decide_eq_true c2
    have c2b1 : decide (0 < a0.size) = true := decide_eq_true (by omega)
    clear c2
    by_cases c4 : 1 ≤ (a0.size : Int)
    · rw [if_pos c4] at H
      have c4b0 := eq_true c4
      have c4b1 : decide (1 ≤ (a0.size : Int)) = true := decide_eq_true c4
      clear c4
      by_cases c5 : (wrap64 (bt a0 0)) = 1
      · rw [if_pos c5] at H
        have c5b0 : ((wrap64 (bt a0 0)) == 1) = true := beq_iff_eq.mpr c5
        have c5b1 : ((wrap64 (bt a0 0)) != 1) = false := bne_eq_false_iff_eq.mpr c5
        clear c5
        simp only [Option.some.injEq, Prod.mk.injEq] at H
        obtain ⟨rfl, rfl, rfl, rfl, rfl, rfl⟩ := H
        go_enter Tryd.func37, Tryd.ntmps37
        try go_wp2_with (first | ((with_reducible refine gate_dst (N := 2) rfl ?_); refine box_event ?hg (N := 2) ?hd (cs := #[.int .i64 0, .bool false, .int .i64 0, .string (⟨#[]⟩ : ByteArray)]) (t := 36) ?hr ?_; (case hd => rfl); (case hg => rfl); (case hr => first | (go_simp; done) | (go_simp; rfl)); intro gb282 hg w6 hbox hb; have n0_ := Aside0.mk (below_step (by repeat (first | (with_reducible first | exact HB.out | apply below_alloc | apply pw_below_drewN | apply below_drew1) | exact HB.out)) hb); have n1_ := Aside0.mk (hbox); have n2_ := Aside0.mk ((by rw [hg]; exact (below_size (by repeat (first | (with_reducible first | exact HB.out | apply below_alloc | apply pw_below_drewN | apply below_drew1) | exact HB.out))) : w.heap.size ≤ gb282)); have n3_ := Aside0.mk ((by rw [hg]; exact (below_size (by repeat (first | (with_reducible first | exact HB.out | apply below_alloc | apply pw_below_drewN | apply below_drew1) | exact HB.out))) : w.heap.size ≤ gb282)); clear HB; have HB := n0_; have BK282 := n1_; have GW282 := n2_; have GE282 := n3_; clear n0_ n1_ n2_ n3_; clear hb hbox hg))
        have n0_ := Aside0.mk (blk_drew BK282.out)
        have n1_ := Aside0.mk (below_drew1 HB.out)
        clear BK282
        clear HB
        have BK282 := n0_
        have HB := n1_
        clear n0_ n1_
        have p3 : 0 ≤ (0 : Int) := (by omega)
        have q3 : 0 < a0.size := (by have : (0 : Int) < (a0.size : Int) := of_decide_eq_true (by first | (with_reducible assumption) | assumption); omega)
        have hx3 : ∀ h : 0 < a0.size, ((a0[0]'h).toNat : Int) = bt a0 0 := bt_at a0 0
        clear p3
        have qi3 : (0 < (a0.size : Int)) = True := eq_true (of_decide_eq_true (by first | (with_reducible assumption) | assumption))
        replace q3 := eq_true q3
        refine start_ (n := 7) (S := fun w' => True) (ds := []) #[false, false, false, false, false, false, false] (by kernel_rfl) rfl rfl trivial (fun hHeld => ?_)
        generalize w6.drew = w7 at BK282 HB hHeld ⊢
        refine pure_ (i := 0) (N := some 13) (v := ?_) (a' := ?_) #[true, false, false, false, false, false, false] rfl rfl (by kernel_rfl) (fun _ _ _ h => h) (Or.inl ⟨by rfl, ?_⟩) ?_ ?_
        rotate_left
        · intro w'
          go_simp
          with_reducible rfl
        rotate_left
        · simp only [Act.put, List.setIfInBounds_toArray, List.set_cons_zero, List.set_cons_succ, i64_w, i32_w]
          rfl
        refine pure_ (i := 3) (N := some 16) (v := ?_) (a' := ?_) #[true, false, false, true, false, false, false] rfl rfl (by kernel_rfl) (fun _ _ _ h => h) (Or.inl ⟨by rfl, ?_⟩) ?_ ?_
        rotate_left
        · intro w'
          go_simp
          with_reducible rfl
        rotate_left
        · simp only [Act.put, List.setIfInBounds_toArray, List.set_cons_zero, List.set_cons_succ, i64_w, i32_w]
          rfl
        refine pure_ (i := 4) (N := some 17) (v := ?_) (a' := ?_) #[true, false, false, true, true, false, false] rfl rfl (by kernel_rfl) (fun _ _ _ h => h) (Or.inl ⟨by rfl, ?_⟩) ?_ ?_
        rotate_left
        · intro w'
          go_simp
          with_reducible rfl
        rotate_left
        · simp only [Act.put, List.setIfInBounds_toArray, List.set_cons_zero, List.set_cons_succ, i64_w, i32_w]
          rfl
        refine take_ (i := 1) (N := some 14) (v := ?_) (a' := ?_) #[true, true, false, true, true, false, false] rfl rfl (by kernel_rfl) (fun _ _ _ h => h) (Or.inl ⟨by rfl, ?_⟩) hHeld ?_ ?_
        rotate_left
        · intro w' _
          go_simp
          with_reducible rfl
        rotate_left
        · simp only [Act.put, List.setIfInBounds_toArray, List.set_cons_zero, List.set_cons_succ, i64_w, i32_w]
          rfl
        refine pure_ (i := 2) (N := some 15) (v := ?_) (a' := ?_) #[true, true, true, true, true, false, false] rfl rfl (by kernel_rfl) (fun _ _ _ h => h) (Or.inl ⟨by rfl, ?_⟩) ?_ ?_
        rotate_left
        · intro w'
          go_simp
          with_reducible rfl
        rotate_left
        · simp only [Act.put, List.setIfInBounds_toArray, List.set_cons_zero, List.set_cons_succ, i64_w, i32_w]
          rfl
        refine pure_ (i := 5) (N := some 5) (v := ?_) (a' := ?_) #[true, true, true, true, true, true, false] rfl rfl (by kernel_rfl) (fun _ _ _ h => h) (Or.inl ⟨by rfl, ?_⟩) ?_ ?_
        rotate_left
        · intro w'
          go_simp
          with_reducible rfl
        rotate_left
        · simp only [Act.put, List.setIfInBounds_toArray, List.set_cons_zero, List.set_cons_succ, i64_w, i32_w]
          rfl
        refine pure_ (i := 6) (N := some 6) (v := ?_) (a' := ?_) #[true, true, true, true, true, true, true] rfl rfl (by kernel_rfl) (fun _ _ _ h => h) (Or.inl ⟨by rfl, ?_⟩) ?_ ?_
        rotate_left
        · intro w'
          go_simp
          with_reducible rfl
        rotate_left
        · simp only [Act.put, List.setIfInBounds_toArray, List.set_cons_zero, List.set_cons_succ, i64_w, i32_w]
          rfl
        refine done_ (by kernel_rfl) ?_
        have hcz8_0 : w7.cell? ⟨gb282, 0, none⟩ = some (.int .i64 0) := (blk_cell BK282.out 0).trans rfl
        have hcz8_1 : w7.cell? ⟨gb282, 1, none⟩ = some (.bool false) := (blk_cell BK282.out 1).trans rfl
        have hcz8_2 : w7.cell? ⟨gb282, 2, none⟩ = some (.int .i64 0) := (blk_cell BK282.out 2).trans rfl
        have hcz8_3 : w7.cell? ⟨gb282, 3, none⟩ = some (.string (⟨#[]⟩ : ByteArray)) := (blk_cell BK282.out 3).trans rfl
        have hfz8_0 := blk_frozen BK282.out 0
        have hfz8_1 := blk_frozen BK282.out 1
        have hfz8_2 := blk_frozen BK282.out 2
        have hfz8_3 := blk_frozen BK282.out 3
        try go_wp2
        refine bodyPost_ret (results_ctt rfl _ _ gb282 36 #[.int .i64 0, .bool false, .int .i64 0, .string (⟨#[]⟩ : ByteArray)] (0, 0) _ rfl (by (with_reducible repeat (first | refine blk_drewN ?_ _ | refine blk_drew ?_ | refine blk_alloc ?_ _)); refine blk_put (cs := #[.int .i64 0, .bool false, .int .i64 0, .string (⟨#[]⟩ : ByteArray)]) ?_ 3 _ rfl; (with_reducible repeat (first | refine blk_drewN ?_ _ | refine blk_drew ?_ | refine blk_alloc ?_ _)); refine blk_put (cs := #[.int .i64 0, .bool false, .int .i64 0, .string (⟨#[]⟩ : ByteArray)]) ?_ 2 _ rfl; (with_reducible repeat (first | refine blk_drewN ?_ _ | refine blk_drew ?_ | refine blk_alloc ?_ _)); refine blk_put (cs := #[.int .i64 0, .bool false, .int .i64 0, .string (⟨#[]⟩ : ByteArray)]) ?_ 1 _ rfl; (with_reducible repeat (first | refine blk_drewN ?_ _ | refine blk_drew ?_ | refine blk_alloc ?_ _)); refine blk_put (cs := #[.int .i64 0, .bool false, .int .i64 0, .string (⟨#[]⟩ : ByteArray)]) ?_ 0 _ rfl; (with_reducible repeat (first | refine blk_drewN ?_ _ | refine blk_drew ?_ | refine blk_alloc ?_ _)); exact BK282.out) Tryd.underlying36 rfl (by kernel_rfl)) rfl ?_
        exact ⟨by first | rfl | (simp [errW_none, errW_some] <;> rfl) | (simp [*, errW_none, errW_some] <;> rfl), by repeat (first | (with_reducible first | exact HB.out | apply below_alloc | apply pw_below_drewN | apply below_drew1 | refine below_set ?_ GE282.out) | exact HB.out)⟩
      · rw [if_neg c5] at H
        have c5b0 : ((wrap64 (bt a0 0)) == 1) = false := beq_eq_false_iff_ne.mpr c5
        have c5b1 : ((wrap64 (bt a0 0)) != 1) = true := bne_iff_ne.mpr c5
        have HC9 := Aside0.mk H
        clear H
        go_enter Tryd.func37, Tryd.ntmps37
        try go_wp2_with (first | ((with_reducible refine gate_dst (N := 2) rfl ?_); refine box_event ?hg (N := 2) ?hd (cs := #[.int .i64 0, .bool false, .int .i64 0, .string (⟨#[]⟩ : ByteArray)]) (t := 36) ?hr ?_; (case hd => rfl); (case hg => rfl); (case hr => first | (go_simp; done) | (go_simp; rfl)); intro gb282 hg w10 hbox hb; have n0_ := Aside0.mk (below_step (by repeat (first | (with_reducible first | exact HB.out | apply below_alloc | apply pw_below_drewN | apply below_drew1) | exact HB.out)) hb); have n1_ := Aside0.mk (hbox); have n2_ := Aside0.mk ((by rw [hg]; exact (below_size (by repeat (first | (with_reducible first | exact HB.out | apply below_alloc | apply pw_below_drewN | apply below_drew1) | exact HB.out))) : w.heap.size ≤ gb282)); have n3_ := Aside0.mk ((by rw [hg]; exact (below_size (by repeat (first | (with_reducible first | exact HB.out | apply below_alloc | apply pw_below_drewN | apply below_drew1) | exact HB.out))) : w.heap.size ≤ gb282)); clear HB; have HB := n0_; have BK282 := n1_; have GW282 := n2_; have GE282 := n3_; clear n0_ n1_ n2_ n3_; clear hb hbox hg))
        have n0_ := Aside0.mk (blk_drew BK282.out)
        have n1_ := Aside0.mk (below_drew1 HB.out)
        clear BK282
        clear HB
        have BK282 := n0_
        have HB := n1_
        clear n0_ n1_
        have p3 : 0 ≤ (0 : Int) := (by omega)
        have q3 : 0 < a0.size := (by have : (0 : Int) < (a0.size : Int) := of_decide_eq_true (by first | (with_reducible assumption) | assumption); omega)
        have hx3 : ∀ h : 0 < a0.size, ((a0[0]'h).toNat : Int) = bt a0 0 := bt_at a0 0
        clear p3
        have qi3 : (0 < (a0.size : Int)) = True := eq_true (of_decide_eq_true (by first | (with_reducible assumption) | assumption))
        replace q3 := eq_true q3
        refine start_ (n := 7) (S := fun w' => True) (ds := []) #[false, false, false, false, false, false, false] (by kernel_rfl) rfl rfl trivial (fun hHeld => ?_)
        generalize w10.drew = w11 at BK282 HB hHeld ⊢
        refine pure_ (i := 0) (N := some 13) (v := ?_) (a' := ?_) #[true, false, false, false, false, false, false] rfl rfl (by kernel_rfl) (fun _ _ _ h => h) (Or.inl ⟨by rfl, ?_⟩) ?_ ?_
        rotate_left
        · intro w'
          go_simp
          with_reducible rfl
        rotate_left
        · simp only [Act.put, List.setIfInBounds_toArray, List.set_cons_zero, List.set_cons_succ, i64_w, i32_w]
          rfl
        refine pure_ (i := 3) (N := some 16) (v := ?_) (a' := ?_) #[true, false, false, true, false, false, false] rfl rfl (by kernel_rfl) (fun _ _ _ h => h) (Or.inl ⟨by rfl, ?_⟩) ?_ ?_
        rotate_left
        · intro w'
          go_simp
          with_reducible rfl
        rotate_left
        · simp only [Act.put, List.setIfInBounds_toArray, List.set_cons_zero, List.set_cons_succ, i64_w, i32_w]
          rfl
        refine pure_ (i := 4) (N := some 17) (v := ?_) (a' := ?_) #[true, false, false, true, true, false, false] rfl rfl (by kernel_rfl) (fun _ _ _ h => h) (Or.inl ⟨by rfl, ?_⟩) ?_ ?_
        rotate_left
        · intro w'
          go_simp
          with_reducible rfl
        rotate_left
        · simp only [Act.put, List.setIfInBounds_toArray, List.set_cons_zero, List.set_cons_succ, i64_w, i32_w]
          rfl
        refine take_ (i := 1) (N := some 14) (v := ?_) (a' := ?_) #[true, true, false, true, true, false, false] rfl rfl (by kernel_rfl) (fun _ _ _ h => h) (Or.inl ⟨by rfl, ?_⟩) hHeld ?_ ?_
        rotate_left
        · intro w' _
          go_simp
          with_reducible rfl
        rotate_left
        · simp only [Act.put, List.setIfInBounds_toArray, List.set_cons_zero, List.set_cons_succ, i64_w, i32_w]
          rfl
        refine pure_ (i := 2) (N := some 15) (v := ?_) (a' := ?_) #[true, true, true, true, true, false, false] rfl rfl (by kernel_rfl) (fun _ _ _ h => h) (Or.inl ⟨by rfl, ?_⟩) ?_ ?_
        rotate_left
        · intro w'
          go_simp
          with_reducible rfl
        rotate_left
        · simp only [Act.put, List.setIfInBounds_toArray, List.set_cons_zero, List.set_cons_succ, i64_w, i32_w]
          rfl
        refine pure_ (i := 5) (N := some 5) (v := ?_) (a' := ?_) #[true, true, true, true, true, true, false] rfl rfl (by kernel_rfl) (fun _ _ _ h => h) (Or.inl ⟨by rfl, ?_⟩) ?_ ?_
        rotate_left
        · intro w'
          go_simp
          with_reducible rfl
        rotate_left
        · simp only [Act.put, List.setIfInBounds_toArray, List.set_cons_zero, List.set_cons_succ, i64_w, i32_w]
          rfl
        refine pure_ (i := 6) (N := some 6) (v := ?_) (a' := ?_) #[true, true, true, true, true, true, true] rfl rfl (by kernel_rfl) (fun _ _ _ h => h) (Or.inl ⟨by rfl, ?_⟩) ?_ ?_
        rotate_left
        · intro w'
          go_simp
          with_reducible rfl
        rotate_left
        · simp only [Act.put, List.setIfInBounds_toArray, List.set_cons_zero, List.set_cons_succ, i64_w, i32_w]
          rfl
        refine done_ (by kernel_rfl) ?_
        go_upto_region 4 with (fail)
        go_cut [23] (fun v23 wc => ∃ (kq : Nat) (x23_8 : Bool), v23 = .bool x23_8 ∧ Aside0 (tuple_first.j0 kq (wrap64 (bt a0 0)) (a0.extract 1 a0.size) x23_8 = some (r1, r2, r3, r4, r5, r6)) ∧ Aside0 (kq ≤ k) ∧ Aside0 (wc.heap[gb282]? = some (.cells #[.int .i64 0, .bool false, .int .i64 0, .string (⟨#[]⟩ : ByteArray)] 36 (0, 0))) ∧ Aside0 (Below w.heap.size w wc))
        case first =>
          have H := HC9.out
          clear HC9
          by_cases c12 : (wrap64 (bt a0 0)) = 2
          · rw [if_pos c12] at H
            have c12b0 : ((wrap64 (bt a0 0)) == 2) = true := beq_iff_eq.mpr c12
            have c12b1 : ((wrap64 (bt a0 0)) != 2) = false := bne_eq_false_iff_eq.mpr c12
            clear c12
            (first | rw [c12b0] | (simp only [i64_w, i32_w]; rw [c12b0]) | skip)
            have H' := Aside0.mk H
            clear H
            go_wp2
            go_meet
            case rel => exact ⟨_, (true), (by first | rfl | (simp; done) | (simp [*]; done)), H', ⟨by first | omega | exact Nat.le_refl _⟩, ⟨by (with_reducible repeat (first | refine blk_drewN ?_ _ | refine blk_drew ?_ | refine blk_alloc ?_ _)); exact BK282.out⟩, ⟨by repeat (first | (with_reducible first | exact HB.out | apply below_alloc | apply pw_below_drewN | apply below_drew1 | refine below_set ?_ GE282.out) | exact HB.out)⟩⟩
          · rw [if_neg c12] at H
            have c12b0 : ((wrap64 (bt a0 0)) == 2) = false := beq_eq_false_iff_ne.mpr c12
            have c12b1 : ((wrap64 (bt a0 0)) != 2) = true := bne_iff_ne.mpr c12
            (first | rw [c12b0] | (simp only [i64_w, i32_w]; rw [c12b0]) | skip)
            have H' := Aside0.mk H
            clear H
            go_wp2
            go_meet
            case rel => exact ⟨_, (((wrap64 (bt a0 0)) == 3)), (by first | rfl | (simp; done) | (simp [*]; done)), H', ⟨by first | omega | exact Nat.le_refl _⟩, ⟨by (with_reducible repeat (first | refine blk_drewN ?_ _ | refine blk_drew ?_ | refine blk_alloc ?_ _)); exact BK282.out⟩, ⟨by repeat (first | (with_reducible first | exact HB.out | apply below_alloc | apply pw_below_drewN | apply below_drew1 | refine below_set ?_ GE282.out) | exact HB.out)⟩⟩
        case rest =>
          clear HC9
          try clear c1
          try clear c2
          try clear c2b0
          try clear c2b1
          try clear p2
          try clear c3
          try clear p3
          try clear q3
          try clear hx3
          try clear qi3
          try clear c4
          try clear c4b0
          try clear c4b1
          try clear c5
          try clear c5b0
          try clear c5b1
          try clear p6
          try clear c12
          try clear c12b0
          try clear c12b1
          try clear hcz8_0
          try clear hcz8_1
          try clear hcz8_2
          try clear hcz8_3
          try clear hfz8_0
          try clear hfz8_1
          try clear hfz8_2
          try clear hfz8_3
          try clear p3
          try clear q3
          obtain ⟨kq, x23_8, rfl, HA, HJ8, BK282, HB⟩ := hcut
          obtain ⟨rs, hrs⟩ : ∃ rs_ : ByteArray, a0.extract 1 a0.size = rs_ := ⟨_, rfl⟩
          rw [hrs] at HA
          rw [hrs]
          clear hrs
          cases kq with
          | zero => exact absurd HA.out (by simp [tuple_first.j0])
          | succ kj8 =>
            have H := HA.out
            clear HA
            simp only [tuple_first.j0] at H
            by_cases c13 : x23_8 = true
            · subst c13
              have H1 : (some (1, ((wrap64 (bt a0 0)) == 3), 0, (⟨#[]⟩ : ByteArray), rs, true)) = some (r1, r2, r3, r4, r5, r6) := by rw [if_pos rfl] at H; exact H
              clear H
              have H := H1
              clear H1
              simp only [Option.some.injEq, Prod.mk.injEq] at H
              obtain ⟨rfl, rfl, rfl, rfl, rfl, rfl⟩ := H
              have hcz14_0 : wc.cell? ⟨gb282, 0, none⟩ = some (.int .i64 0) := (blk_cell BK282.out 0).trans rfl
              have hcz14_1 : wc.cell? ⟨gb282, 1, none⟩ = some (.bool false) := (blk_cell BK282.out 1).trans rfl
              have hcz14_2 : wc.cell? ⟨gb282, 2, none⟩ = some (.int .i64 0) := (blk_cell BK282.out 2).trans rfl
              have hcz14_3 : wc.cell? ⟨gb282, 3, none⟩ = some (.string (⟨#[]⟩ : ByteArray)) := (blk_cell BK282.out 3).trans rfl
              have hfz14_0 := blk_frozen BK282.out 0
              have hfz14_1 := blk_frozen BK282.out 1
              have hfz14_2 := blk_frozen BK282.out 2
              have hfz14_3 := blk_frozen BK282.out 3
              go_wp2
              refine bodyPost_ret (results_ctt rfl _ _ gb282 36 #[.int .i64 1, .bool ((wrap64 (bt a0 0)) == 3), .int .i64 0, .string (⟨#[]⟩ : ByteArray)] (0, 0) _ rfl (by (with_reducible repeat (first | refine blk_drewN ?_ _ | refine blk_drew ?_ | refine blk_alloc ?_ _)); refine blk_put (cs := #[.int .i64 1, .bool ((wrap64 (bt a0 0)) == 3), .int .i64 0, .string (⟨#[]⟩ : ByteArray)]) ?_ 3 _ rfl; (with_reducible repeat (first | refine blk_drewN ?_ _ | refine blk_drew ?_ | refine blk_alloc ?_ _)); refine blk_put (cs := #[.int .i64 1, .bool ((wrap64 (bt a0 0)) == 3), .int .i64 0, .string (⟨#[]⟩ : ByteArray)]) ?_ 2 _ rfl; (with_reducible repeat (first | refine blk_drewN ?_ _ | refine blk_drew ?_ | refine blk_alloc ?_ _)); refine blk_put (cs := #[.int .i64 1, .bool false, .int .i64 0, .string (⟨#[]⟩ : ByteArray)]) ?_ 1 _ rfl; (with_reducible repeat (first | refine blk_drewN ?_ _ | refine blk_drew ?_ | refine blk_alloc ?_ _)); refine blk_put (cs := #[.int .i64 0, .bool false, .int .i64 0, .string (⟨#[]⟩ : ByteArray)]) ?_ 0 _ rfl; (with_reducible repeat (first | refine blk_drewN ?_ _ | refine blk_drew ?_ | refine blk_alloc ?_ _)); exact BK282.out) Tryd.underlying36 rfl (by kernel_rfl)) rfl ?_
              exact ⟨by first | rfl | (simp [errW_none, errW_some] <;> rfl) | (simp [*, errW_none, errW_some] <;> rfl), by repeat (first | (with_reducible first | exact HB.out | apply below_alloc | apply pw_below_drewN | apply below_drew1 | refine below_set ?_ GE282.out) | exact HB.out)⟩
            · replace c13 := Bool.eq_false_iff.mpr c13
              subst c13
              have H1 : (if (wrap64 (bt a0 0)) = 48 then ((tuple_text.f kj8 rs).bind fun bt283 => (if 0 ≤ bt283.2.1 then (if bt283.2.1 ≤ (rs.size : Int) then (some (3, false, 0, bt283.1, rs.extract (bt283.2.1 : Int).toNat rs.size, bt283.2.2)) else (none)) else (none))) else (if (wrap64 (bt a0 0)) < 16 then (tuple_first.j1 kj8 (wrap64 (bt a0 0)) rs true) else (tuple_first.j1 kj8 (wrap64 (bt a0 0)) rs (decide ((wrap64 (bt a0 0)) > 32))))) = some (r1, r2, r3, r4, r5, r6) := by rw [if_neg (show ¬ (false = true) by decide)] at H; exact H
              clear H
              have H := H1
              clear H1
              by_cases c15 : (wrap64 (bt a0 0)) = 48
              · rw [if_pos c15] at H
                have c15b0 : ((wrap64 (bt a0 0)) == 48) = true := beq_iff_eq.mpr c15
                have c15b1 : ((wrap64 (bt a0 0)) != 48) = false := bne_eq_false_iff_eq.mpr c15
                clear c15
                replace H := Option.bind_eq_some_iff.mp H
                obtain ⟨⟨t283, t284, t285⟩, A160, H⟩ := H
                replace H : (if 0 ≤ t284 then (if t284 ≤ (rs.size : Int) then (some (3, false, 0, t283, rs.extract (t284 : Int).toNat rs.size, t285)) else (none)) else (none)) = some (r1, r2, r3, r4, r5, r6) := H
                have A16 := Aside0.mk A160
                clear A160
                by_cases c17 : 0 ≤ t284
                · rw [if_pos c17] at H
                  have c17b0 := eq_true c17
                  have c17b1 : decide (0 ≤ t284) = true := decide_eq_true c17
                  clear c17
                  by_cases c18 : t284 ≤ (rs.size : Int)
                  · rw [if_pos c18] at H
                    have c18b0 := eq_true c18
                    have c18b1 : decide (t284 ≤ (rs.size : Int)) = true := decide_eq_true c18
                    clear c18
                    simp only [Option.some.injEq, Prod.mk.injEq] at H
                    obtain ⟨rfl, rfl, rfl, rfl, rfl, rfl⟩ := H
                    try go_wp2_with (first | ((with_reducible refine gate_callee (f := 56) rfl ?_); refine goesL_ (some 39) rfl rfl Tryd.func56 (by kernel_rfl) rfl #[.string rs] rfl (by (try simp only [List.map_toArray, List.map_cons, List.map_nil]); first | done | rfl | (simp only [List.length_drop, List.length_take]; rfl)) ?_; (with_reducible refine (tuple_text.calls kj8 rs t283 t284 t285 _ A16.out).mono ?_); rintro e w19 ⟨rfl, hb⟩; refine ⟨_, rfl, ?_⟩; have n0_ := Aside0.mk (blk_below (g := gb282) (o := .cells #[.int .i64 0, .bool false, .int .i64 0, .string (⟨#[]⟩ : ByteArray)] 36 (0, 0)) (by (with_reducible repeat (first | refine blk_drewN ?_ _ | refine blk_drew ?_ | refine blk_alloc ?_ _)); exact BK282.out) hb); have n1_ := Aside0.mk (below_step (by repeat (first | (with_reducible first | exact HB.out | apply below_alloc | apply pw_below_drewN | apply below_drew1 | refine below_set ?_ GE282.out) | exact HB.out)) hb); clear BK282; clear HB; have BK282 := n0_; have HB := n1_; clear n0_ n1_; (try clear hb); (try clear hb2); (try clear hk); (try clear hi)))
                    have n0_ := Aside0.mk (blk_drew BK282.out)
                    have n1_ := Aside0.mk (below_drew1 HB.out)
                    clear BK282
                    clear HB
                    have BK282 := n0_
                    have HB := n1_
                    clear n0_ n1_
                    refine start_ (n := 9) (S := fun w' => True) (ds := []) #[false, false, false, false, false, false, false, false, false] (by kernel_rfl) rfl rfl trivial (fun hHeld => ?_); refine with_tabW tuple_first.tab8 tuple_first.bits8 (fun HT_ HW_ => ?_)
                    generalize w19.drew = w20 at BK282 HB hHeld ⊢
                    refine pure_ (i := 0) (N := some 43) (v := ?_) (a' := ?_) #[true, false, false, false, false, false, false, false, false] rfl rfl (any_of HT_.out (by kernel_rfl)) (fun _ _ _ h => h) (Or.inl ⟨by rfl, ?_⟩) ?_ ?_
                    rotate_left
                    · intro w'
                      go_simp
                      with_reducible rfl
                    rotate_left
                    · simp only [Act.put, List.setIfInBounds_toArray, List.set_cons_zero, List.set_cons_succ, i64_w, i32_w]
                      rfl
                    refine pure_ (i := 1) (N := some 44) (v := ?_) (a' := ?_) #[true, true, false, false, false, false, false, false, false] rfl rfl (any_of HT_.out (by kernel_rfl)) (fun _ _ _ h => h) (Or.inl ⟨by rfl, ?_⟩) ?_ ?_
                    rotate_left
                    · intro w'
                      go_simp
                      with_reducible rfl
                    rotate_left
                    · simp only [Act.put, List.setIfInBounds_toArray, List.set_cons_zero, List.set_cons_succ, i64_w, i32_w]
                      rfl
                    refine pure_ (i := 2) (N := some 45) (v := ?_) (a' := ?_) #[true, true, true, false, false, false, false, false, false] rfl rfl (any_of HT_.out (by kernel_rfl)) (fun _ _ _ h => h) (Or.inl ⟨by rfl, ?_⟩) ?_ ?_
                    rotate_left
                    · intro w'
                      go_simp
                      with_reducible rfl
                    rotate_left
                    · simp only [Act.put, List.setIfInBounds_toArray, List.set_cons_zero, List.set_cons_succ, i64_w, i32_w]
                      rfl
                    refine pure_ (i := 3) (N := some 46) (v := ?_) (a' := ?_) #[true, true, true, true, false, false, false, false, false] rfl rfl (any_of HT_.out (by kernel_rfl)) (fun _ _ _ h => h) (Or.inl ⟨by rfl, ?_⟩) ?_ ?_
                    rotate_left
                    · intro w'
                      go_simp
                      with_reducible rfl
                    rotate_left
                    · simp only [Act.put, List.setIfInBounds_toArray, List.set_cons_zero, List.set_cons_succ, i64_w, i32_w]
                      rfl
                    refine pure_ (i := 4) (N := some 47) (v := ?_) (a' := ?_) #[true, true, true, true, true, false, false, false, false] rfl rfl (any_of HT_.out (by kernel_rfl)) (fun _ _ _ h => h) (Or.inl ⟨by rfl, ?_⟩) ?_ ?_
                    rotate_left
                    · intro w'
                      go_simp
                      with_reducible rfl
                    rotate_left
                    · simp only [Act.put, List.setIfInBounds_toArray, List.set_cons_zero, List.set_cons_succ, i64_w, i32_w]
                      rfl
                    refine pure_ (i := 5) (N := some 48) (v := ?_) (a' := ?_) #[true, true, true, true, true, true, false, false, false] rfl rfl (any_of HT_.out (by kernel_rfl)) (fun _ _ _ h => h) (Or.inl ⟨by rfl, ?_⟩) ?_ ?_
                    rotate_left
                    · intro w'
                      go_simp
                      with_reducible rfl
                    rotate_left
                    · simp only [Act.put, List.setIfInBounds_toArray, List.set_cons_zero, List.set_cons_succ, i64_w, i32_w]
                      rfl
                    refine one_ (i := 6) (N := none) #[true, true, true, true, true, true, true, false, false] rfl rfl (one_of HT_.out (by kernel_rfl)) (by decide) (fun K hK => ?_)
                    have hs21 : w20.cell? ⟨gb282, 0, none⟩ = some (.int .i64 0) := (blk_cell BK282.out 0).trans rfl
                    have hfs21 := blk_frozen BK282.out 0
                    have hs22 : w20.cell? ⟨gb282, 1, none⟩ = some (.bool false) := (blk_cell BK282.out 1).trans rfl
                    have hfs22 := blk_frozen BK282.out 1
                    have hs23 : w20.cell? ⟨gb282, 2, none⟩ = some (.int .i64 0) := (blk_cell BK282.out 2).trans rfl
                    have hfs23 := blk_frozen BK282.out 2
                    have hs24 : w20.cell? ⟨gb282, 3, none⟩ = some (.string (⟨#[]⟩ : ByteArray)) := (blk_cell BK282.out 3).trans rfl
                    have hfs24 := blk_frozen BK282.out 3
                    refine skip_ (w1 := ?_) (by rfl) rfl ?_ ?_
                    rotate_left
                    · go_simp
                      rfl
                    refine hK.out _ _ trivial (fun hHeld => ?_)
                    clear hK K
                    refine pure_ (i := 7) (N := some 3) (v := ?_) (a' := ?_) #[true, true, true, true, true, true, true, true, false] rfl rfl (any_of HT_.out (by kernel_rfl)) (fun _ _ _ h => h) (Or.inl ⟨by rfl, ?_⟩) ?_ ?_
                    rotate_left
                    · intro w'
                      go_simp
                      with_reducible rfl
                    rotate_left
                    · simp only [Act.put, List.setIfInBounds_toArray, List.set_cons_zero, List.set_cons_succ, i64_w, i32_w]
                      rfl
                    refine pure_ (i := 8) (N := some 4) (v := ?_) (a' := ?_) #[true, true, true, true, true, true, true, true, true] rfl rfl (any_of HT_.out (by kernel_rfl)) (fun _ _ _ h => h) (Or.inl ⟨by rfl, ?_⟩) ?_ ?_
                    rotate_left
                    · intro w'
                      go_simp
                      with_reducible rfl
                    rotate_left
                    · simp only [Act.put, List.setIfInBounds_toArray, List.set_cons_zero, List.set_cons_succ, i64_w, i32_w]
                      rfl
                    refine done_ (done_of HT_.out (by kernel_rfl)) ?_
                    try go_wp2
                    refine bodyPost_ret (results_ctt rfl _ _ gb282 36 #[.int .i64 3, .bool false, .int .i64 0, .string t283] (0, 0) _ rfl (by (with_reducible repeat (first | refine blk_drewN ?_ _ | refine blk_drew ?_ | refine blk_alloc ?_ _)); refine blk_put (cs := #[.int .i64 3, .bool false, .int .i64 0, .string (⟨#[]⟩ : ByteArray)]) ?_ 3 _ rfl; (with_reducible repeat (first | refine blk_drewN ?_ _ | refine blk_drew ?_ | refine blk_alloc ?_ _)); refine blk_put (cs := #[.int .i64 3, .bool false, .int .i64 0, .string (⟨#[]⟩ : ByteArray)]) ?_ 2 _ rfl; (with_reducible repeat (first | refine blk_drewN ?_ _ | refine blk_drew ?_ | refine blk_alloc ?_ _)); refine blk_put (cs := #[.int .i64 3, .bool false, .int .i64 0, .string (⟨#[]⟩ : ByteArray)]) ?_ 1 _ rfl; (with_reducible repeat (first | refine blk_drewN ?_ _ | refine blk_drew ?_ | refine blk_alloc ?_ _)); refine blk_put (cs := #[.int .i64 0, .bool false, .int .i64 0, .string (⟨#[]⟩ : ByteArray)]) ?_ 0 _ rfl; (with_reducible repeat (first | refine blk_drewN ?_ _ | refine blk_drew ?_ | refine blk_alloc ?_ _)); exact BK282.out) Tryd.underlying36 rfl (by kernel_rfl)) rfl ?_
                    exact ⟨by first | rfl | (simp [errW_none, errW_some] <;> rfl) | (simp [*, errW_none, errW_some] <;> rfl), by repeat (first | (with_reducible first | exact HB.out | apply below_alloc | apply pw_below_drewN | apply below_drew1 | refine below_set ?_ GE282.out) | exact HB.out)⟩
                  · rw [if_neg c18] at H
                    exact absurd H (by simp)
                · rw [if_neg c17] at H
                  exact absurd H (by simp)
              · rw [if_neg c15] at H
                have c15b0 : ((wrap64 (bt a0 0)) == 48) = false := beq_eq_false_iff_ne.mpr c15
                have c15b1 : ((wrap64 (bt a0 0)) != 48) = true := bne_iff_ne.mpr c15
                have HC25 := Aside0.mk H
                clear H
                go_upto_region 9 with (fail)
                go_cut [49] (fun v49 wc => ∃ (kq : Nat) (x49_24 : Bool), v49 = .bool x49_24 ∧ Aside0 (tuple_first.j1 kq (wrap64 (bt a0 0)) rs x49_24 = some (r1, r2, r3, r4, r5, r6)) ∧ Aside0 (kq ≤ kj8) ∧ Aside0 (wc.heap[gb282]? = some (.cells #[.int .i64 0, .bool false, .int .i64 0, .string (⟨#[]⟩ : ByteArray)] 36 (0, 0))) ∧ Aside0 (Below w.heap.size w wc))
                case first =>
                  have H := HC25.out
                  clear HC25
                  by_cases c26 : (wrap64 (bt a0 0)) < 16
                  · rw [if_pos c26] at H
                    have c26b0 : decide ((wrap64 (bt a0 0)) < 16) = true := decide_eq_true c26
                    clear c26
                    (first | rw [c26b0] | (simp only [i64_w, i32_w]; rw [c26b0]) | skip)
                    have H' := Aside0.mk H
                    clear H
                    go_wp2
                    go_meet
                    case rel => exact ⟨_, (true), (by first | rfl | (simp; done) | (simp [*]; done)), H', ⟨by have := HJ8.out; first | omega | exact Nat.le_refl _⟩, ⟨by (with_reducible repeat (first | refine blk_drewN ?_ _ | refine blk_drew ?_ | refine blk_alloc ?_ _)); exact BK282.out⟩, ⟨by repeat (first | (with_reducible first | exact HB.out | apply below_alloc | apply pw_below_drewN | apply below_drew1 | refine below_set ?_ GE282.out) | exact HB.out)⟩⟩
                  · rw [if_neg c26] at H
                    have c26b0 : decide ((wrap64 (bt a0 0)) < 16) = false := decide_eq_false c26
                    clear c26
                    (first | rw [c26b0] | (simp only [i64_w, i32_w]; rw [c26b0]) | skip)
                    have H' := Aside0.mk H
                    clear H
                    go_wp2
                    go_meet
                    case rel => exact ⟨_, (decide ((wrap64 (bt a0 0)) > 32)), (by first | rfl | (simp; done) | (simp [*]; done)), H', ⟨by have := HJ8.out; first | omega | exact Nat.le_refl _⟩, ⟨by (with_reducible repeat (first | refine blk_drewN ?_ _ | refine blk_drew ?_ | refine blk_alloc ?_ _)); exact BK282.out⟩, ⟨by repeat (first | (with_reducible first | exact HB.out | apply below_alloc | apply pw_below_drewN | apply below_drew1 | refine below_set ?_ GE282.out) | exact HB.out)⟩⟩
                case rest =>
                  clear HC25
                  try clear c1
                  try clear c2
                  try clear c2b0
                  try clear c2b1
                  try clear p2
                  try clear c3
                  try clear p3
                  try clear q3
                  try clear hx3
                  try clear qi3
                  try clear c4
                  try clear c4b0
                  try clear c4b1
                  try clear c5
                  try clear c5b0
                  try clear c5b1
                  try clear p6
                  try clear c12
                  try clear c12b0
                  try clear c12b1
                  try clear c13
                  try clear c15
                  try clear c15b0
                  try clear c15b1
                  try clear c17
                  try clear c17b0
                  try clear c17b1
                  try clear c18
                  try clear c18b0
                  try clear c18b1
                  try clear c26
                  try clear c26b0
                  try clear hcz14_0
                  try clear hcz14_1
                  try clear hcz14_2
                  try clear hcz14_3
                  try clear hcz8_0
                  try clear hcz8_1
                  try clear hcz8_2
                  try clear hcz8_3
                  try clear hfz14_0
                  try clear hfz14_1
                  try clear hfz14_2
                  try clear hfz14_3
                  try clear hfz8_0
                  try clear hfz8_1
                  try clear hfz8_2
                  try clear hfz8_3
                  try clear p2
                  try clear p3
                  try clear p6
                  try clear q3
                  obtain ⟨kq, x49_24, rfl, HA, HJ24, BK282, HB⟩ := hcut
                  cases kq with
                  | zero => exact absurd HA.out (by simp [tuple_first.j1])
                  | succ kj24 =>
                    have H := HA.out
                    clear HA
                    simp only [tuple_first.j1] at H
                    by_cases c27 : x49_24 = true
                    · subst c27
                      have H1 : (some (0, false, 0, (⟨#[]⟩ : ByteArray), (⟨#[]⟩ : ByteArray), false)) = some (r1, r2, r3, r4, r5, r6) := by rw [if_pos rfl] at H; exact H
                      clear H
                      have H := H1
                      clear H1
                      simp only [Option.some.injEq, Prod.mk.injEq] at H
                      obtain ⟨rfl, rfl, rfl, rfl, rfl, rfl⟩ := H
                      have hcz28_0 : wc.cell? ⟨gb282, 0, none⟩ = some (.int .i64 0) := (blk_cell BK282.out 0).trans rfl
                      have hcz28_1 : wc.cell? ⟨gb282, 1, none⟩ = some (.bool false) := (blk_cell BK282.out 1).trans rfl
                      have hcz28_2 : wc.cell? ⟨gb282, 2, none⟩ = some (.int .i64 0) := (blk_cell BK282.out 2).trans rfl
                      have hcz28_3 : wc.cell? ⟨gb282, 3, none⟩ = some (.string (⟨#[]⟩ : ByteArray)) := (blk_cell BK282.out 3).trans rfl
                      have hfz28_0 := blk_frozen BK282.out 0
                      have hfz28_1 := blk_frozen BK282.out 1
                      have hfz28_2 := blk_frozen BK282.out 2
                      have hfz28_3 := blk_frozen BK282.out 3
                      go_wp2
                      refine bodyPost_ret (results_ctt rfl _ _ gb282 36 #[.int .i64 0, .bool false, .int .i64 0, .string (⟨#[]⟩ : ByteArray)] (0, 0) _ rfl (by (with_reducible repeat (first | refine blk_drewN ?_ _ | refine blk_drew ?_ | refine blk_alloc ?_ _)); refine blk_put (cs := #[.int .i64 0, .bool false, .int .i64 0, .string (⟨#[]⟩ : ByteArray)]) ?_ 3 _ rfl; (with_reducible repeat (first | refine blk_drewN ?_ _ | refine blk_drew ?_ | refine blk_alloc ?_ _)); refine blk_put (cs := #[.int .i64 0, .bool false, .int .i64 0, .string (⟨#[]⟩ : ByteArray)]) ?_ 2 _ rfl; (with_reducible repeat (first | refine blk_drewN ?_ _ | refine blk_drew ?_ | refine blk_alloc ?_ _)); refine blk_put (cs := #[.int .i64 0, .bool false, .int .i64 0, .string (⟨#[]⟩ : ByteArray)]) ?_ 1 _ rfl; (with_reducible repeat (first | refine blk_drewN ?_ _ | refine blk_drew ?_ | refine blk_alloc ?_ _)); refine blk_put (cs := #[.int .i64 0, .bool false, .int .i64 0, .string (⟨#[]⟩ : ByteArray)]) ?_ 0 _ rfl; (with_reducible repeat (first | refine blk_drewN ?_ _ | refine blk_drew ?_ | refine blk_alloc ?_ _)); exact BK282.out) Tryd.underlying36 rfl (by kernel_rfl)) rfl ?_
                      exact ⟨by first | rfl | (simp [errW_none, errW_some] <;> rfl) | (simp [*, errW_none, errW_some] <;> rfl), by repeat (first | (with_reducible first | exact HB.out | apply below_alloc | apply pw_below_drewN | apply below_drew1 | refine below_set ?_ GE282.out) | exact HB.out)⟩
                    · replace c27 := Bool.eq_false_iff.mpr c27
                      subst c27
                      have H1 : (if (rs.size : Int) < (mx (wrap64 ((wrap64 (bt a0 0)) - 24)) (wrap64 (24 - (wrap64 (bt a0 0))))) then (some (0, false, 0, (⟨#[]⟩ : ByteArray), (⟨#[]⟩ : ByteArray), false)) else ((tuple_whole.f kj24 rs (mx (wrap64 ((wrap64 (bt a0 0)) - 24)) (wrap64 (24 - (wrap64 (bt a0 0))))) (decide ((wrap64 (bt a0 0)) < 24))).bind fun bt286 => (if 0 ≤ (mx (wrap64 ((wrap64 (bt a0 0)) - 24)) (wrap64 (24 - (wrap64 (bt a0 0))))) then (if (mx (wrap64 ((wrap64 (bt a0 0)) - 24)) (wrap64 (24 - (wrap64 (bt a0 0))))) ≤ (rs.size : Int) then (some (2, false, bt286.1, (⟨#[]⟩ : ByteArray), rs.extract ((mx (wrap64 ((wrap64 (bt a0 0)) - 24)) (wrap64 (24 - (wrap64 (bt a0 0))))) : Int).toNat rs.size, bt286.2)) else (none)) else (none)))) = some (r1, r2, r3, r4, r5, r6) := by rw [if_neg (show ¬ (false = true) by decide)] at H; exact H
                      clear H
                      have H := H1
                      clear H1
                      obtain ⟨ji29, hji29⟩ : ∃ j_ : Int, (mx (wrap64 ((wrap64 (bt a0 0)) - 24)) (wrap64 (24 - (wrap64 (bt a0 0))))) = j_ := ⟨_, rfl⟩
                      replace H : (if (rs.size : Int) < (ji29) then (some (0, false, 0, (⟨#[]⟩ : ByteArray), (⟨#[]⟩ : ByteArray), false)) else ((tuple_whole.f kj24 rs (ji29) (decide ((wrap64 (bt a0 0)) < 24))).bind fun bt286 => (if 0 ≤ (ji29) then (if (ji29) ≤ (rs.size : Int) then (some (2, false, bt286.1, (⟨#[]⟩ : ByteArray), rs.extract ((ji29) : Int).toNat rs.size, bt286.2)) else (none)) else (none)))) = some (r1, r2, r3, r4, r5, r6) := by first | (rw [hji29] at H; exact H) | (simp only [hji29] at H ⊢; exact H)
                      have hji29_ : (if (wrap64 ((wrap64 (bt a0 0)) - 24)) < (wrap64 (24 - (wrap64 (bt a0 0)))) then (wrap64 (24 - (wrap64 (bt a0 0)))) else (wrap64 ((wrap64 (bt a0 0)) - 24))) = ji29 := hji29
                      by_cases c30 : (rs.size : Int) < (ji29)
                      · rw [if_pos c30] at H
                        have c30b0 : decide ((rs.size : Int) < (ji29)) = true := decide_eq_true c30
                        clear c30
                        simp only [Option.some.injEq, Prod.mk.injEq] at H
                        obtain ⟨rfl, rfl, rfl, rfl, rfl, rfl⟩ := H
                        have hcz31_0 : wc.cell? ⟨gb282, 0, none⟩ = some (.int .i64 0) := (blk_cell BK282.out 0).trans rfl
                        have hcz31_1 : wc.cell? ⟨gb282, 1, none⟩ = some (.bool false) := (blk_cell BK282.out 1).trans rfl
                        have hcz31_2 : wc.cell? ⟨gb282, 2, none⟩ = some (.int .i64 0) := (blk_cell BK282.out 2).trans rfl
                        have hcz31_3 : wc.cell? ⟨gb282, 3, none⟩ = some (.string (⟨#[]⟩ : ByteArray)) := (blk_cell BK282.out 3).trans rfl
                        have hfz31_0 := blk_frozen BK282.out 0
                        have hfz31_1 := blk_frozen BK282.out 1
                        have hfz31_2 := blk_frozen BK282.out 2
                        have hfz31_3 := blk_frozen BK282.out 3
                        go_wp2
                        refine bodyPost_ret (results_ctt rfl _ _ gb282 36 #[.int .i64 0, .bool false, .int .i64 0, .string (⟨#[]⟩ : ByteArray)] (0, 0) _ rfl (by (with_reducible repeat (first | refine blk_drewN ?_ _ | refine blk_drew ?_ | refine blk_alloc ?_ _)); refine blk_put (cs := #[.int .i64 0, .bool false, .int .i64 0, .string (⟨#[]⟩ : ByteArray)]) ?_ 3 _ rfl; (with_reducible repeat (first | refine blk_drewN ?_ _ | refine blk_drew ?_ | refine blk_alloc ?_ _)); refine blk_put (cs := #[.int .i64 0, .bool false, .int .i64 0, .string (⟨#[]⟩ : ByteArray)]) ?_ 2 _ rfl; (with_reducible repeat (first | refine blk_drewN ?_ _ | refine blk_drew ?_ | refine blk_alloc ?_ _)); refine blk_put (cs := #[.int .i64 0, .bool false, .int .i64 0, .string (⟨#[]⟩ : ByteArray)]) ?_ 1 _ rfl; (with_reducible repeat (first | refine blk_drewN ?_ _ | refine blk_drew ?_ | refine blk_alloc ?_ _)); refine blk_put (cs := #[.int .i64 0, .bool false, .int .i64 0, .string (⟨#[]⟩ : ByteArray)]) ?_ 0 _ rfl; (with_reducible repeat (first | refine blk_drewN ?_ _ | refine blk_drew ?_ | refine blk_alloc ?_ _)); exact BK282.out) Tryd.underlying36 rfl (by kernel_rfl)) rfl ?_
                        exact ⟨by first | rfl | (simp [errW_none, errW_some] <;> rfl) | (simp only [← hji29]; first | rfl | (simp [errW_none, errW_some] <;> rfl)) | (simp [*, errW_none, errW_some] <;> rfl), by repeat (first | (with_reducible first | exact HB.out | apply below_alloc | apply pw_below_drewN | apply below_drew1 | refine below_set ?_ GE282.out) | exact HB.out)⟩
                      · rw [if_neg c30] at H
                        have c30b0 : decide ((rs.size : Int) < (ji29)) = false := decide_eq_false c30
                        clear c30
                        replace H := Option.bind_eq_some_iff.mp H
                        obtain ⟨⟨t286, t287⟩, A320, H⟩ := H
                        replace H : (if 0 ≤ (ji29) then (if (ji29) ≤ (rs.size : Int) then (some (2, false, t286, (⟨#[]⟩ : ByteArray), rs.extract ((ji29) : Int).toNat rs.size, t287)) else (none)) else (none)) = some (r1, r2, r3, r4, r5, r6) := H
                        have A32 := Aside0.mk A320
                        clear A320
                        by_cases c33 : 0 ≤ (ji29)
                        · rw [if_pos c33] at H
                          have c33b0 := eq_true c33
                          have c33b1 : decide (0 ≤ (ji29)) = true := decide_eq_true c33
                          clear c33
                          by_cases c34 : (ji29) ≤ (rs.size : Int)
                          · rw [if_pos c34] at H
                            have c34b0 := eq_true c34
                            have c34b1 : decide ((ji29) ≤ (rs.size : Int)) = true := decide_eq_true c34
                            clear c34
                            simp only [Option.some.injEq, Prod.mk.injEq] at H
                            obtain ⟨rfl, rfl, rfl, rfl, rfl, rfl⟩ := H
                            try go_wp2_with (first | ((with_reducible refine gate_callee (f := 57) rfl ?_); refine goesL_ (some 72) rfl rfl Tryd.func57 (by kernel_rfl) rfl #[.string rs, .int .i64 ji29, .bool (decide ((wrap64 (bt a0 0)) < 24))] rfl (by (try simp only [List.map_toArray, List.map_cons, List.map_nil]); first | done | (simp only [hji29]; rfl) | rfl | (simp only [List.length_drop, List.length_take]; rfl)) ?_; (with_reducible refine (tuple_whole.calls kj24 rs ji29 (decide ((wrap64 (bt a0 0)) < 24)) t286 t287 _ A32.out).mono ?_); rintro e w' ⟨rfl, ⟨nd, rfl⟩⟩; refine ⟨_, rfl, ?_⟩; (try (rw [drewN_self wc]; generalize hq_ : World.drewN wc _ = wc; have n0_ : Aside0 (wc.heap[gb282]? = some (.cells #[.int .i64 0, .bool false, .int .i64 0, .string (⟨#[]⟩ : ByteArray)] 36 (0, 0))) := ⟨by rw [← hq_]; exact (by (with_reducible repeat (first | refine blk_drewN ?_ _ | refine blk_drew ?_ | refine blk_alloc ?_ _)); exact BK282.out)⟩; have n1_ : Aside0 (Below w.heap.size w wc) := ⟨by rw [← hq_]; exact (by repeat (first | (with_reducible first | exact HB.out | apply below_alloc | apply pw_below_drewN | apply below_drew1 | refine below_set ?_ GE282.out) | exact HB.out))⟩; clear BK282 HB hq_; have BK282 := n0_; have HB := n1_; clear n0_ n1_))))
                            have n0_ := Aside0.mk (blk_drew BK282.out)
                            have n1_ := Aside0.mk (below_drew1 HB.out)
                            clear BK282
                            clear HB
                            have BK282 := n0_
                            have HB := n1_
                            clear n0_ n1_
                            refine start_ (n := 9) (S := fun w' => True) (ds := []) #[false, false, false, false, false, false, false, false, false] (by kernel_rfl) rfl rfl trivial (fun hHeld => ?_); refine with_tabW tuple_first.tab15 tuple_first.bits15 (fun HT_ HW_ => ?_)
                            generalize wc.drew = w35 at BK282 HB hHeld ⊢
                            refine pure_ (i := 0) (N := some 75) (v := ?_) (a' := ?_) #[true, false, false, false, false, false, false, false, false] rfl rfl (any_of HT_.out (by kernel_rfl)) (fun _ _ _ h => h) (Or.inl ⟨by rfl, ?_⟩) ?_ ?_
                            rotate_left
                            · intro w'
                              go_simp
                              with_reducible rfl
                            rotate_left
                            · simp only [Act.put, List.setIfInBounds_toArray, List.set_cons_zero, List.set_cons_succ, i64_w, i32_w]
                              rfl
                            refine pure_ (i := 1) (N := some 76) (v := ?_) (a' := ?_) #[true, true, false, false, false, false, false, false, false] rfl rfl (any_of HT_.out (by kernel_rfl)) (fun _ _ _ h => h) (Or.inl ⟨by rfl, ?_⟩) ?_ ?_
                            rotate_left
                            · intro w'
                              go_simp
                              with_reducible rfl
                            rotate_left
                            · simp only [Act.put, List.setIfInBounds_toArray, List.set_cons_zero, List.set_cons_succ, i64_w, i32_w]
                              rfl
                            refine pure_ (i := 2) (N := some 77) (v := ?_) (a' := ?_) #[true, true, true, false, false, false, false, false, false] rfl rfl (any_of HT_.out (by kernel_rfl)) (fun _ _ _ h => h) (Or.inl ⟨by rfl, ?_⟩) ?_ ?_
                            rotate_left
                            · intro w'
                              go_simp
                              with_reducible rfl
                            rotate_left
                            · simp only [Act.put, List.setIfInBounds_toArray, List.set_cons_zero, List.set_cons_succ, i64_w, i32_w]
                              rfl
                            refine pure_ (i := 3) (N := some 78) (v := ?_) (a' := ?_) #[true, true, true, true, false, false, false, false, false] rfl rfl (any_of HT_.out (by kernel_rfl)) (fun _ _ _ h => h) (Or.inl ⟨by rfl, ?_⟩) ?_ ?_
                            rotate_left
                            · intro w'
                              go_simp
                              with_reducible rfl
                            rotate_left
                            · simp only [Act.put, List.setIfInBounds_toArray, List.set_cons_zero, List.set_cons_succ, i64_w, i32_w]
                              rfl
                            refine pure_ (i := 4) (N := some 79) (v := ?_) (a' := ?_) #[true, true, true, true, true, false, false, false, false] rfl rfl (any_of HT_.out (by kernel_rfl)) (fun _ _ _ h => h) (Or.inl ⟨by rfl, ?_⟩) ?_ ?_
                            rotate_left
                            · intro w'
                              go_simp
                              with_reducible rfl
                            rotate_left
                            · simp only [Act.put, List.setIfInBounds_toArray, List.set_cons_zero, List.set_cons_succ, i64_w, i32_w]
                              rfl
                            refine pure_ (i := 5) (N := some 80) (v := ?_) (a' := ?_) #[true, true, true, true, true, true, false, false, false] rfl rfl (any_of HT_.out (by kernel_rfl)) (fun _ _ _ h => h) (Or.inl ⟨by rfl, ?_⟩) ?_ ?_
                            rotate_left
                            · intro w'
                              go_simp
                              with_reducible rfl
                            rotate_left
                            · simp only [Act.put, List.setIfInBounds_toArray, List.set_cons_zero, List.set_cons_succ, i64_w, i32_w]
                              rfl
                            refine one_ (i := 6) (N := none) #[true, true, true, true, true, true, true, false, false] rfl rfl (one_of HT_.out (by kernel_rfl)) (by decide) (fun K hK => ?_)
                            have hs36 : w35.cell? ⟨gb282, 0, none⟩ = some (.int .i64 0) := (blk_cell BK282.out 0).trans rfl
                            have hfs36 := blk_frozen BK282.out 0
                            have hs37 : w35.cell? ⟨gb282, 1, none⟩ = some (.bool false) := (blk_cell BK282.out 1).trans rfl
                            have hfs37 := blk_frozen BK282.out 1
                            have hs38 : w35.cell? ⟨gb282, 2, none⟩ = some (.int .i64 0) := (blk_cell BK282.out 2).trans rfl
                            have hfs38 := blk_frozen BK282.out 2
                            have hs39 : w35.cell? ⟨gb282, 3, none⟩ = some (.string (⟨#[]⟩ : ByteArray)) := (blk_cell BK282.out 3).trans rfl
                            have hfs39 := blk_frozen BK282.out 3
                            refine skip_ (w1 := ?_) (by rfl) rfl ?_ ?_
                            rotate_left
                            · go_simp
                              rfl
                            refine hK.out _ _ trivial (fun hHeld => ?_)
                            clear hK K
                            refine pure_ (i := 7) (N := some 3) (v := ?_) (a' := ?_) #[true, true, true, true, true, true, true, true, false] rfl rfl (any_of HT_.out (by kernel_rfl)) (fun _ _ _ h => h) (Or.inl ⟨by rfl, ?_⟩) ?_ ?_
                            rotate_left
                            · intro w'
                              go_simp
                              with_reducible rfl
                            rotate_left
                            · simp only [Act.put, List.setIfInBounds_toArray, List.set_cons_zero, List.set_cons_succ, i64_w, i32_w]
                              rfl
                            refine pure_ (i := 8) (N := some 4) (v := ?_) (a' := ?_) #[true, true, true, true, true, true, true, true, true] rfl rfl (any_of HT_.out (by kernel_rfl)) (fun _ _ _ h => h) (Or.inl ⟨by rfl, ?_⟩) ?_ ?_
                            rotate_left
                            · intro w'
                              go_simp
                              with_reducible rfl
                            rotate_left
                            · simp only [Act.put, List.setIfInBounds_toArray, List.set_cons_zero, List.set_cons_succ, i64_w, i32_w]
                              rfl
                            refine done_ (done_of HT_.out (by kernel_rfl)) ?_
                            try go_wp2
                            refine bodyPost_ret (results_ctt rfl _ _ gb282 36 #[.int .i64 2, .bool false, .int .i64 t286, .string (⟨#[]⟩ : ByteArray)] (0, 0) _ rfl (by (with_reducible repeat (first | refine blk_drewN ?_ _ | refine blk_drew ?_ | refine blk_alloc ?_ _)); refine blk_put (cs := #[.int .i64 2, .bool false, .int .i64 t286, .string (⟨#[]⟩ : ByteArray)]) ?_ 3 _ rfl; (with_reducible repeat (first | refine blk_drewN ?_ _ | refine blk_drew ?_ | refine blk_alloc ?_ _)); refine blk_put (cs := #[.int .i64 2, .bool false, .int .i64 0, .string (⟨#[]⟩ : ByteArray)]) ?_ 2 _ rfl; (with_reducible repeat (first | refine blk_drewN ?_ _ | refine blk_drew ?_ | refine blk_alloc ?_ _)); refine blk_put (cs := #[.int .i64 2, .bool false, .int .i64 0, .string (⟨#[]⟩ : ByteArray)]) ?_ 1 _ rfl; (with_reducible repeat (first | refine blk_drewN ?_ _ | refine blk_drew ?_ | refine blk_alloc ?_ _)); refine blk_put (cs := #[.int .i64 0, .bool false, .int .i64 0, .string (⟨#[]⟩ : ByteArray)]) ?_ 0 _ rfl; (with_reducible repeat (first | refine blk_drewN ?_ _ | refine blk_drew ?_ | refine blk_alloc ?_ _)); exact BK282.out) Tryd.underlying36 rfl (by kernel_rfl)) rfl ?_
                            exact ⟨by first | rfl | (simp [errW_none, errW_some] <;> rfl) | (simp only [← hji29]; first | rfl | (simp [errW_none, errW_some] <;> rfl)) | (simp [*, errW_none, errW_some] <;> rfl), by repeat (first | (with_reducible first | exact HB.out | apply below_alloc | apply pw_below_drewN | apply below_drew1 | refine below_set ?_ GE282.out) | exact HB.out)⟩
                          · rw [if_neg c34] at H
                            exact absurd H (by simp)
                        · rw [if_neg c33] at H
                          exact absurd H (by simp)
    · rw [if_neg c4] at H
      exact absurd H (by simp)
  · rw [if_neg c2] at H
    exact absurd H (by simp)

end Go.Proofs.YtoieckmegdcaeaaDoor.G
end

section
namespace Go.Proofs.YtoieckmegdcaeaaDoor.G
open Go.RowKit Go.Proofs.YtoieckmegdcaeaaDoorW.PrintWords Go.Proofs.YtoieckmegdcaeaaDoorW.PrintLast Go.Proofs.YtoieckmegdcaeaaDoorW.PrintMore
set_option linter.unusedVariables false
set_option linter.unusedSimpArgs false

/-- the last n bytes of a number, the greatest first. -/
def be (M : Nat) : Nat → List Int
  | 0 => []
  | n + 1 => ((M / 256 ^ n % 256 : Nat) : Int) :: be M n
theorem be_length (M : Nat) : ∀ n, (be M n).length = n
  | 0 => rfl
  | n + 1 => by rw [be, List.length_cons, be_length M n]
def intHead (v : Int) : Int := if v < 0 then 24 - ((nbytes v.natAbs : Nat) : Int) else 24 + ((nbytes v.natAbs : Nat) : Int)
def intM (v : Int) : Nat := if v < 0 then 18446744073709551615 - v.natAbs else v.natAbs
def intCode (v : Int) : List Int := intHead v :: be (intM v) (nbytes v.natAbs)
def tuple_integer.f (l0 : List Int) (a1 : Int) : Option (List Int) :=
  if -9223372036854775808 ≤ a1 ∧ a1 ≤ 9223372036854775807 ∧ l0.length < 140737488355300 then some (l0 ++ intCode a1) else none

/-- the array's cells behind j rounds. -/
def arr (M j : Nat) : List Value := List.replicate (8 - j) (Value.int .u8 0) ++ (be M j).map (Value.int .u8)
theorem arr_length (M j : Nat) (h : j ≤ 8) : (arr M j).length = 8 := by
  unfold arr; rw [List.length_append, List.length_replicate, List.length_map, be_length]; omega
theorem arr_set (M j : Nat) (h : j < 8) : (arr M j).set (7 - j) (Value.int .u8 ((M / 256 ^ j % 256 : Nat) : Int)) = arr M (j + 1) := by
  unfold arr
  obtain ⟨d, hd⟩ : ∃ d, 8 - j = d + 1 := ⟨7 - j, by omega⟩
  rw [hd, show 7 - j = d from by omega, show 8 - (j + 1) = d from by omega, List.replicate_succ', List.append_assoc, List.set_append_right _ _ (by rw [List.length_replicate]; omega), List.length_replicate, Nat.sub_self]
  rfl
theorem arr_zero (M : Nat) : arr M 0 = [.int .u8 0, .int .u8 0, .int .u8 0, .int .u8 0, .int .u8 0, .int .u8 0, .int .u8 0, .int .u8 0] := rfl
theorem arr_drop (M n : Nat) (h : n ≤ 8) : (arr M n).drop (8 - n) = (be M n).map (Value.int .u8) := by
  unfold arr; rw [List.drop_append_of_le_length (by rw [List.length_replicate]; omega)]
  rw [List.drop_of_length_le (by rw [List.length_replicate]; omega), List.nil_append]

theorem not64 (m : Nat) (h : m < 18446744073709551616) : bits .xor .u64 IntKind.u64.max (m : Int) = ((18446744073709551615 - m : Nat) : Int) := by
  have e : IntKind.u64.max = ((18446744073709551615 : Nat) : Int) := by decide
  rw [e, u64_xor_nat 18446744073709551615 m (by decide) h]
  have := Lib.xor_ones64 m (by rw [show (2 : Nat) ^ 64 = 18446744073709551616 from by decide]; exact h)
  rw [show (2 : Nat) ^ 64 - 1 = 18446744073709551615 from by decide] at this
  rw [this]

theorem slice_arr (B n : Nat) (hn : n ≤ 8) : ∃ ad : Addr, (∀ W : World, (Instr.sliceAt 104 (.pointer (some ⟨B, 0, none⟩)) (some (.int .i64 (8 - (n : Int)))) none none).run Tryd.prog W = .ok (.slice (some ad) n n) W) ∧ (0 < n → ad = ⟨B, 8 - n, none⟩) := by
  have hal : Tryd.prog.arrayLen 104 = 8 := by kernel_rfl
  have hel : Tryd.prog.elem 104 = 5 := by kernel_rfl
  have hu : Tryd.prog.underlying 104 = some (.array (Tryd.prog.arrayLen 104) (Tryd.prog.elem 104)) := by rw [hal, hel]; exact Tryd.underlying104
  have e1 : (8 - (n : Int)).toNat = 8 - n := by omega
  refine ⟨if (8 : Nat) = 8 - n then ⟨B, 0, none⟩ else (⟨B, 0, none⟩ : Addr).add ((8 - n) * 1), fun W => ?_, fun h => ?_⟩
  · rw [run_sliceAt_array_l W 104 ⟨B, 0, none⟩ hu .i64 (8 - (n : Int)) (by omega) (by rw [hal]; omega), hal, hel, e1]
    have hs : (sizeOf 5).run Tryd.prog W = .ok 1 W := by kernel_rfl
    rw [hs]
    simp only [Result.andThen, slicedAt]
    rw [show 8 - (8 - n) = n from by omega]
  · rw [if_neg (by omega)]
    simp [Addr.add]
    omega
/-- what the loop keeps. -/
structure Lp (B : Nat) (w0 w : World) (P0 : Nat → Prop) (M n : Nat) (v1 : Value) (l : List Int) (j : Nat) (wr : World) : Prop where
  le : j ≤ n
  own : Kd.R (Kd.int .u8) 5 wr w0.heap.size (fun k => (P0 k ∨ w.heap.size ≤ k)) v1 l
  below : Below w0.heap.size w0 wr
  kept : Kept w wr P0
  blk : wr.heap[B]? = some (.cells (arr M j).toArray 104 (0, 0))
  ne : v1.ownBlock ≠ some B
  hB : w.heap.size ≤ B
  hB0 : w0.heap.size ≤ B

theorem Lp.next {B : Nat} {w0 w : World} {P0 : Nat → Prop} {M n : Nat} {v1 : Value} {l : List Int} {j : Nat} {wr : World} (h : Lp B w0 w P0 M n v1 l j wr) (hj : j < n) (hn : j < 8) :
    Lp B w0 w P0 M n v1 l (j + 1) (wr.setCell ⟨B, 7 - j, none⟩ (.int .u8 ((M : Int) / 256 ^ j % 256))) := by
  refine ⟨hj, ?_, h.below.setCell (p := ⟨B, 7 - j, none⟩) h.hB0 _, h.kept.setCell (p := ⟨B, 7 - j, none⟩) (.inr h.hB) _, ?_, h.ne, h.hB, h.hB0⟩
  · refine Kd.R_mono (Kd.R_far (Kd.R_tight rfl h.own) (p := ⟨B, 7 - j, none⟩) ?_ _) (fun k hk => h.own.1 k hk.symm)
    intro k hk e
    exact h.ne (by rw [← hk, e])
  · have e : (M : Int) / 256 ^ j % 256 = ((M / 256 ^ j % 256 : Nat) : Int) := by simp
    rw [e, ← arr_set M j hn]
    simp [World.setCell, Array.getElem?_modify, h.blk]
theorem Lp.reads {B : Nat} {w0 w : World} {P0 : Nat → Prop} {M n : Nat} {v1 : Value} {l : List Int} {wr : World} (h : Lp B w0 w P0 M n v1 l n wr) {ad : Addr} (had : 0 < n → ad = ⟨B, 8 - n, none⟩) (hn : n ≤ 8) :
    Kd.C (Kd.int .u8) wr (some ad) n (be M n) := by
  refine ⟨be_length M n, by omega, fun h0 => ⟨ad, rfl, ?_⟩⟩
  obtain rfl := had h0
  intro j p hp
  refine ⟨[.int .u8 p], rfl, rfl, ?_⟩
  intro i u hu
  match i, hu with
  | 0, hu =>
    simp at hu
    subst hu
    have hjl : j < n := by
      have := (List.getElem?_eq_some_iff.1 hp).1
      rw [be_length] at this; exact this
    have e1 : ((be M n).map (Value.int .u8))[j]? = some (.int .u8 p) := by rw [List.getElem?_map, hp]; rfl
    rw [← arr_drop M n hn, List.getElem?_drop] at e1
    have ea : (⟨B, 8 - n, none⟩ : Addr).add (j * (Kd.int .u8).sz + 0) = ⟨B, 8 - n + j, none⟩ := by
      show Addr.add _ (j * 1 + 0) = _
      simp [Addr.add]
    rw [ea, Lib.cell_of_heap h.blk]
    simpa using e1
  | i + 1, hu => simp at hu

set_option maxHeartbeats 4000000 in
set_option maxRecDepth 100000 in
theorem tuple_integer.calls (P0_ : Nat → Prop) (u9000_ : Value) (l0 : List Int) (a1 : Int) (r : List Int) (w0 w : World) (hB : Below w0.heap.size w0 w) (ho0 : Kd.R (Kd.int .u8) 5 w w0.heap.size P0_ u9000_ l0) (h : tuple_integer.f l0 a1 = some r) :
    Calls Tryd.prog 46 #[u9000_, .int .i64 a1] w fun e w' => ∃ v0_ : Value, e = .returned (v0_) ∧ Kd.R (Kd.int .u8) 5 w' w0.heap.size (fun k_ => (P0_ k_ ∨ w.heap.size ≤ k_)) v0_ r ∧ Below w0.heap.size w0 w' ∧ Kept w w' (fun k_ => P0_ k_) := by
  unfold tuple_integer.f at h
  by_cases hc : -9223372036854775808 ≤ a1 ∧ a1 ≤ 9223372036854775807 ∧ l0.length < 140737488355300
  case neg => rw [if_neg hc] at h; exact absurd h (by simp)
  rw [if_pos hc] at h
  obtain rfl := Option.some.inj h
  obtain ⟨b0, b1, bl⟩ := hc
  clear h
  have HO0 := Aside0.mk (show Kd.R (Kd.int .u8) 5 w w0.heap.size (fun k_ => (P0_ k_ ∨ w.heap.size ≤ k_)) u9000_ l0 from Kd.R_mono ho0 (fun k_ hk => (.inl hk)))
  have HB := Aside0.mk hB
  have HP0 := Aside0.mk ho0.1
  obtain ⟨A, c, hv⟩ := Kd.R_slice ho0
  subst hv
  clear ho0 hB
  have hn8 := nbytes_le a1.natAbs (by omega)
  have HMG := Aside0.mk (fun W => magnitude_calls a1 b0 b1 W)
  generalize hn : nbytes a1.natAbs = n at *
  have Hn := Aside0.mk hn
  clear hn
  by_cases hneg : a1 < 0
  · have p1 : (0 : Int) ≤ 24 - (n : Int) := by omega
    have p2 : 24 - (n : Int) < 256 := by omega
    go_enter Tryd.func46, Tryd.ntmps46
    go_wp2_with (first | (go_at_call 73; refine (HMG.out _).mono ?_; rintro e w' ⟨rfl, rfl⟩) | (at_builtin; refine Kd.R_append (Kd.int .u8) (w0 := w0) w0.heap.size rfl (.tmp 16) (.tmp 20) 51 5 (.int .u8 0) 1 rfl Tryd.underlying51 info5 rfl (by decide) (by omega) (.slice A l0.length c) l0 (24 - (n : Int)) [.int .u8 (24 - (n : Int))] (fun k_ => (P0_ k_ ∨ w.heap.size ≤ k_)) (fun _ => False) rfl rfl rfl (fun _ hk => hk.elim) (fun k_ hk => .inr hk) HO0.out HB.out HB.out.size (by omega) ?_))
    intro v1 w1 ho hb hg hat
    have HO1 := Aside0.mk ho
    have HB1 := Aside0.mk hb
    have HK1 := Aside0.mk (Kept.of_grown (S := (fun k_ => P0_ k_)) hg (Kept.refl w _) (fun k_ e_ => .inl (HP0.out k_ e_)))
    clear ho hb hg hat
    go_wp2
    generalize hM : 18446744073709551615 - a1.natAbs = M at *
    rw [not64 a1.natAbs (by omega), hM]
    go_loopw [5, 8] (fun v5 v8 wr => ∃ j : Nat, v5 = .int .u64 ((M / 256 ^ j : Nat) : Int) ∧ v8 = .int .i64 (7 - (j : Int)) ∧ Lp w1.heap.size w0 w P0_ M n v1 (l0 ++ [24 - (n : Int)]) j wr) (fun _ v8 _ => ((Lib.intOf v8) + 1).toNat)
    case atStart =>
      refine ⟨0, ?_, rfl, ⟨Nat.zero_le _, Kd.R_alloc HO1.out _, below_alloc HB1.out _, Kept.alloc HK1.out _, ?_, ?_, HK1.out.1, HB1.out.size⟩⟩
      · rw [Nat.pow_zero, Nat.div_one]
      · exact blk_new w1 _
      · intro e
        have := Kd.R_lt HO1.out _ e
        omega
    case round =>
      obtain ⟨j, rfl, rfl, hR⟩ := hrel
      have hle := hR.le
      by_cases hj : j < n
      · have e7 : (7 - (j : Int)).toNat = 7 - j := by omega
        have hl := arr_length M j (by omega)
        obtain ⟨u, hu⟩ : ∃ u, wr.cell? ⟨w1.heap.size, 7 - j, none⟩ = some u := by
          rw [Lib.cell_of_heap hR.blk]
          exact ⟨(arr M j)[7 - j]'(by omega), by simp [hl]⟩
        have hf : wr.frozen? ⟨w1.heap.size, 7 - j, none⟩ = false := Lib.frozen_of_heap hR.blk _
        clear hl
        have d1 : decide (8 - (n : Int) ≤ 7 - (j : Int)) = true := decide_eq_true (by omega)
        have q1 : (0 : Int) ≤ 7 - (j : Int) := by omega
        have q2 : 7 - (j : Int) < 8 := by omega
        go_wp2
        refine ⟨⟨j + 1, ?_, ?_, hR.next hj (by omega)⟩, ?_⟩
        · rw [Nat.pow_succ, ← Nat.div_div_eq_div_mul]; simp
        · exact congrArg (Value.int .i64) (by omega)
        · show (7 - (j : Int) - 1 + 1).toNat < (7 - (j : Int) + 1).toNat
          omega
      · have d1 : decide (8 - (n : Int) ≤ 7 - (j : Int)) = false := decide_eq_false (by omega)
        obtain rfl : j = n := by omega
        obtain ⟨ad, hsl, had⟩ := slice_arr w1.heap.size j hn8
        have HAD := Aside0.mk had
        clear had
        go_wp2_with (at_builtin; refine Kd.R_append_row (Value.int .u8) (0 : Int) (w0 := w0) w0.heap.size rfl (.tmp 42) (.tmp 45) 51 5 (.int .u8 0) 1 rfl Tryd.underlying51 info5 rfl (by decide) v1 (l0 ++ [24 - (j : Int)]) (be M j) (some ad) j j (fun k_ => (P0_ k_ ∨ w.heap.size ≤ k_)) rfl rfl ?aF hR.own (hR.reads HAD.out hn8) hR.below hR.below.size ?aL ?_)
        case aF => exact fun k_ hk => .inr (Nat.le_trans hR.kept.1 hk)
        case aL => simp; omega
        intro v2 w2 ho hb hg hat
        go_wp2
        go_ret
        refine ⟨_, rfl, ?_, hb, ?_⟩
        · have e : intCode a1 = (24 - (j : Int)) :: be M j := by
            unfold intCode intHead intM
            rw [if_pos hneg, if_pos hneg, hM, Hn.out]
          rw [e]
          exact ho
        · exact Kept.of_grown (S := (fun k_ => P0_ k_)) hg hR.kept (fun k_ e_ => hR.own.1 k_ e_)
  · have p1 : (0 : Int) ≤ 24 + (n : Int) := by omega
    have p2 : 24 + (n : Int) < 256 := by omega
    go_enter Tryd.func46, Tryd.ntmps46
    go_wp2_with (first | (go_at_call 73; refine (HMG.out _).mono ?_; rintro e w' ⟨rfl, rfl⟩) | (at_builtin; refine Kd.R_append (Kd.int .u8) (w0 := w0) w0.heap.size rfl (.tmp 24) (.tmp 28) 51 5 (.int .u8 0) 1 rfl Tryd.underlying51 info5 rfl (by decide) (by omega) (.slice A l0.length c) l0 (24 + (n : Int)) [.int .u8 (24 + (n : Int))] (fun k_ => (P0_ k_ ∨ w.heap.size ≤ k_)) (fun _ => False) rfl rfl rfl (fun _ hk => hk.elim) (fun k_ hk => .inr hk) HO0.out HB.out HB.out.size (by omega) ?_))
    intro v1 w1 ho hb hg hat
    have HO1 := Aside0.mk ho
    have HB1 := Aside0.mk hb
    have HK1 := Aside0.mk (Kept.of_grown (S := (fun k_ => P0_ k_)) hg (Kept.refl w _) (fun k_ e_ => .inl (HP0.out k_ e_)))
    clear ho hb hg hat
    go_wp2
    generalize hM : a1.natAbs = M at *
    go_loopw [5, 8] (fun v5 v8 wr => ∃ j : Nat, v5 = .int .u64 ((M / 256 ^ j : Nat) : Int) ∧ v8 = .int .i64 (7 - (j : Int)) ∧ Lp w1.heap.size w0 w P0_ M n v1 (l0 ++ [24 + (n : Int)]) j wr) (fun _ v8 _ => ((Lib.intOf v8) + 1).toNat)
    case atStart =>
      refine ⟨0, ?_, rfl, ⟨Nat.zero_le _, Kd.R_alloc HO1.out _, below_alloc HB1.out _, Kept.alloc HK1.out _, ?_, ?_, HK1.out.1, HB1.out.size⟩⟩
      · rw [Nat.pow_zero, Nat.div_one]
      · exact blk_new w1 _
      · intro e
        have := Kd.R_lt HO1.out _ e
        omega
    case round =>
      obtain ⟨j, rfl, rfl, hR⟩ := hrel
      have hle := hR.le
      by_cases hj : j < n
      · have e7 : (7 - (j : Int)).toNat = 7 - j := by omega
        have hl := arr_length M j (by omega)
        obtain ⟨u, hu⟩ : ∃ u, wr.cell? ⟨w1.heap.size, 7 - j, none⟩ = some u := by
          rw [Lib.cell_of_heap hR.blk]
          exact ⟨(arr M j)[7 - j]'(by omega), by simp [hl]⟩
        have hf : wr.frozen? ⟨w1.heap.size, 7 - j, none⟩ = false := Lib.frozen_of_heap hR.blk _
        clear hl
        have d1 : decide (8 - (n : Int) ≤ 7 - (j : Int)) = true := decide_eq_true (by omega)
        have q1 : (0 : Int) ≤ 7 - (j : Int) := by omega
        have q2 : 7 - (j : Int) < 8 := by omega
        go_wp2
        refine ⟨⟨j + 1, ?_, ?_, hR.next hj (by omega)⟩, ?_⟩
        · rw [Nat.pow_succ, ← Nat.div_div_eq_div_mul]; simp
        · exact congrArg (Value.int .i64) (by omega)
        · show (7 - (j : Int) - 1 + 1).toNat < (7 - (j : Int) + 1).toNat
          omega
      · have d1 : decide (8 - (n : Int) ≤ 7 - (j : Int)) = false := decide_eq_false (by omega)
        obtain rfl : j = n := by omega
        obtain ⟨ad, hsl, had⟩ := slice_arr w1.heap.size j hn8
        have HAD := Aside0.mk had
        clear had
        go_wp2_with (at_builtin; refine Kd.R_append_row (Value.int .u8) (0 : Int) (w0 := w0) w0.heap.size rfl (.tmp 42) (.tmp 45) 51 5 (.int .u8 0) 1 rfl Tryd.underlying51 info5 rfl (by decide) v1 (l0 ++ [24 + (j : Int)]) (be M j) (some ad) j j (fun k_ => (P0_ k_ ∨ w.heap.size ≤ k_)) rfl rfl ?aF hR.own (hR.reads HAD.out hn8) hR.below hR.below.size ?aL ?_)
        case aF => exact fun k_ hk => .inr (Nat.le_trans hR.kept.1 hk)
        case aL => simp; omega
        intro v2 w2 ho hb hg hat
        go_wp2
        go_ret
        refine ⟨_, rfl, ?_, hb, ?_⟩
        · have e : intCode a1 = (24 + (j : Int)) :: be M j := by
            unfold intCode intHead intM
            rw [if_neg (by omega), if_neg (by omega), hM, Hn.out]
          rw [e]
          exact ho
        · exact Kept.of_grown (S := (fun k_ => P0_ k_)) hg hR.kept (fun k_ e_ => hR.own.1 k_ e_)
end Go.Proofs.YtoieckmegdcaeaaDoor.G
end

section
namespace Go.Proofs.YtoieckmegdcaeaaDoor.G
open Go.RowKit Go.Proofs.YtoieckmegdcaeaaDoorW.PrintWords Go.Proofs.YtoieckmegdcaeaaDoorW.PrintLast Go.Proofs.YtoieckmegdcaeaaDoorW.PrintMore
attribute [local go_sem] max2_int min2_int max_two min_two max_three min_three max_four min_four   -- for this text's walks alone
set_option linter.unusedVariables false
set_option linter.unusedSimpArgs false

/-! ### api_ValueKind_51: function 51 -/
def api_ValueKind_51.f (a0 : Int) (a1 : Int) : Option (Int) := (api_ValueKind_75.f a0).bind fun t369 => ((api_ValueKind_75.f a1).bind fun t370 => (if t369 = true then (if t370 = true then (some 0) else (some (-1))) else (if t370 = true then (some 1) else (if a0 < a1 then (some (-1)) else (if a0 > a1 then (some 1) else (some 0))))))
set_option maxHeartbeats 8000000 in
set_option maxRecDepth 100000 in
theorem api_ValueKind_51.calls (a0 : Int) (a1 : Int) (r : Int) (w : World) (h : api_ValueKind_51.f a0 a1 = some r) :
    Calls Tryd.prog 51 #[.int .i64 a0, .int .i64 a1] w fun e w' => e = .returned (.int .i64 r) ∧ Drawn0 w w' := by
  have H : ((api_ValueKind_75.f a0).bind fun t369 => ((api_ValueKind_75.f a1).bind fun t370 => (if t369 = true then (if t370 = true then (some 0) else (some (-1))) else (if t370 = true then (some 1) else (if a0 < a1 then (some (-1)) else (if a0 > a1 then (some 1) else (some 0))))))) = some r := h
  clear h
  replace H := Option.bind_eq_some_iff.mp H
  obtain ⟨t369, A30, H⟩ := H
  replace H : ((api_ValueKind_75.f a1).bind fun t370 => (if t369 = true then (if t370 = true then (some 0) else (some (-1))) else (if t370 = true then (some 1) else (if a0 < a1 then (some (-1)) else (if a0 > a1 then (some 1) else (some 0)))))) = some r := H
  have A3 := Aside0.mk A30
  clear A30
  replace H := Option.bind_eq_some_iff.mp H
  obtain ⟨t370, A40, H⟩ := H
  replace H : (if t369 = true then (if t370 = true then (some 0) else (some (-1))) else (if t370 = true then (some 1) else (if a0 < a1 then (some (-1)) else (if a0 > a1 then (some 1) else (some 0))))) = some r := H
  have A4 := Aside0.mk A40
  clear A40
  by_cases c5 : t369 = true
  · subst c5
    have H1 : (if t370 = true then (some 0) else (some (-1))) = some r := by rw [if_pos rfl] at H; exact H
    clear H
    have H := H1
    clear H1
    by_cases c6 : t370 = true
    · subst c6
      have H1 : (some 0) = some r := by rw [if_pos rfl] at H; exact H
      clear H
      have H := H1
      clear H1
      obtain rfl := Option.some.inj H
      go_enter Tryd.func51, Tryd.ntmps51
      go_wp2_with (first | ((with_reducible refine gate_callee (f := 75) rfl ?_); refine goesL_ (some 8) rfl rfl Tryd.func75 (by kernel_rfl) rfl #[.int .i64 a0] rfl (by (try simp only [List.map_toArray, List.map_cons, List.map_nil]); first | done | rfl | (simp only [List.length_drop, List.length_take]; rfl)) ?_; (with_reducible refine (api_ValueKind_75.calls a0 true _ A3.out).mono ?_); rintro e w' ⟨rfl, ⟨nd, rfl⟩⟩; refine ⟨_, rfl, ?_⟩) | ((with_reducible refine gate_callee (f := 75) rfl ?_); refine goesL_ (some 10) rfl rfl Tryd.func75 (by kernel_rfl) rfl #[.int .i64 a1] rfl (by (try simp only [List.map_toArray, List.map_cons, List.map_nil]); first | done | rfl | (simp only [List.length_drop, List.length_take]; rfl)) ?_; (with_reducible refine (api_ValueKind_75.calls a1 true _ A4.out).mono ?_); rintro e w' ⟨rfl, ⟨nd, rfl⟩⟩; refine ⟨_, rfl, ?_⟩))
      go_ret
      exact ⟨by first | rfl | (simp; done) | (simp [*]; done), by repeat (first | exact Drawn0.refl _ | apply Drawn0.step)⟩
    · replace c6 := Bool.eq_false_iff.mpr c6
      subst c6
      have H1 : (some (-1)) = some r := by rw [if_neg (show ¬ (false = true) by decide)] at H; exact H
      clear H
      have H := H1
      clear H1
      obtain rfl := Option.some.inj H
      go_enter Tryd.func51, Tryd.ntmps51
      go_wp2_with (first | ((with_reducible refine gate_callee (f := 75) rfl ?_); refine goesL_ (some 8) rfl rfl Tryd.func75 (by kernel_rfl) rfl #[.int .i64 a0] rfl (by (try simp only [List.map_toArray, List.map_cons, List.map_nil]); first | done | rfl | (simp only [List.length_drop, List.length_take]; rfl)) ?_; (with_reducible refine (api_ValueKind_75.calls a0 true _ A3.out).mono ?_); rintro e w' ⟨rfl, ⟨nd, rfl⟩⟩; refine ⟨_, rfl, ?_⟩) | ((with_reducible refine gate_callee (f := 75) rfl ?_); refine goesL_ (some 10) rfl rfl Tryd.func75 (by kernel_rfl) rfl #[.int .i64 a1] rfl (by (try simp only [List.map_toArray, List.map_cons, List.map_nil]); first | done | rfl | (simp only [List.length_drop, List.length_take]; rfl)) ?_; (with_reducible refine (api_ValueKind_75.calls a1 false _ A4.out).mono ?_); rintro e w' ⟨rfl, ⟨nd, rfl⟩⟩; refine ⟨_, rfl, ?_⟩))
      go_ret
      exact ⟨by first | rfl | (simp; done) | (simp [*]; done), by repeat (first | exact Drawn0.refl _ | apply Drawn0.step)⟩
  · replace c5 := Bool.eq_false_iff.mpr c5
    subst c5
    have H1 : (if t370 = true then (some 1) else (if a0 < a1 then (some (-1)) else (if a0 > a1 then (some 1) else (some 0)))) = some r := by rw [if_neg (show ¬ (false = true) by decide)] at H; exact H
    clear H
    have H := H1
    clear H1
    by_cases c7 : t370 = true
    · subst c7
      have H1 : (some 1) = some r := by rw [if_pos rfl] at H; exact H
      clear H
      have H := H1
      clear H1
      obtain rfl := Option.some.inj H
      go_enter Tryd.func51, Tryd.ntmps51
      go_wp2_with (first | ((with_reducible refine gate_callee (f := 75) rfl ?_); refine goesL_ (some 8) rfl rfl Tryd.func75 (by kernel_rfl) rfl #[.int .i64 a0] rfl (by (try simp only [List.map_toArray, List.map_cons, List.map_nil]); first | done | rfl | (simp only [List.length_drop, List.length_take]; rfl)) ?_; (with_reducible refine (api_ValueKind_75.calls a0 false _ A3.out).mono ?_); rintro e w' ⟨rfl, ⟨nd, rfl⟩⟩; refine ⟨_, rfl, ?_⟩) | ((with_reducible refine gate_callee (f := 75) rfl ?_); refine goesL_ (some 10) rfl rfl Tryd.func75 (by kernel_rfl) rfl #[.int .i64 a1] rfl (by (try simp only [List.map_toArray, List.map_cons, List.map_nil]); first | done | rfl | (simp only [List.length_drop, List.length_take]; rfl)) ?_; (with_reducible refine (api_ValueKind_75.calls a1 true _ A4.out).mono ?_); rintro e w' ⟨rfl, ⟨nd, rfl⟩⟩; refine ⟨_, rfl, ?_⟩))
      go_ret
      exact ⟨by first | rfl | (simp; done) | (simp [*]; done), by repeat (first | exact Drawn0.refl _ | apply Drawn0.step)⟩
    · replace c7 := Bool.eq_false_iff.mpr c7
      subst c7
      have H1 : (if a0 < a1 then (some (-1)) else (if a0 > a1 then (some 1) else (some 0))) = some r := by rw [if_neg (show ¬ (false = true) by decide)] at H; exact H
      clear H
      have H := H1
      clear H1
      by_cases c8 : a0 < a1
      · rw [if_pos c8] at H
        have c8b0 : decide (a0 < a1) = true := decide_eq_true c8
        clear c8
        obtain rfl := Option.some.inj H
        go_enter Tryd.func51, Tryd.ntmps51
        go_wp2_with (first | ((with_reducible refine gate_callee (f := 75) rfl ?_); refine goesL_ (some 8) rfl rfl Tryd.func75 (by kernel_rfl) rfl #[.int .i64 a0] rfl (by (try simp only [List.map_toArray, List.map_cons, List.map_nil]); first | done | rfl | (simp only [List.length_drop, List.length_take]; rfl)) ?_; (with_reducible refine (api_ValueKind_75.calls a0 false _ A3.out).mono ?_); rintro e w' ⟨rfl, ⟨nd, rfl⟩⟩; refine ⟨_, rfl, ?_⟩) | ((with_reducible refine gate_callee (f := 75) rfl ?_); refine goesL_ (some 10) rfl rfl Tryd.func75 (by kernel_rfl) rfl #[.int .i64 a1] rfl (by (try simp only [List.map_toArray, List.map_cons, List.map_nil]); first | done | rfl | (simp only [List.length_drop, List.length_take]; rfl)) ?_; (with_reducible refine (api_ValueKind_75.calls a1 false _ A4.out).mono ?_); rintro e w' ⟨rfl, ⟨nd, rfl⟩⟩; refine ⟨_, rfl, ?_⟩))
        go_ret
        exact ⟨by first | rfl | (simp; done) | (simp [*]; done), by repeat (first | exact Drawn0.refl _ | apply Drawn0.step)⟩
      · rw [if_neg c8] at H
        have c8b0 : decide (a0 < a1) = false := decide_eq_false c8
        clear c8
        by_cases c9 : a0 > a1
        · rw [if_pos c9] at H
          have c9b0 : decide (a1 < a0) = true := decide_eq_true c9
          clear c9
          obtain rfl := Option.some.inj H
          go_enter Tryd.func51, Tryd.ntmps51
          go_wp2_with (first | ((with_reducible refine gate_callee (f := 75) rfl ?_); refine goesL_ (some 8) rfl rfl Tryd.func75 (by kernel_rfl) rfl #[.int .i64 a0] rfl (by (try simp only [List.map_toArray, List.map_cons, List.map_nil]); first | done | rfl | (simp only [List.length_drop, List.length_take]; rfl)) ?_; (with_reducible refine (api_ValueKind_75.calls a0 false _ A3.out).mono ?_); rintro e w' ⟨rfl, ⟨nd, rfl⟩⟩; refine ⟨_, rfl, ?_⟩) | ((with_reducible refine gate_callee (f := 75) rfl ?_); refine goesL_ (some 10) rfl rfl Tryd.func75 (by kernel_rfl) rfl #[.int .i64 a1] rfl (by (try simp only [List.map_toArray, List.map_cons, List.map_nil]); first | done | rfl | (simp only [List.length_drop, List.length_take]; rfl)) ?_; (with_reducible refine (api_ValueKind_75.calls a1 false _ A4.out).mono ?_); rintro e w' ⟨rfl, ⟨nd, rfl⟩⟩; refine ⟨_, rfl, ?_⟩))
          go_ret
          exact ⟨by first | rfl | (simp; done) | (simp [*]; done), by repeat (first | exact Drawn0.refl _ | apply Drawn0.step)⟩
        · rw [if_neg c9] at H
          have c9b0 : decide (a1 < a0) = false := decide_eq_false c9
          clear c9
          obtain rfl := Option.some.inj H
          go_enter Tryd.func51, Tryd.ntmps51
          go_wp2_with (first | ((with_reducible refine gate_callee (f := 75) rfl ?_); refine goesL_ (some 8) rfl rfl Tryd.func75 (by kernel_rfl) rfl #[.int .i64 a0] rfl (by (try simp only [List.map_toArray, List.map_cons, List.map_nil]); first | done | rfl | (simp only [List.length_drop, List.length_take]; rfl)) ?_; (with_reducible refine (api_ValueKind_75.calls a0 false _ A3.out).mono ?_); rintro e w' ⟨rfl, ⟨nd, rfl⟩⟩; refine ⟨_, rfl, ?_⟩) | ((with_reducible refine gate_callee (f := 75) rfl ?_); refine goesL_ (some 10) rfl rfl Tryd.func75 (by kernel_rfl) rfl #[.int .i64 a1] rfl (by (try simp only [List.map_toArray, List.map_cons, List.map_nil]); first | done | rfl | (simp only [List.length_drop, List.length_take]; rfl)) ?_; (with_reducible refine (api_ValueKind_75.calls a1 false _ A4.out).mono ?_); rintro e w' ⟨rfl, ⟨nd, rfl⟩⟩; refine ⟨_, rfl, ?_⟩))
          go_ret
          exact ⟨by first | rfl | (simp; done) | (simp [*]; done), by repeat (first | exact Drawn0.refl _ | apply Drawn0.step)⟩

end Go.Proofs.YtoieckmegdcaeaaDoor.G
end

section
namespace Go.Proofs.YtoieckmegdcaeaaDoor.G
open Go.RowKit Go.Proofs.YtoieckmegdcaeaaDoorW.PrintWords Go.Proofs.YtoieckmegdcaeaaDoorW.PrintLast Go.Proofs.YtoieckmegdcaeaaDoorW.PrintMore
attribute [local go_sem] max2_int min2_int max_two min_two max_three min_three max_four min_four   -- for this text's walks alone
set_option linter.unusedVariables false
set_option linter.unusedSimpArgs false

/-! ### cmp_Compare_int: function 52 -/
def cmp_Compare_int.f (a0 : Int) (a1 : Int) : Option (Int) := (cmp_isNaN_int.f a0).bind fun t371 => ((cmp_isNaN_int.f a1).bind fun t372 => (if t371 = true then (if t372 = true then (some 0) else (some (-1))) else (if t372 = true then (some 1) else (if a0 < a1 then (some (-1)) else (if a0 > a1 then (some 1) else (some 0))))))
set_option maxHeartbeats 8000000 in
set_option maxRecDepth 100000 in
theorem cmp_Compare_int.calls (a0 : Int) (a1 : Int) (r : Int) (w : World) (h : cmp_Compare_int.f a0 a1 = some r) :
    Calls Tryd.prog 52 #[.int .i64 a0, .int .i64 a1] w fun e w' => e = .returned (.int .i64 r) ∧ Drawn0 w w' := by
  have H : ((cmp_isNaN_int.f a0).bind fun t371 => ((cmp_isNaN_int.f a1).bind fun t372 => (if t371 = true then (if t372 = true then (some 0) else (some (-1))) else (if t372 = true then (some 1) else (if a0 < a1 then (some (-1)) else (if a0 > a1 then (some 1) else (some 0))))))) = some r := h
  clear h
  replace H := Option.bind_eq_some_iff.mp H
  obtain ⟨t371, A30, H⟩ := H
  replace H : ((cmp_isNaN_int.f a1).bind fun t372 => (if t371 = true then (if t372 = true then (some 0) else (some (-1))) else (if t372 = true then (some 1) else (if a0 < a1 then (some (-1)) else (if a0 > a1 then (some 1) else (some 0)))))) = some r := H
  have A3 := Aside0.mk A30
  clear A30
  replace H := Option.bind_eq_some_iff.mp H
  obtain ⟨t372, A40, H⟩ := H
  replace H : (if t371 = true then (if t372 = true then (some 0) else (some (-1))) else (if t372 = true then (some 1) else (if a0 < a1 then (some (-1)) else (if a0 > a1 then (some 1) else (some 0))))) = some r := H
  have A4 := Aside0.mk A40
  clear A40
  by_cases c5 : t371 = true
  · subst c5
    have H1 : (if t372 = true then (some 0) else (some (-1))) = some r := by rw [if_pos rfl] at H; exact H
    clear H
    have H := H1
    clear H1
    by_cases c6 : t372 = true
    · subst c6
      have H1 : (some 0) = some r := by rw [if_pos rfl] at H; exact H
      clear H
      have H := H1
      clear H1
      obtain rfl := Option.some.inj H
      go_enter Tryd.func52, Tryd.ntmps52
      go_wp2_with (first | ((with_reducible refine gate_callee (f := 76) rfl ?_); refine goesL_ (some 8) rfl rfl Tryd.func76 (by kernel_rfl) rfl #[.int .i64 a0] rfl (by (try simp only [List.map_toArray, List.map_cons, List.map_nil]); first | done | rfl | (simp only [List.length_drop, List.length_take]; rfl)) ?_; (with_reducible refine (cmp_isNaN_int.calls a0 true _ A3.out).mono ?_); rintro e w' ⟨rfl, ⟨nd, rfl⟩⟩; refine ⟨_, rfl, ?_⟩) | ((with_reducible refine gate_callee (f := 76) rfl ?_); refine goesL_ (some 10) rfl rfl Tryd.func76 (by kernel_rfl) rfl #[.int .i64 a1] rfl (by (try simp only [List.map_toArray, List.map_cons, List.map_nil]); first | done | rfl | (simp only [List.length_drop, List.length_take]; rfl)) ?_; (with_reducible refine (cmp_isNaN_int.calls a1 true _ A4.out).mono ?_); rintro e w' ⟨rfl, ⟨nd, rfl⟩⟩; refine ⟨_, rfl, ?_⟩))
      go_ret
      exact ⟨by first | rfl | (simp; done) | (simp [*]; done), by repeat (first | exact Drawn0.refl _ | apply Drawn0.step)⟩
    · replace c6 := Bool.eq_false_iff.mpr c6
      subst c6
      have H1 : (some (-1)) = some r := by rw [if_neg (show ¬ (false = true) by decide)] at H; exact H
      clear H
      have H := H1
      clear H1
      obtain rfl := Option.some.inj H
      go_enter Tryd.func52, Tryd.ntmps52
      go_wp2_with (first | ((with_reducible refine gate_callee (f := 76) rfl ?_); refine goesL_ (some 8) rfl rfl Tryd.func76 (by kernel_rfl) rfl #[.int .i64 a0] rfl (by (try simp only [List.map_toArray, List.map_cons, List.map_nil]); first | done | rfl | (simp only [List.length_drop, List.length_take]; rfl)) ?_; (with_reducible refine (cmp_isNaN_int.calls a0 true _ A3.out).mono ?_); rintro e w' ⟨rfl, ⟨nd, rfl⟩⟩; refine ⟨_, rfl, ?_⟩) | ((with_reducible refine gate_callee (f := 76) rfl ?_); refine goesL_ (some 10) rfl rfl Tryd.func76 (by kernel_rfl) rfl #[.int .i64 a1] rfl (by (try simp only [List.map_toArray, List.map_cons, List.map_nil]); first | done | rfl | (simp only [List.length_drop, List.length_take]; rfl)) ?_; (with_reducible refine (cmp_isNaN_int.calls a1 false _ A4.out).mono ?_); rintro e w' ⟨rfl, ⟨nd, rfl⟩⟩; refine ⟨_, rfl, ?_⟩))
      go_ret
      exact ⟨by first | rfl | (simp; done) | (simp [*]; done), by repeat (first | exact Drawn0.refl _ | apply Drawn0.step)⟩
  · replace c5 := Bool.eq_false_iff.mpr c5
    subst c5
    have H1 : (if t372 = true then (some 1) else (if a0 < a1 then (some (-1)) else (if a0 > a1 then (some 1) else (some 0)))) = some r := by rw [if_neg (show ¬ (false = true) by decide)] at H; exact H
    clear H
    have H := H1
    clear H1
    by_cases c7 : t372 = true
    · subst c7
      have H1 : (some 1) = some r := by rw [if_pos rfl] at H; exact H
      clear H
      have H := H1
      clear H1
      obtain rfl := Option.some.inj H
      go_enter Tryd.func52, Tryd.ntmps52
      go_wp2_with (first | ((with_reducible refine gate_callee (f := 76) rfl ?_); refine goesL_ (some 8) rfl rfl Tryd.func76 (by kernel_rfl) rfl #[.int .i64 a0] rfl (by (try simp only [List.map_toArray, List.map_cons, List.map_nil]); first | done | rfl | (simp only [List.length_drop, List.length_take]; rfl)) ?_; (with_reducible refine (cmp_isNaN_int.calls a0 false _ A3.out).mono ?_); rintro e w' ⟨rfl, ⟨nd, rfl⟩⟩; refine ⟨_, rfl, ?_⟩) | ((with_reducible refine gate_callee (f := 76) rfl ?_); refine goesL_ (some 10) rfl rfl Tryd.func76 (by kernel_rfl) rfl #[.int .i64 a1] rfl (by (try simp only [List.map_toArray, List.map_cons, List.map_nil]); first | done | rfl | (simp only [List.length_drop, List.length_take]; rfl)) ?_; (with_reducible refine (cmp_isNaN_int.calls a1 true _ A4.out).mono ?_); rintro e w' ⟨rfl, ⟨nd, rfl⟩⟩; refine ⟨_, rfl, ?_⟩))
      go_ret
      exact ⟨by first | rfl | (simp; done) | (simp [*]; done), by repeat (first | exact Drawn0.refl _ | apply Drawn0.step)⟩
    · replace c7 := Bool.eq_false_iff.mpr c7
      subst c7
      have H1 : (if a0 < a1 then (some (-1)) else (if a0 > a1 then (some 1) else (some 0))) = some r := by rw [if_neg (show ¬ (false = true) by decide)] at H; exact H
      clear H
      have H := H1
      clear H1
      by_cases c8 : a0 < a1
      · rw [if_pos c8] at H
        have c8b0 : decide (a0 < a1) = true := decide_eq_true c8
        clear c8
        obtain rfl := Option.some.inj H
        go_enter Tryd.func52, Tryd.ntmps52
        go_wp2_with (first | ((with_reducible refine gate_callee (f := 76) rfl ?_); refine goesL_ (some 8) rfl rfl Tryd.func76 (by kernel_rfl) rfl #[.int .i64 a0] rfl (by (try simp only [List.map_toArray, List.map_cons, List.map_nil]); first | done | rfl | (simp only [List.length_drop, List.length_take]; rfl)) ?_; (with_reducible refine (cmp_isNaN_int.calls a0 false _ A3.out).mono ?_); rintro e w' ⟨rfl, ⟨nd, rfl⟩⟩; refine ⟨_, rfl, ?_⟩) | ((with_reducible refine gate_callee (f := 76) rfl ?_); refine goesL_ (some 10) rfl rfl Tryd.func76 (by kernel_rfl) rfl #[.int .i64 a1] rfl (by (try simp only [List.map_toArray, List.map_cons, List.map_nil]); first | done | rfl | (simp only [List.length_drop, List.length_take]; rfl)) ?_; (with_reducible refine (cmp_isNaN_int.calls a1 false _ A4.out).mono ?_); rintro e w' ⟨rfl, ⟨nd, rfl⟩⟩; refine ⟨_, rfl, ?_⟩))
        go_ret
        exact ⟨by first | rfl | (simp; done) | (simp [*]; done), by repeat (first | exact Drawn0.refl _ | apply Drawn0.step)⟩
      · rw [if_neg c8] at H
        have c8b0 : decide (a0 < a1) = false := decide_eq_false c8
        clear c8
        by_cases c9 : a0 > a1
        · rw [if_pos c9] at H
          have c9b0 : decide (a1 < a0) = true := decide_eq_true c9
          clear c9
          obtain rfl := Option.some.inj H
          go_enter Tryd.func52, Tryd.ntmps52
          go_wp2_with (first | ((with_reducible refine gate_callee (f := 76) rfl ?_); refine goesL_ (some 8) rfl rfl Tryd.func76 (by kernel_rfl) rfl #[.int .i64 a0] rfl (by (try simp only [List.map_toArray, List.map_cons, List.map_nil]); first | done | rfl | (simp only [List.length_drop, List.length_take]; rfl)) ?_; (with_reducible refine (cmp_isNaN_int.calls a0 false _ A3.out).mono ?_); rintro e w' ⟨rfl, ⟨nd, rfl⟩⟩; refine ⟨_, rfl, ?_⟩) | ((with_reducible refine gate_callee (f := 76) rfl ?_); refine goesL_ (some 10) rfl rfl Tryd.func76 (by kernel_rfl) rfl #[.int .i64 a1] rfl (by (try simp only [List.map_toArray, List.map_cons, List.map_nil]); first | done | rfl | (simp only [List.length_drop, List.length_take]; rfl)) ?_; (with_reducible refine (cmp_isNaN_int.calls a1 false _ A4.out).mono ?_); rintro e w' ⟨rfl, ⟨nd, rfl⟩⟩; refine ⟨_, rfl, ?_⟩))
          go_ret
          exact ⟨by first | rfl | (simp; done) | (simp [*]; done), by repeat (first | exact Drawn0.refl _ | apply Drawn0.step)⟩
        · rw [if_neg c9] at H
          have c9b0 : decide (a1 < a0) = false := decide_eq_false c9
          clear c9
          obtain rfl := Option.some.inj H
          go_enter Tryd.func52, Tryd.ntmps52
          go_wp2_with (first | ((with_reducible refine gate_callee (f := 76) rfl ?_); refine goesL_ (some 8) rfl rfl Tryd.func76 (by kernel_rfl) rfl #[.int .i64 a0] rfl (by (try simp only [List.map_toArray, List.map_cons, List.map_nil]); first | done | rfl | (simp only [List.length_drop, List.length_take]; rfl)) ?_; (with_reducible refine (cmp_isNaN_int.calls a0 false _ A3.out).mono ?_); rintro e w' ⟨rfl, ⟨nd, rfl⟩⟩; refine ⟨_, rfl, ?_⟩) | ((with_reducible refine gate_callee (f := 76) rfl ?_); refine goesL_ (some 10) rfl rfl Tryd.func76 (by kernel_rfl) rfl #[.int .i64 a1] rfl (by (try simp only [List.map_toArray, List.map_cons, List.map_nil]); first | done | rfl | (simp only [List.length_drop, List.length_take]; rfl)) ?_; (with_reducible refine (cmp_isNaN_int.calls a1 false _ A4.out).mono ?_); rintro e w' ⟨rfl, ⟨nd, rfl⟩⟩; refine ⟨_, rfl, ?_⟩))
          go_ret
          exact ⟨by first | rfl | (simp; done) | (simp [*]; done), by repeat (first | exact Drawn0.refl _ | apply Drawn0.step)⟩

end Go.Proofs.YtoieckmegdcaeaaDoor.G
end
