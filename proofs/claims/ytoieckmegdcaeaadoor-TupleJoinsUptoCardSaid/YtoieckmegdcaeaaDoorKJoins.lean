-- Packed by a program of this session (pack.py) from texts of this claim.
import Derived.Test.YtoieckmegdcaeaaDoorP9
import Derived.Lib.Strings
import Derived.Test.YtoieckmegdcaeaaDoorP10a
import Derived.Test.YtoieckmegdcaeaaDoorP13
section
namespace Go.Proofs.YtoieckmegdcaeaaDoor.G
open Go.RowKit Go.Proofs.YtoieckmegdcaeaaDoorW.PrintWords Go.Proofs.YtoieckmegdcaeaaDoorW.PrintLast Go.Proofs.YtoieckmegdcaeaaDoorW.PrintMore
attribute [local go_sem] max2_int min2_int max_two min_two max_three min_three max_four min_four   -- for this text's walks alone
set_option linter.unusedVariables false
set_option linter.unusedSimpArgs false

/-! ### tidemarklaw25_TupleJoins: function 4 -/
def tidemarklaw25_TupleJoins.j0 : Nat → ByteArray → Int → ByteArray → Int → ByteArray → Int → Bool → Option (Bool)
  | 0, _, _, _, _, _, _, _ => none
  | k + 1, x3, x4, x5, x6, x7, x8, x46 => if x46 = true then (some false) else (if x4 = 0 then (if x6 = 0 then (if x8 = 0 then (if x3.size + x5.size ≤ 9223372036854775807 then (some (x7.toList == (x3 ++ x5).toList)) else (none)) else (some false)) else (if x8 = 1 then (some (x7.toList == ([] : List UInt8))) else (some false))) else (if x8 = 1 then (some (x7.toList == ([] : List UInt8))) else (some false)))
def tidemarklaw25_TupleJoins.f (k : Nat) (l0_0 : List (S36)) (l0_1 : List (S36)) : Option (Bool) := (tidemarklaw25_own.f k l0_0).bind fun t206 => ((tuple_Encode.f k t206).bind fun bt209 => ((tidemarklaw25_own.f k l0_1).bind fun t211 => ((tuple_Encode.f k t211).bind fun bt214 => ((tidemarklaw25_joined.f k l0_0 l0_1).bind fun t216 => ((tuple_Encode.f k t216).bind fun bt219 => ((tuple_Encode.f k (([(⟨0, false, 0, (⟨#[]⟩ : ByteArray)⟩ : S36)] : List (S36)))).bind fun bt224 => (if bt224.2 = 0 then (tidemarklaw25_TupleJoins.j0 k bt209.1 bt209.2 bt214.1 bt214.2 bt219.1 bt219.2 ((bt224.1.size : Int) != 1)) else (tidemarklaw25_TupleJoins.j0 k bt209.1 bt209.2 bt214.1 bt214.2 bt219.1 bt219.2 true))))))))
theorem tidemarklaw25_TupleJoins.mono_l : ∀ k, (∀ y0 y1 y2 y3 y4 y5 y6, LeO (tidemarklaw25_TupleJoins.j0 k y0 y1 y2 y3 y4 y5 y6) (tidemarklaw25_TupleJoins.j0 (k + 1) y0 y1 y2 y3 y4 y5 y6))
  | 0 => fun _ _ _ _ _ _ _ r h => by simp [tidemarklaw25_TupleJoins.j0] at h
  | k + 1 => by
    have ih0 := tidemarklaw25_TupleJoins.mono_l k
    · intro y0 y1 y2 y3 y4 y5 y6
      unfold tidemarklaw25_TupleJoins.j0
      repeat' first
      | (with_reducible exact ih0 _ _ _ _ _ _ _)
      | (with_reducible exact tidemarklaw25_joined.mono _ _ _)
      | (with_reducible exact tidemarklaw25_own.mono _ _)
      | (with_reducible exact tuple_Encode.mono _ _)
      | (with_reducible exact LeO.refl _)
      | (with_reducible exact LeO.none _)
      | (with_reducible refine LeO.ite ?_ ?_)
      | (with_reducible refine LeO.bind ?_ (fun _ => ?_))
      | exact ih0 _ _ _ _ _ _ _
      | exact tidemarklaw25_joined.mono _ _ _
      | exact tidemarklaw25_own.mono _ _
      | exact tuple_Encode.mono _ _
      | exact LeO.none _
      | refine LeO.ite ?_ ?_
      | refine LeO.bind ?_ (fun _ => ?_)
theorem tidemarklaw25_TupleJoins.mono : ∀ a0 a1 k, LeO (tidemarklaw25_TupleJoins.f k a0 a1) (tidemarklaw25_TupleJoins.f (k + 1) a0 a1) := by
  intro a0 a1 k
  have ih0 := tidemarklaw25_TupleJoins.mono_l k
  unfold tidemarklaw25_TupleJoins.f
  repeat' first
      | (with_reducible exact ih0 _ _ _ _ _ _ _)
      | (with_reducible exact tidemarklaw25_joined.mono _ _ _)
      | (with_reducible exact tidemarklaw25_own.mono _ _)
      | (with_reducible exact tuple_Encode.mono _ _)
      | (with_reducible exact LeO.refl _)
      | (with_reducible exact LeO.none _)
      | (with_reducible refine LeO.ite ?_ ?_)
      | (with_reducible refine LeO.bind ?_ (fun _ => ?_))
      | exact ih0 _ _ _ _ _ _ _
      | exact tidemarklaw25_joined.mono _ _ _
      | exact tidemarklaw25_own.mono _ _
      | exact tuple_Encode.mono _ _
      | exact LeO.none _
      | refine LeO.ite ?_ ?_
      | refine LeO.bind ?_ (fun _ => ?_)
set_option maxHeartbeats 8000000 in
set_option maxRecDepth 100000 in
theorem tidemarklaw25_TupleJoins.calls (k : Nat) (A0_0 : Option Addr) (c0_0 : Nat) (l0_0 : List (S36)) (A0_1 : Option Addr) (c0_1 : Nat) (l0_1 : List (S36)) (r : Bool) (w : World) (hr0_0 : Kd.C k36 w A0_0 l0_0.length l0_0) (hc0_0 : l0_0.length ≤ c0_0) (hr0_1 : Kd.C k36 w A0_1 l0_1.length l0_1) (hc0_1 : l0_1.length ≤ c0_1) (h : tidemarklaw25_TupleJoins.f k l0_0 l0_1 = some r) (tb : Tb w) (ht : r = true) :
    Calls Tryd.prog 4 #[.agg #[.slice A0_0 l0_0.length c0_0, .slice A0_1 l0_1.length c0_1]] w fun e w' => e = .returned (.bool r) ∧ Below w.heap.size w w' := by
  have HT0 := Aside0.mk ht
  clear ht
  have TB := Aside0.mk tb
  clear tb
  have hu32 := Tryd.underlying32
  have hu36 := Tryd.underlying36
  have HR0_0 := Aside0.mk hr0_0
  have HC0_0 := Aside0.mk hc0_0
  clear hr0_0 hc0_0
  have HR0_1 := Aside0.mk hr0_1
  have HC0_1 := Aside0.mk hc0_1
  clear hr0_1 hc0_1
  have HB := Aside0.mk (Below.refl w.heap.size w)
  have H : ((tidemarklaw25_own.f k l0_0).bind fun t206 => ((tuple_Encode.f k t206).bind fun bt209 => ((tidemarklaw25_own.f k l0_1).bind fun t211 => ((tuple_Encode.f k t211).bind fun bt214 => ((tidemarklaw25_joined.f k l0_0 l0_1).bind fun t216 => ((tuple_Encode.f k t216).bind fun bt219 => ((tuple_Encode.f k (([(⟨0, false, 0, (⟨#[]⟩ : ByteArray)⟩ : S36)] : List (S36)))).bind fun bt224 => (if bt224.2 = 0 then (tidemarklaw25_TupleJoins.j0 k bt209.1 bt209.2 bt214.1 bt214.2 bt219.1 bt219.2 ((bt224.1.size : Int) != 1)) else (tidemarklaw25_TupleJoins.j0 k bt209.1 bt209.2 bt214.1 bt214.2 bt219.1 bt219.2 true))))))))) = some r := h
  clear h
  replace H := Option.bind_eq_some_iff.mp H
  obtain ⟨t206, A20, H⟩ := H
  replace H : ((tuple_Encode.f k t206).bind fun bt209 => ((tidemarklaw25_own.f k l0_1).bind fun t211 => ((tuple_Encode.f k t211).bind fun bt214 => ((tidemarklaw25_joined.f k l0_0 l0_1).bind fun t216 => ((tuple_Encode.f k t216).bind fun bt219 => ((tuple_Encode.f k (([(⟨0, false, 0, (⟨#[]⟩ : ByteArray)⟩ : S36)] : List (S36)))).bind fun bt224 => (if bt224.2 = 0 then (tidemarklaw25_TupleJoins.j0 k bt209.1 bt209.2 bt214.1 bt214.2 bt219.1 bt219.2 ((bt224.1.size : Int) != 1)) else (tidemarklaw25_TupleJoins.j0 k bt209.1 bt209.2 bt214.1 bt214.2 bt219.1 bt219.2 true)))))))) = some r := H
  have A2 := Aside0.mk A20
  clear A20
  replace H := Option.bind_eq_some_iff.mp H
  obtain ⟨⟨t209, t210⟩, A30, H⟩ := H
  replace H : ((tidemarklaw25_own.f k l0_1).bind fun t211 => ((tuple_Encode.f k t211).bind fun bt214 => ((tidemarklaw25_joined.f k l0_0 l0_1).bind fun t216 => ((tuple_Encode.f k t216).bind fun bt219 => ((tuple_Encode.f k (([(⟨0, false, 0, (⟨#[]⟩ : ByteArray)⟩ : S36)] : List (S36)))).bind fun bt224 => (if bt224.2 = 0 then (tidemarklaw25_TupleJoins.j0 k t209 t210 bt214.1 bt214.2 bt219.1 bt219.2 ((bt224.1.size : Int) != 1)) else (tidemarklaw25_TupleJoins.j0 k t209 t210 bt214.1 bt214.2 bt219.1 bt219.2 true))))))) = some r := H
  have A3 := Aside0.mk A30
  clear A30
  replace H := Option.bind_eq_some_iff.mp H
  obtain ⟨t211, A40, H⟩ := H
  replace H : ((tuple_Encode.f k t211).bind fun bt214 => ((tidemarklaw25_joined.f k l0_0 l0_1).bind fun t216 => ((tuple_Encode.f k t216).bind fun bt219 => ((tuple_Encode.f k (([(⟨0, false, 0, (⟨#[]⟩ : ByteArray)⟩ : S36)] : List (S36)))).bind fun bt224 => (if bt224.2 = 0 then (tidemarklaw25_TupleJoins.j0 k t209 t210 bt214.1 bt214.2 bt219.1 bt219.2 ((bt224.1.size : Int) != 1)) else (tidemarklaw25_TupleJoins.j0 k t209 t210 bt214.1 bt214.2 bt219.1 bt219.2 true)))))) = some r := H
  have A4 := Aside0.mk A40
  clear A40
  replace H := Option.bind_eq_some_iff.mp H
  obtain ⟨⟨t214, t215⟩, A50, H⟩ := H
  replace H : ((tidemarklaw25_joined.f k l0_0 l0_1).bind fun t216 => ((tuple_Encode.f k t216).bind fun bt219 => ((tuple_Encode.f k (([(⟨0, false, 0, (⟨#[]⟩ : ByteArray)⟩ : S36)] : List (S36)))).bind fun bt224 => (if bt224.2 = 0 then (tidemarklaw25_TupleJoins.j0 k t209 t210 t214 t215 bt219.1 bt219.2 ((bt224.1.size : Int) != 1)) else (tidemarklaw25_TupleJoins.j0 k t209 t210 t214 t215 bt219.1 bt219.2 true))))) = some r := H
  have A5 := Aside0.mk A50
  clear A50
  replace H := Option.bind_eq_some_iff.mp H
  obtain ⟨t216, A60, H⟩ := H
  replace H : ((tuple_Encode.f k t216).bind fun bt219 => ((tuple_Encode.f k (([(⟨0, false, 0, (⟨#[]⟩ : ByteArray)⟩ : S36)] : List (S36)))).bind fun bt224 => (if bt224.2 = 0 then (tidemarklaw25_TupleJoins.j0 k t209 t210 t214 t215 bt219.1 bt219.2 ((bt224.1.size : Int) != 1)) else (tidemarklaw25_TupleJoins.j0 k t209 t210 t214 t215 bt219.1 bt219.2 true)))) = some r := H
  have A6 := Aside0.mk A60
  clear A60
  replace H := Option.bind_eq_some_iff.mp H
  obtain ⟨⟨t219, t220⟩, A70, H⟩ := H
  replace H : ((tuple_Encode.f k (([(⟨0, false, 0, (⟨#[]⟩ : ByteArray)⟩ : S36)] : List (S36)))).bind fun bt224 => (if bt224.2 = 0 then (tidemarklaw25_TupleJoins.j0 k t209 t210 t214 t215 t219 t220 ((bt224.1.size : Int) != 1)) else (tidemarklaw25_TupleJoins.j0 k t209 t210 t214 t215 t219 t220 true))) = some r := H
  have A7 := Aside0.mk A70
  clear A70
  obtain ⟨y221, hy221⟩ : ∃ y_ : List (S36), y_ = (([(⟨0, false, 0, (⟨#[]⟩ : ByteArray)⟩ : S36)] : List (S36))) := ⟨_, rfl⟩
  replace H : ((tuple_Encode.f k y221).bind fun bt224 => (if bt224.2 = 0 then (tidemarklaw25_TupleJoins.j0 k t209 t210 t214 t215 t219 t220 ((bt224.1.size : Int) != 1)) else (tidemarklaw25_TupleJoins.j0 k t209 t210 t214 t215 t219 t220 true))) = some r := by first | (rw [hy221]; with_reducible exact H) | (have H2_ := (Option.bind_some _ _).symm.trans H; rw [hy221]; with_reducible exact H2_) | (have H2_ := (Option.bind_some _ _).symm.trans H; with_reducible exact H2_) | with_reducible exact H | (rw [hy221]; exact H) | exact H
  have Ny221 := Aside0.mk hy221
  clear hy221
  replace H := Option.bind_eq_some_iff.mp H
  obtain ⟨⟨t224, t225⟩, A80, H⟩ := H
  replace H : (if t225 = 0 then (tidemarklaw25_TupleJoins.j0 k t209 t210 t214 t215 t219 t220 ((t224.size : Int) != 1)) else (tidemarklaw25_TupleJoins.j0 k t209 t210 t214 t215 t219 t220 true)) = some r := H
  have A8 := Aside0.mk A80
  clear A80
  have HC9 := Aside0.mk H
  clear H
  go_enter Tryd.func4, Tryd.ntmps4
  go_upto_region 5 with (first | ((with_reducible refine gate_dst (N := 1) rfl ?_); (try (refine gate_guard (by rfl) ?_; dsimp only)); refine box_event ?hg (N := 1) ?hd (cs := #[.slice A0_0 l0_0.length c0_0, .slice A0_1 l0_1.length c0_1]) (t := 32) ?hr ?_; (case hd => rfl); (case hg => rfl); (case hr => first | (go_simp; done) | (go_simp; rfl)); intro gb205 hg w10 hbox hb; have n0_ := Aside0.mk (below_step (by repeat (first | (with_reducible first | exact HB.out | apply below_alloc | apply pw_below_drewN | apply below_drew1) | exact HB.out)) hb); have n1_ := Aside0.mk (hbox); have n2_ := Aside0.mk ((by rw [hg]; exact (below_size (by repeat (first | (with_reducible first | exact HB.out | apply below_alloc | apply pw_below_drewN | apply below_drew1) | exact HB.out))) : w.heap.size ≤ gb205)); have n3_ := Aside0.mk ((by rw [hg]; exact (below_size (by repeat (first | (with_reducible first | exact HB.out | apply below_alloc | apply pw_below_drewN | apply below_drew1) | exact HB.out))) : w.heap.size ≤ gb205)); clear HB; have HB := n0_; have BK205 := n1_; have GW205 := n2_; have GE205 := n3_; clear n0_ n1_ n2_ n3_; clear hb hbox hg; have hcz11_0 : w10.cell? ⟨gb205, 0, none⟩ = some (.slice A0_0 l0_0.length c0_0) := (blk_cell BK205.out 0).trans rfl; have hcz11_1 : w10.cell? ⟨gb205, 1, none⟩ = some (.slice A0_1 l0_1.length c0_1) := (blk_cell BK205.out 1).trans rfl; have hfz11_0 := blk_frozen BK205.out 0; have hfz11_1 := blk_frozen BK205.out 1) | ((with_reducible refine gate_callee (f := 12) rfl ?_); refine goesL_ (some 14) rfl rfl Tryd.func12 (by kernel_rfl) rfl #[.slice A0_0 l0_0.length c0_0] rfl (by (try simp only [List.map_toArray, List.map_cons, List.map_nil]); first | done | rfl | (simp only [List.length_drop, List.length_take]; rfl)) ?_; (with_reducible refine (tidemarklaw25_own.calls k _ _ l0_0 t206 _ ?side1 ?side2 A2.out).mono ?_); (case side1 => repeat (first | exact (Kd.C_below HR0_0.out HB.out) | (with_reducible refine Kd.C_alloc ?_ _) | (with_reducible refine Kd.C_drewN ?_ _) | (with_reducible refine Kd.C_drew ?_))); (case side2 => exact HC0_0.out); rintro e w12 ⟨v207, rfl, ⟨u207, m207, hv207, hm207, hoF⟩, hb⟩; refine ⟨_, rfl, ?_⟩; have ho0 := R_preV hv207 hoF; clear hoF hv207 hm207; have n0_ := Aside0.mk (Kd.R_lower ho0 (below_size (by repeat (first | (with_reducible first | exact HB.out | apply below_alloc | apply pw_below_drewN | apply below_drew1 | refine below_set ?_ GE205.out) | exact HB.out)))); have n1_ := Aside0.mk (blk_below (g := gb205) (o := .cells #[.slice A0_0 l0_0.length c0_0, .slice A0_1 l0_1.length c0_1] 32 (0, 0)) (by (with_reducible repeat (first | refine blk_drewN ?_ _ | refine blk_drew ?_ | refine blk_alloc ?_ _)); exact BK205.out) hb); have n2_ := Aside0.mk (below_step (by repeat (first | (with_reducible first | exact HB.out | apply below_alloc | apply pw_below_drewN | apply below_drew1 | refine below_set ?_ GE205.out) | exact HB.out)) hb); clear BK205; clear HB; have HO208 := n0_; have BK205 := n1_; have HB := n2_; clear n0_ n1_ n2_; (try clear hb); (try clear hb2); (try clear hk); (try clear hi); (try clear ho0); obtain ⟨Ao13, co13, eo13⟩ := Kd.R_slice HO208.out; subst eo13) | ((with_reducible refine gate_callee (f := 14) rfl ?_); refine goesL_ (some 15) rfl rfl Tryd.func14 (by kernel_rfl) rfl #[.slice Ao13 t206.length co13] rfl (by (try simp only [List.map_toArray, List.map_cons, List.map_nil]); first | done | rfl | (simp only [List.length_drop, List.length_take]; rfl)) ?_; (with_reducible refine (tuple_Encode.calls k _ _ t206 t209 t210 _ ?side1 ?side2 A3.out (Tb.keep TB.out ?sideT)).mono ?_); (case side1 => repeat (first | exact (Kd.R_reads' HO208.out).2.2 | (with_reducible refine Kd.C_alloc ?_ _) | (with_reducible refine Kd.C_drewN ?_ _) | (with_reducible refine Kd.C_drew ?_))); (case side2 => exact (Kd.R_reads' HO208.out).2.1); (case sideT => repeat (first | (with_reducible first | exact HB.out | apply below_alloc | apply pw_below_drewN | apply below_drew1 | refine below_set ?_ GE205.out) | exact HB.out)); rintro e w14 ⟨rfl, hb⟩; refine ⟨_, rfl, ?_⟩; have n0_ := Aside0.mk (Kd.R_below (by (with_reducible repeat (first | apply Kd.R_alloc | apply Kd.R_drewN | apply Kd.R_drew)); exact HO208.out) hb); have n1_ := Aside0.mk (blk_below (g := gb205) (o := .cells #[.slice A0_0 l0_0.length c0_0, .slice A0_1 l0_1.length c0_1] 32 (0, 0)) (by (with_reducible repeat (first | refine blk_drewN ?_ _ | refine blk_drew ?_ | refine blk_alloc ?_ _)); exact BK205.out) hb); have n2_ := Aside0.mk (below_step (by repeat (first | (with_reducible first | exact HB.out | apply below_alloc | apply pw_below_drewN | apply below_drew1 | refine below_set ?_ GE205.out) | exact HB.out)) hb); clear HO208; clear BK205; clear HB; have HO208 := n0_; have BK205 := n1_; have HB := n2_; clear n0_ n1_ n2_; (try clear hb); (try clear hb2); (try clear hk); (try clear hi); have hcz15_0 : w14.cell? ⟨gb205, 0, none⟩ = some (.slice A0_0 l0_0.length c0_0) := (blk_cell BK205.out 0).trans rfl; have hcz15_1 : w14.cell? ⟨gb205, 1, none⟩ = some (.slice A0_1 l0_1.length c0_1) := (blk_cell BK205.out 1).trans rfl; have hfz15_0 := blk_frozen BK205.out 0; have hfz15_1 := blk_frozen BK205.out 1) | ((with_reducible refine gate_callee (f := 12) rfl ?_); refine goesL_ (some 21) rfl rfl Tryd.func12 (by kernel_rfl) rfl #[.slice A0_1 l0_1.length c0_1] rfl (by (try simp only [List.map_toArray, List.map_cons, List.map_nil]); first | done | rfl | (simp only [List.length_drop, List.length_take]; rfl)) ?_; (with_reducible refine (tidemarklaw25_own.calls k _ _ l0_1 t211 _ ?side1 ?side2 A4.out).mono ?_); (case side1 => repeat (first | exact (Kd.C_below HR0_1.out HB.out) | (with_reducible refine Kd.C_alloc ?_ _) | (with_reducible refine Kd.C_drewN ?_ _) | (with_reducible refine Kd.C_drew ?_))); (case side2 => exact HC0_1.out); rintro e w16 ⟨v212, rfl, ⟨u212, m212, hv212, hm212, hoF⟩, hb⟩; refine ⟨_, rfl, ?_⟩; have ho0 := R_preV hv212 hoF; clear hoF hv212 hm212; have n0_ := Aside0.mk (Kd.R_elder' (by (with_reducible repeat (first | apply Kd.R_alloc | apply Kd.R_drewN | apply Kd.R_drew)); exact HO208.out) (Kd.R_base ho0) hb); have n1_ := Aside0.mk (Kd.R_lower (Kd.R_new' ho0 (Kd.R_lt (by (with_reducible repeat (first | apply Kd.R_alloc | apply Kd.R_drewN | apply Kd.R_drew)); exact HO208.out))) (below_size (by repeat (first | (with_reducible first | exact HB.out | apply below_alloc | apply pw_below_drewN | apply below_drew1 | refine below_set ?_ GE205.out) | exact HB.out)))); have n2_ := Aside0.mk (blk_below (g := gb205) (o := .cells #[.slice A0_0 l0_0.length c0_0, .slice A0_1 l0_1.length c0_1] 32 (0, 0)) (by (with_reducible repeat (first | refine blk_drewN ?_ _ | refine blk_drew ?_ | refine blk_alloc ?_ _)); exact BK205.out) hb); have n3_ := Aside0.mk (below_step (by repeat (first | (with_reducible first | exact HB.out | apply below_alloc | apply pw_below_drewN | apply below_drew1 | refine below_set ?_ GE205.out) | exact HB.out)) hb); clear HO208; clear BK205; clear HB; have HO208 := n0_; have HO213 := n1_; have BK205 := n2_; have HB := n3_; clear n0_ n1_ n2_ n3_; (try clear hb); (try clear hb2); (try clear hk); (try clear hi); (try clear ho0); obtain ⟨Ao17, co17, eo17⟩ := Kd.R_slice HO213.out; subst eo17) | ((with_reducible refine gate_callee (f := 14) rfl ?_); refine goesL_ (some 22) rfl rfl Tryd.func14 (by kernel_rfl) rfl #[.slice Ao17 t211.length co17] rfl (by (try simp only [List.map_toArray, List.map_cons, List.map_nil]); first | done | rfl | (simp only [List.length_drop, List.length_take]; rfl)) ?_; (with_reducible refine (tuple_Encode.calls k _ _ t211 t214 t215 _ ?side1 ?side2 A5.out (Tb.keep TB.out ?sideT)).mono ?_); (case side1 => repeat (first | exact (Kd.R_reads' HO213.out).2.2 | (with_reducible refine Kd.C_alloc ?_ _) | (with_reducible refine Kd.C_drewN ?_ _) | (with_reducible refine Kd.C_drew ?_))); (case side2 => exact (Kd.R_reads' HO213.out).2.1); (case sideT => repeat (first | (with_reducible first | exact HB.out | apply below_alloc | apply pw_below_drewN | apply below_drew1 | refine below_set ?_ GE205.out) | exact HB.out)); rintro e w18 ⟨rfl, hb⟩; refine ⟨_, rfl, ?_⟩; have n0_ := Aside0.mk (Kd.R_below (by (with_reducible repeat (first | apply Kd.R_alloc | apply Kd.R_drewN | apply Kd.R_drew)); exact HO208.out) hb); have n1_ := Aside0.mk (Kd.R_below (by (with_reducible repeat (first | apply Kd.R_alloc | apply Kd.R_drewN | apply Kd.R_drew)); exact HO213.out) hb); have n2_ := Aside0.mk (blk_below (g := gb205) (o := .cells #[.slice A0_0 l0_0.length c0_0, .slice A0_1 l0_1.length c0_1] 32 (0, 0)) (by (with_reducible repeat (first | refine blk_drewN ?_ _ | refine blk_drew ?_ | refine blk_alloc ?_ _)); exact BK205.out) hb); have n3_ := Aside0.mk (below_step (by repeat (first | (with_reducible first | exact HB.out | apply below_alloc | apply pw_below_drewN | apply below_drew1 | refine below_set ?_ GE205.out) | exact HB.out)) hb); clear HO208; clear HO213; clear BK205; clear HB; have HO208 := n0_; have HO213 := n1_; have BK205 := n2_; have HB := n3_; clear n0_ n1_ n2_ n3_; (try clear hb); (try clear hb2); (try clear hk); (try clear hi); have hcz19_0 : w18.cell? ⟨gb205, 0, none⟩ = some (.slice A0_0 l0_0.length c0_0) := (blk_cell BK205.out 0).trans rfl; have hcz19_1 : w18.cell? ⟨gb205, 1, none⟩ = some (.slice A0_1 l0_1.length c0_1) := (blk_cell BK205.out 1).trans rfl; have hfz19_0 := blk_frozen BK205.out 0; have hfz19_1 := blk_frozen BK205.out 1) | ((with_reducible refine gate_callee (f := 19) rfl ?_); refine goesL_ (some 30) rfl rfl Tryd.func19 (by kernel_rfl) rfl #[.slice A0_0 l0_0.length c0_0, .slice A0_1 l0_1.length c0_1] rfl (by (try simp only [List.map_toArray, List.map_cons, List.map_nil]); first | done | rfl | (simp only [List.length_drop, List.length_take]; rfl)) ?_; (with_reducible refine (tidemarklaw25_joined.calls k _ _ l0_0 _ _ l0_1 t216 _ ?side1 ?side2 ?side3 ?side4 A6.out).mono ?_); (case side1 => repeat (first | exact (Kd.C_below HR0_0.out HB.out) | (with_reducible refine Kd.C_alloc ?_ _) | (with_reducible refine Kd.C_drewN ?_ _) | (with_reducible refine Kd.C_drew ?_))); (case side2 => exact HC0_0.out); (case side3 => repeat (first | exact (Kd.C_below HR0_1.out HB.out) | (with_reducible refine Kd.C_alloc ?_ _) | (with_reducible refine Kd.C_drewN ?_ _) | (with_reducible refine Kd.C_drew ?_))); (case side4 => exact HC0_1.out); rintro e w20 ⟨v217, rfl, ho0, hb⟩; refine ⟨_, rfl, ?_⟩; have n0_ := Aside0.mk (Kd.R_elder' (by (with_reducible repeat (first | apply Kd.R_alloc | apply Kd.R_drewN | apply Kd.R_drew)); exact HO208.out) (Kd.R_base ho0) hb); have n1_ := Aside0.mk (Kd.R_elder' (by (with_reducible repeat (first | apply Kd.R_alloc | apply Kd.R_drewN | apply Kd.R_drew)); exact HO213.out) (Kd.R_base ho0) hb); have n2_ := Aside0.mk (Kd.R_lower (Kd.R_new' (Kd.R_new' ho0 (Kd.R_lt (by (with_reducible repeat (first | apply Kd.R_alloc | apply Kd.R_drewN | apply Kd.R_drew)); exact HO208.out))) (Kd.R_lt (by (with_reducible repeat (first | apply Kd.R_alloc | apply Kd.R_drewN | apply Kd.R_drew)); exact HO213.out))) (below_size (by repeat (first | (with_reducible first | exact HB.out | apply below_alloc | apply pw_below_drewN | apply below_drew1 | refine below_set ?_ GE205.out) | exact HB.out)))); have n3_ := Aside0.mk (blk_below (g := gb205) (o := .cells #[.slice A0_0 l0_0.length c0_0, .slice A0_1 l0_1.length c0_1] 32 (0, 0)) (by (with_reducible repeat (first | refine blk_drewN ?_ _ | refine blk_drew ?_ | refine blk_alloc ?_ _)); exact BK205.out) hb); have n4_ := Aside0.mk (below_step (by repeat (first | (with_reducible first | exact HB.out | apply below_alloc | apply pw_below_drewN | apply below_drew1 | refine below_set ?_ GE205.out) | exact HB.out)) hb); clear HO208; clear HO213; clear BK205; clear HB; have HO208 := n0_; have HO213 := n1_; have HO218 := n2_; have BK205 := n3_; have HB := n4_; clear n0_ n1_ n2_ n3_ n4_; (try clear hb); (try clear hb2); (try clear hk); (try clear hi); (try clear ho0); obtain ⟨Ao21, co21, eo21⟩ := Kd.R_slice HO218.out; subst eo21) | ((with_reducible refine gate_callee (f := 14) rfl ?_); refine goesL_ (some 31) rfl rfl Tryd.func14 (by kernel_rfl) rfl #[.slice Ao21 t216.length co21] rfl (by (try simp only [List.map_toArray, List.map_cons, List.map_nil]); first | done | rfl | (simp only [List.length_drop, List.length_take]; rfl)) ?_; (with_reducible refine (tuple_Encode.calls k _ _ t216 t219 t220 _ ?side1 ?side2 A7.out (Tb.keep TB.out ?sideT)).mono ?_); (case side1 => repeat (first | exact (Kd.R_reads' HO218.out).2.2 | (with_reducible refine Kd.C_alloc ?_ _) | (with_reducible refine Kd.C_drewN ?_ _) | (with_reducible refine Kd.C_drew ?_))); (case side2 => exact (Kd.R_reads' HO218.out).2.1); (case sideT => repeat (first | (with_reducible first | exact HB.out | apply below_alloc | apply pw_below_drewN | apply below_drew1 | refine below_set ?_ GE205.out) | exact HB.out)); rintro e w22 ⟨rfl, hb⟩; refine ⟨_, rfl, ?_⟩; have n0_ := Aside0.mk (Kd.R_below (by (with_reducible repeat (first | apply Kd.R_alloc | apply Kd.R_drewN | apply Kd.R_drew)); exact HO208.out) hb); have n1_ := Aside0.mk (Kd.R_below (by (with_reducible repeat (first | apply Kd.R_alloc | apply Kd.R_drewN | apply Kd.R_drew)); exact HO213.out) hb); have n2_ := Aside0.mk (Kd.R_below (by (with_reducible repeat (first | apply Kd.R_alloc | apply Kd.R_drewN | apply Kd.R_drew)); exact HO218.out) hb); have n3_ := Aside0.mk (blk_below (g := gb205) (o := .cells #[.slice A0_0 l0_0.length c0_0, .slice A0_1 l0_1.length c0_1] 32 (0, 0)) (by (with_reducible repeat (first | refine blk_drewN ?_ _ | refine blk_drew ?_ | refine blk_alloc ?_ _)); exact BK205.out) hb); have n4_ := Aside0.mk (below_step (by repeat (first | (with_reducible first | exact HB.out | apply below_alloc | apply pw_below_drewN | apply below_drew1 | refine below_set ?_ GE205.out) | exact HB.out)) hb); clear HO208; clear HO213; clear HO218; clear BK205; clear HB; have HO208 := n0_; have HO213 := n1_; have HO218 := n2_; have BK205 := n3_; have HB := n4_; clear n0_ n1_ n2_ n3_ n4_; (try clear hb); (try clear hb2); (try clear hk); (try clear hi)) | ((with_reducible refine gate_dst (N := 36) rfl ?_); (try (refine gate_guard (by rfl) ?_; dsimp only)); refine Kd.R_lit k36 _ 36 ?hg (N := 36) ?hd (xs := ([(⟨0, false, 0, (⟨#[]⟩ : ByteArray)⟩ : S36)] : List (S36))) (inner := [.int .i64 0, .bool false, .int .i64 0, .string (⟨#[]⟩ : ByteArray)]) (ok := fun _ => True) (okp := fun _ => True) ?hr ?hp (fun _ hk => hk) trivial (Below.refl _ _) (Nat.le_refl _) (by simp) ?_; (case hd => rfl); (case hg => rfl); (case hr => first | (go_simp; done) | (go_simp; rfl)); (case hp => exact (Reps.c4 (show Kd.M k36 _ _ _ (⟨0, false, 0, (⟨#[]⟩ : ByteArray)⟩ : S36) [.int .i64 0, .bool false, .int .i64 0, .string (⟨#[]⟩ : ByteArray)] from (k36_mkM _ _ _ (⟨0, false, 0, (⟨#[]⟩ : ByteArray)⟩ : S36) )) (Reps.none _ _))); intro v222 w23 ho24 hb hg_ hnew_; clear hg_ hnew_; (first | rw [← Ny221.out] at ho24 | (simp only [Int.reduceToNat] at ho24; rw [← Ny221.out] at ho24)); have n0_ := Aside0.mk (Kd.R_elder' (by (with_reducible repeat (first | apply Kd.R_alloc | apply Kd.R_drewN | apply Kd.R_drew)); exact HO208.out) (Kd.R_base ho24) hb); have n1_ := Aside0.mk (Kd.R_elder' (by (with_reducible repeat (first | apply Kd.R_alloc | apply Kd.R_drewN | apply Kd.R_drew)); exact HO213.out) (Kd.R_base ho24) hb); have n2_ := Aside0.mk (Kd.R_elder' (by (with_reducible repeat (first | apply Kd.R_alloc | apply Kd.R_drewN | apply Kd.R_drew)); exact HO218.out) (Kd.R_base ho24) hb); have n3_ := Aside0.mk (Kd.R_lower (Kd.R_new' (Kd.R_new' (Kd.R_new' ho24 (Kd.R_lt (by (with_reducible repeat (first | apply Kd.R_alloc | apply Kd.R_drewN | apply Kd.R_drew)); exact HO208.out))) (Kd.R_lt (by (with_reducible repeat (first | apply Kd.R_alloc | apply Kd.R_drewN | apply Kd.R_drew)); exact HO213.out))) (Kd.R_lt (by (with_reducible repeat (first | apply Kd.R_alloc | apply Kd.R_drewN | apply Kd.R_drew)); exact HO218.out))) (below_size (by repeat (first | (with_reducible first | exact HB.out | apply below_alloc | apply pw_below_drewN | apply below_drew1 | refine below_set ?_ GE205.out) | exact HB.out)))); have n4_ := Aside0.mk (blk_below (g := gb205) (o := .cells #[.slice A0_0 l0_0.length c0_0, .slice A0_1 l0_1.length c0_1] 32 (0, 0)) (by (with_reducible repeat (first | refine blk_drewN ?_ _ | refine blk_drew ?_ | refine blk_alloc ?_ _)); exact BK205.out) hb); have n5_ := Aside0.mk (below_step (by repeat (first | (with_reducible first | exact HB.out | apply below_alloc | apply pw_below_drewN | apply below_drew1 | refine below_set ?_ GE205.out) | exact HB.out)) hb); clear HO208; clear HO213; clear HO218; clear BK205; clear HB; have HO208 := n0_; have HO213 := n1_; have HO218 := n2_; have HO223 := n3_; have BK205 := n4_; have HB := n5_; clear n0_ n1_ n2_ n3_ n4_ n5_; clear hb ho24; obtain ⟨Ao25, co25, eo25⟩ := Kd.R_slice HO223.out; subst eo25) | ((with_reducible refine gate_callee (f := 14) rfl ?_); refine goesL_ (some 37) rfl rfl Tryd.func14 (by kernel_rfl) rfl #[.slice Ao25 y221.length co25] rfl (by (try simp only [List.map_toArray, List.map_cons, List.map_nil]); first | done | rfl | (simp only [List.length_drop, List.length_take]; rfl)) ?_; (with_reducible refine (tuple_Encode.calls k _ _ y221 t224 t225 _ ?side1 ?side2 A8.out (Tb.keep TB.out ?sideT)).mono ?_); (case side1 => repeat (first | exact (Kd.R_reads' HO223.out).2.2 | (with_reducible refine Kd.C_alloc ?_ _) | (with_reducible refine Kd.C_drewN ?_ _) | (with_reducible refine Kd.C_drew ?_))); (case side2 => exact (Kd.R_reads' HO223.out).2.1); (case sideT => repeat (first | (with_reducible first | exact HB.out | apply below_alloc | apply pw_below_drewN | apply below_drew1 | refine below_set ?_ GE205.out) | exact HB.out)); rintro e w26 ⟨rfl, hb⟩; refine ⟨_, rfl, ?_⟩; have n0_ := Aside0.mk (Kd.R_below (by (with_reducible repeat (first | apply Kd.R_alloc | apply Kd.R_drewN | apply Kd.R_drew)); exact HO208.out) hb); have n1_ := Aside0.mk (Kd.R_below (by (with_reducible repeat (first | apply Kd.R_alloc | apply Kd.R_drewN | apply Kd.R_drew)); exact HO213.out) hb); have n2_ := Aside0.mk (Kd.R_below (by (with_reducible repeat (first | apply Kd.R_alloc | apply Kd.R_drewN | apply Kd.R_drew)); exact HO218.out) hb); have n3_ := Aside0.mk (Kd.R_below (by (with_reducible repeat (first | apply Kd.R_alloc | apply Kd.R_drewN | apply Kd.R_drew)); exact HO223.out) hb); have n4_ := Aside0.mk (blk_below (g := gb205) (o := .cells #[.slice A0_0 l0_0.length c0_0, .slice A0_1 l0_1.length c0_1] 32 (0, 0)) (by (with_reducible repeat (first | refine blk_drewN ?_ _ | refine blk_drew ?_ | refine blk_alloc ?_ _)); exact BK205.out) hb); have n5_ := Aside0.mk (below_step (by repeat (first | (with_reducible first | exact HB.out | apply below_alloc | apply pw_below_drewN | apply below_drew1 | refine below_set ?_ GE205.out) | exact HB.out)) hb); clear HO208; clear HO213; clear HO218; clear HO223; clear BK205; clear HB; have HO208 := n0_; have HO213 := n1_; have HO218 := n2_; have HO223 := n3_; have BK205 := n4_; have HB := n5_; clear n0_ n1_ n2_ n3_ n4_ n5_; (try clear hb); (try clear hb2); (try clear hk); (try clear hi)))
  (try simp only [Act.put, List.setIfInBounds_toArray, List.set_cons_zero, List.set_cons_succ])
  go_cut [46] (fun v46 wc => ∃ (kq : Nat) (x46_8 : Bool), v46 = .bool x46_8 ∧ Aside0 (tidemarklaw25_TupleJoins.j0 kq t209 t210 t214 t215 t219 t220 x46_8 = some r) ∧ Aside0 (kq ≤ k) ∧ Aside0 (wc.heap[gb205]? = some (.cells #[(.slice A0_0 l0_0.length c0_0), (.slice A0_1 l0_1.length c0_1)] 32 (0, 0))) ∧ Aside0 (Below w.heap.size w wc))
  case first =>
    have H := HC9.out
    clear HC9
    by_cases c27 : t225 = 0
    · rw [if_pos c27] at H
      have c27b0 : (t225 == 0) = true := beq_iff_eq.mpr c27
      have c27b1 : (t225 != 0) = false := bne_eq_false_iff_eq.mpr c27
      clear c27
      (first | rw [c27b0] | (simp only [i64_w, i32_w]; rw [c27b0]) | skip)
      have H' := Aside0.mk H
      clear H
      go_wp2
      go_meet
      case rel => exact ⟨_, (((t224.size : Int) != 1)), (by first | rfl | (simp; done) | (simp [*]; done)), H', ⟨by first | omega | exact Nat.le_refl _⟩, ⟨by (with_reducible repeat (first | refine blk_drewN ?_ _ | refine blk_drew ?_ | refine blk_alloc ?_ _)); exact BK205.out⟩, ⟨by repeat (first | (with_reducible first | exact HB.out | apply below_alloc | apply pw_below_drewN | apply below_drew1 | refine below_set ?_ GE205.out) | exact HB.out)⟩⟩
    · rw [if_neg c27] at H
      have c27b0 : (t225 == 0) = false := beq_eq_false_iff_ne.mpr c27
      have c27b1 : (t225 != 0) = true := bne_iff_ne.mpr c27
      (first | rw [c27b0] | (simp only [i64_w, i32_w]; rw [c27b0]) | skip)
      have H' := Aside0.mk H
      clear H
      go_wp2
      go_meet
      case rel => exact ⟨_, (true), (by first | rfl | (simp; done) | (simp [*]; done)), H', ⟨by first | omega | exact Nat.le_refl _⟩, ⟨by (with_reducible repeat (first | refine blk_drewN ?_ _ | refine blk_drew ?_ | refine blk_alloc ?_ _)); exact BK205.out⟩, ⟨by repeat (first | (with_reducible first | exact HB.out | apply below_alloc | apply pw_below_drewN | apply below_drew1 | refine below_set ?_ GE205.out) | exact HB.out)⟩⟩
  case rest =>
    clear HC9
    try clear c1
    try clear c2
    try clear p2
    try clear c4
    try clear c12
    try clear c14
    try clear c19
    try clear c27
    try clear c27b0
    try clear c27b1
    try clear hcz11_0
    try clear hcz11_1
    try clear hcz15_0
    try clear hcz15_1
    try clear hcz19_0
    try clear hcz19_1
    try clear hfz11_0
    try clear hfz11_1
    try clear hfz15_0
    try clear hfz15_1
    try clear hfz19_0
    try clear hfz19_1
    obtain ⟨kq, x46_8, rfl, HA, HJ8, BK205, HB⟩ := hcut
    cases kq with
    | zero => exact absurd HA.out (by simp [tidemarklaw25_TupleJoins.j0])
    | succ kj8 =>
      have H := HA.out
      clear HA
      simp only [tidemarklaw25_TupleJoins.j0] at H
      by_cases c28 : x46_8 = true
      · subst c28
        have H1 : (some false) = some r := by rw [if_pos rfl] at H; exact H
        clear H
        have H := H1
        clear H1
        exact absurd ((Option.some.inj H).trans HT0.out) (by decide)
      · replace c28 := Bool.eq_false_iff.mpr c28
        subst c28
        have H1 : (if t210 = 0 then (if t215 = 0 then (if t220 = 0 then (if t209.size + t214.size ≤ 9223372036854775807 then (some (t219.toList == (t209 ++ t214).toList)) else (none)) else (some false)) else (if t220 = 1 then (some (t219.toList == ([] : List UInt8))) else (some false))) else (if t220 = 1 then (some (t219.toList == ([] : List UInt8))) else (some false))) = some r := by rw [if_neg (show ¬ (false = true) by decide)] at H; exact H
        clear H
        have H := H1
        clear H1
        by_cases c29 : t210 = 0
        · rw [if_pos c29] at H
          have c29b0 : (t210 == 0) = true := beq_iff_eq.mpr c29
          have c29b1 : (t210 != 0) = false := bne_eq_false_iff_eq.mpr c29
          clear c29
          by_cases c30 : t215 = 0
          · rw [if_pos c30] at H
            have c30b0 : (t215 == 0) = true := beq_iff_eq.mpr c30
            have c30b1 : (t215 != 0) = false := bne_eq_false_iff_eq.mpr c30
            clear c30
            by_cases c31 : t220 = 0
            · rw [if_pos c31] at H
              have c31b0 : (t220 == 0) = true := beq_iff_eq.mpr c31
              have c31b1 : (t220 != 0) = false := bne_eq_false_iff_eq.mpr c31
              clear c31
              by_cases c32 : t209.size + t214.size ≤ 9223372036854775807
              · rw [if_pos c32] at H
                have c32b0 := eq_true c32
                have c32b1 : decide (t209.size + t214.size ≤ 9223372036854775807) = true := decide_eq_true c32
                try have c32b2 : (9223372036854775807 < t209.size + t214.size) = False := eq_false (Nat.not_lt.2 c32)
                obtain rfl := Option.some.inj H
                go_wp2
                go_ret
                exact ⟨by first | rfl | (simp [errW_none, errW_some] <;> rfl) | (simp [*, errW_none, errW_some] <;> rfl), by repeat (first | (with_reducible first | exact HB.out | apply below_alloc | apply pw_below_drewN | apply below_drew1 | refine below_set ?_ GE205.out) | exact HB.out)⟩
              · rw [if_neg c32] at H
                exact absurd H (by simp)
            · rw [if_neg c31] at H
              have c31b0 : (t220 == 0) = false := beq_eq_false_iff_ne.mpr c31
              have c31b1 : (t220 != 0) = true := bne_iff_ne.mpr c31
              exact absurd ((Option.some.inj H).trans HT0.out) (by decide)
          · rw [if_neg c30] at H
            have c30b0 : (t215 == 0) = false := beq_eq_false_iff_ne.mpr c30
            have c30b1 : (t215 != 0) = true := bne_iff_ne.mpr c30
            by_cases c33 : t220 = 1
            · rw [if_pos c33] at H
              have c33b0 : (t220 == 1) = true := beq_iff_eq.mpr c33
              have c33b1 : (t220 != 1) = false := bne_eq_false_iff_eq.mpr c33
              clear c33
              obtain rfl := Option.some.inj H
              go_wp2
              go_ret
              exact ⟨by first | rfl | (simp [errW_none, errW_some] <;> rfl) | (simp [*, errW_none, errW_some] <;> rfl), by repeat (first | (with_reducible first | exact HB.out | apply below_alloc | apply pw_below_drewN | apply below_drew1 | refine below_set ?_ GE205.out) | exact HB.out)⟩
            · rw [if_neg c33] at H
              have c33b0 : (t220 == 1) = false := beq_eq_false_iff_ne.mpr c33
              have c33b1 : (t220 != 1) = true := bne_iff_ne.mpr c33
              exact absurd ((Option.some.inj H).trans HT0.out) (by decide)
        · rw [if_neg c29] at H
          have c29b0 : (t210 == 0) = false := beq_eq_false_iff_ne.mpr c29
          have c29b1 : (t210 != 0) = true := bne_iff_ne.mpr c29
          by_cases c34 : t220 = 1
          · rw [if_pos c34] at H
            have c34b0 : (t220 == 1) = true := beq_iff_eq.mpr c34
            have c34b1 : (t220 != 1) = false := bne_eq_false_iff_eq.mpr c34
            clear c34
            obtain rfl := Option.some.inj H
            go_wp2
            go_ret
            exact ⟨by first | rfl | (simp [errW_none, errW_some] <;> rfl) | (simp [*, errW_none, errW_some] <;> rfl), by repeat (first | (with_reducible first | exact HB.out | apply below_alloc | apply pw_below_drewN | apply below_drew1 | refine below_set ?_ GE205.out) | exact HB.out)⟩
          · rw [if_neg c34] at H
            have c34b0 : (t220 == 1) = false := beq_eq_false_iff_ne.mpr c34
            have c34b1 : (t220 != 1) = true := bne_iff_ne.mpr c34
            exact absurd ((Option.some.inj H).trans HT0.out) (by decide)
end Go.Proofs.YtoieckmegdcaeaaDoor.G
end
