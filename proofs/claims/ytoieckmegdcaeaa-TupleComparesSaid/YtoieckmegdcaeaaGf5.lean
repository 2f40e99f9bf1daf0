-- Laid by a program of this session (printx.py) over the kit's printer; Lean checks it.
import Derived.Test.YtoieckmegdcaeaaG0
import Derived.Test.YtoieckmegdcaeaaGMark
import Derived.Lib.Strings
namespace Go.Proofs.Ytoieckmegdcaeaa.G
open Go.RowKit Go.Proofs.YtoieckmegdcaeaaW.PrintWords Go.Proofs.YtoieckmegdcaeaaW.PrintLast Go.Proofs.YtoieckmegdcaeaaW.PrintMore
attribute [local go_sem] max2_int min2_int max_two min_two max_three min_three max_four min_four   -- for this text's walks alone
set_option linter.unusedVariables false
set_option linter.unusedSimpArgs false

/-! ### tidemarklaw25_own: function 5 -/
def tidemarklaw25_own.l0 : Nat → List (S29) → List (S29) → Int → Option ((List (S29)))
  | 0, _, _, _ => none
  | k + 1, x0, x3, x4 => if x4 < (x0.length : Int) then (if 0 ≤ x4 then (if x4 < (x3.length : Int) then (tidemarklaw25_own.l0 k x0 (x3.set (x4 : Int).toNat (⟨(rd_T29 x0 x4).f0, (rd_T29 x0 x4).f1, (rd_T29 x0 x4).f2, (rd_T29 x0 x4).f3⟩ : S29)) (wrap64 (x4 + 1))) else (none)) else (none)) else (if 0 ≤ (x0.length : Int) then (if (x0.length : Int) < (x3.length : Int) then (if (x0.length : Int) ≤ (x3.length : Int) then (some ((x3.set ((x0.length : Int) : Int).toNat (⟨77, false, 0, (⟨#[109, 97, 114, 107]⟩ : ByteArray)⟩ : S29)).take ((x0.length : Int) : Int).toNat)) else (none)) else (none)) else (none))
def tidemarklaw25_own.f (k : Nat) (l0 : List (S29)) : Option ((List (S29))) := if 0 ≤ (wrap64 ((l0.length : Int) + 1)) then (if (wrap64 ((l0.length : Int) + 1) : Int).toNat ≤ 7036874417766 then (tidemarklaw25_own.l0 k l0 (List.replicate (wrap64 ((l0.length : Int) + 1) : Int).toNat z29) 0) else (none)) else (none)
theorem tidemarklaw25_own.mono_l : ∀ k, (∀ y0 y1 y2, LeO (tidemarklaw25_own.l0 k y0 y1 y2) (tidemarklaw25_own.l0 (k + 1) y0 y1 y2))
  | 0 => fun _ _ _ r h => by simp [tidemarklaw25_own.l0] at h
  | k + 1 => by
    have ih0 := tidemarklaw25_own.mono_l k
    · intro y0 y1 y2
      unfold tidemarklaw25_own.l0
      repeat' first
      | (with_reducible exact ih0 _ _ _)
      | (with_reducible exact LeO.refl _)
      | (with_reducible exact LeO.none _)
      | (with_reducible refine LeO.ite ?_ ?_)
      | (with_reducible refine LeO.bind ?_ (fun _ => ?_))
      | exact ih0 _ _ _
      | exact LeO.none _
      | refine LeO.ite ?_ ?_
      | refine LeO.bind ?_ (fun _ => ?_)
theorem tidemarklaw25_own.mono : ∀ a0 k, LeO (tidemarklaw25_own.f k a0) (tidemarklaw25_own.f (k + 1) a0) := by
  intro a0 k
  have ih0 := tidemarklaw25_own.mono_l k
  unfold tidemarklaw25_own.f
  repeat' first
      | (with_reducible exact ih0 _ _ _)
      | (with_reducible exact LeO.refl _)
      | (with_reducible exact LeO.none _)
      | (with_reducible refine LeO.ite ?_ ?_)
      | (with_reducible refine LeO.bind ?_ (fun _ => ?_))
      | exact ih0 _ _ _
      | exact LeO.none _
      | refine LeO.ite ?_ ?_
      | refine LeO.bind ?_ (fun _ => ?_)
set_option maxHeartbeats 8000000 in
set_option maxRecDepth 100000 in
theorem tidemarklaw25_own.calls (k : Nat) (A0 : Option Addr) (c0 : Nat) (l0 : List (S29)) (r : List (S29)) (w : World) (hr0 : Kd.C k29 w A0 l0.length l0) (hc0 : l0.length ≤ c0) (h : tidemarklaw25_own.f k l0 = some r) :
    Calls Try.prog 5 #[.slice A0 l0.length c0] w fun e w' => ∃ v0_ : Value, e = .returned (v0_) ∧ Told k29 29 (⟨77, false, 0, (⟨#[109, 97, 114, 107]⟩ : ByteArray)⟩ : S29) w w' v0_ r ∧ Below w.heap.size w w' := by
  have hu29 := Try.underlying29
  have HR0 := Aside0.mk hr0
  have HC0 := Aside0.mk hc0
  clear hr0 hc0
  have HB := Aside0.mk (Below.refl w.heap.size w)
  have H : (if 0 ≤ (wrap64 ((l0.length : Int) + 1)) then (if (wrap64 ((l0.length : Int) + 1) : Int).toNat ≤ 7036874417766 then (tidemarklaw25_own.l0 k l0 (List.replicate (wrap64 ((l0.length : Int) + 1) : Int).toNat z29) 0) else (none)) else (none)) = some r := h
  clear h
  obtain ⟨ji2, hji2⟩ : ∃ j_ : Int, (wrap64 ((l0.length : Int) + 1)) = j_ := ⟨_, rfl⟩
  replace H : (if 0 ≤ (ji2) then (if (ji2 : Int).toNat ≤ 7036874417766 then (tidemarklaw25_own.l0 k l0 (List.replicate (ji2 : Int).toNat z29) 0) else (none)) else (none)) = some r := by first | (rw [hji2] at H; exact H) | (simp only [hji2] at H ⊢; exact H)
  have hji2w : (IntKind.i64.wrap ((l0.length : Int) + 1)) = ji2 := (i64_w _).trans hji2
  by_cases c3 : 0 ≤ (ji2)
  · rw [if_pos c3] at H
    have c3b0 := eq_true c3
    have c3b1 : decide (0 ≤ (ji2)) = true := decide_eq_true c3
    clear c3
    by_cases c4 : (ji2 : Int).toNat ≤ 7036874417766
    · rw [if_pos c4] at H
      have c4b0 := eq_true c4
      have c4b1 : decide ((ji2 : Int).toNat ≤ 7036874417766) = true := decide_eq_true c4
      clear c4
      obtain ⟨y101, hy101⟩ : ∃ y_ : List (S29), y_ = (List.replicate (ji2 : Int).toNat z29) := ⟨_, rfl⟩
      replace H : (tidemarklaw25_own.l0 k l0 y101 0) = some r := by first | (rw [hy101]; with_reducible exact H) | (have H2_ := (Option.bind_some _ _).symm.trans H; rw [hy101]; with_reducible exact H2_) | (have H2_ := (Option.bind_some _ _).symm.trans H; with_reducible exact H2_) | with_reducible exact H | (rw [hy101]; exact H) | exact H
      have Ny101 := Aside0.mk hy101
      clear hy101
      have H' := Aside0.mk H
      clear H
      go_enter Try.func5, Try.ntmps5
      go_wp2_with (first | ((with_reducible refine gate_dst (N := 8) rfl ?_); refine Kd.R_make k29 _ 29 rfl (N := 8) rfl 22 _ _ rfl ji2 rfl rfl Try.underlying22 (.agg #[(.int .i64 0), (.bool false), (.int .i64 0), (.string ⟨#[]⟩)]) 40 info29 rfl (by decide) (by omega) z29 (ok := fun _ => True) (okp := fun _ => True) (k29_mkM _ _ _ z29 ) (fun _ hk => hk) trivial (of_decide_eq_true (by first | (with_reducible assumption) | assumption)) (Nat.le_trans (Nat.mul_le_mul_right _ (of_decide_eq_true (by first | (with_reducible assumption) | assumption) : ji2.toNat ≤ 7036874417766)) (by omega)) (Below.refl _ _) (Nat.le_refl _) ?_; intro v102 w5 ho6 hb hg_ hnew_; clear hg_ hnew_; (first | rw [← Ny101.out] at ho6 | (simp only [Int.reduceToNat] at ho6; rw [← Ny101.out] at ho6)); have n0_ := Aside0.mk (Kd.R_lower ho6 (below_size (by repeat (first | (with_reducible first | exact HB.out | apply below_alloc | apply pw_below_drewN | apply below_drew1) | exact HB.out)))); have n1_ := Aside0.mk (below_step (by repeat (first | (with_reducible first | exact HB.out | apply below_alloc | apply pw_below_drewN | apply below_drew1) | exact HB.out)) hb); clear HB; have HO103 := n0_; have HB := n1_; clear n0_ n1_; clear hb ho6))
      go_loopg [4] k (fun kq v4 w' => ∃ (x3_1 : List (S29)) (x4_1 : Int), v4 = .int .i64 x4_1 ∧ Aside0 (tidemarklaw25_own.l0 kq l0 x3_1 x4_1 = some r) ∧ Aside0 (kq ≤ k) ∧ Aside0 (Kd.R k29 29 w' w.heap.size (fun _ => True) v102 x3_1) ∧ Aside0 (Below w.heap.size w w'))
      case atStart => exact ⟨(y101), (0), (by first | rfl | (simp; done) | (simp [*]; done)), H', ⟨Nat.le_refl _⟩, ⟨by (with_reducible repeat (first | apply Kd.R_alloc | apply Kd.R_drewN | apply Kd.R_drew)); exact HO103.out⟩, ⟨by repeat (first | (with_reducible first | exact HB.out | apply below_alloc | apply pw_below_drewN | apply below_drew1) | exact HB.out)⟩⟩
      case round =>
        clear H'
        try clear p2
        try clear c3
        try clear c3b0
        try clear c3b1
        try clear c4
        try clear c4b0
        try clear c4b1
        try clear c5
        try clear p6
        obtain ⟨x3_1, x4_1, rfl, HA, HK1, HO_3, HB⟩ := hrel
        cases gk with
        | zero => exact absurd HA.out (by simp [tidemarklaw25_own.l0])
        | succ k1 =>
          have H := HA.out
          clear HA
          simp only [tidemarklaw25_own.l0] at H
          by_cases c7 : x4_1 < (l0.length : Int)
          · rw [if_pos c7] at H
            have c7b0 : decide (x4_1 < (l0.length : Int)) = true := decide_eq_true c7
            clear c7
            by_cases c8 : 0 ≤ x4_1
            · rw [if_pos c8] at H
              have c8b0 : decide (0 ≤ x4_1) = true := decide_eq_true c8
              clear c8
              by_cases c9 : x4_1 < (x3_1.length : Int)
              · rw [if_pos c9] at H
                have c9b0 : decide (x4_1 < (x3_1.length : Int)) = true := decide_eq_true c9
                clear c9
                obtain ⟨y105, hy105⟩ : ∃ y_ : List (S29), y_ = (x3_1.set (x4_1 : Int).toNat (⟨(rd_T29 l0 x4_1).f0, (rd_T29 l0 x4_1).f1, (rd_T29 l0 x4_1).f2, (rd_T29 l0 x4_1).f3⟩ : S29)) := ⟨_, rfl⟩
                replace H : (tidemarklaw25_own.l0 k1 l0 y105 (wrap64 (x4_1 + 1))) = some r := by first | (rw [hy105]; with_reducible exact H) | (have H2_ := (Option.bind_some _ _).symm.trans H; rw [hy105]; with_reducible exact H2_) | (have H2_ := (Option.bind_some _ _).symm.trans H; with_reducible exact H2_) | with_reducible exact H | (rw [hy105]; exact H) | exact H
                have Ny105 := Aside0.mk hy105
                clear hy105
                have H' := Aside0.mk H
                clear H
                have p104 : 0 ≤ (x4_1 : Int) := of_decide_eq_true (by first | (with_reducible assumption) | assumption)
                have q104 : x4_1 < (l0.length : Int) := of_decide_eq_true (by first | (with_reducible assumption) | assumption)
                obtain ⟨ad104, e104, hx104_0, hx104_1, hx104_2, hx104_3⟩ := at_T29 HR0.out x4_1 p104 q104
                cases e104
                replace hx104_0 := (HB.out.cell (World.block_lt_of_cell? w _ hx104_0)).trans hx104_0
                replace hx104_1 := (HB.out.cell (World.block_lt_of_cell? w _ hx104_1)).trans hx104_1
                replace hx104_2 := (HB.out.cell (World.block_lt_of_cell? w _ hx104_2)).trans hx104_2
                replace hx104_3 := (HB.out.cell (World.block_lt_of_cell? w _ hx104_3)).trans hx104_3
                replace p104 := eq_true p104
                replace q104 := eq_true q104
                have p10 : 0 ≤ (x4_1 : Int) := of_decide_eq_true (by first | (with_reducible assumption) | assumption)
                have q10 : (x4_1 : Int) < ((x3_1.length : Int) : Int) := of_decide_eq_true (by first | (with_reducible assumption) | assumption)
                obtain ⟨go10, co10, eo10, gb10, gl10, cl10, HG10⟩ := Kd.R_form HO_3.out (by omega)
                (first | cases eo10 | (injection eo10 with ea_ en_ ec_; (first | subst ea_ | (injection ea_ with ea_; subst ea_)); subst ec_; clear en_))
                have GB10 := Aside0.mk gb10
                have GG10 := Aside0.mk HG10
                clear gb10 gl10 HG10
                obtain ⟨ce10, hcl10, hM10, hcc10, hfr10⟩ := Kd.R_elem HO_3.out z29 (x4_1 : Int) p10 q10
                obtain rfl := k29_openM hM10
                have hx10_0 : wr.cell? ⟨go10, (x4_1 : Int).toNat * 4, none⟩ = some (.int .i64 ((rd_T29 x3_1 x4_1).f0)) := hcc10 0 _ rfl
                have hx10_1 : wr.cell? ⟨go10, (x4_1 : Int).toNat * 4 + 1, none⟩ = some (.bool ((rd_T29 x3_1 x4_1).f1)) := hcc10 1 _ rfl
                have hx10_2 : wr.cell? ⟨go10, (x4_1 : Int).toNat * 4 + 2, none⟩ = some (.int .i64 ((rd_T29 x3_1 x4_1).f2)) := hcc10 2 _ rfl
                have hx10_3 : wr.cell? ⟨go10, (x4_1 : Int).toNat * 4 + 3, none⟩ = some (.string ((rd_T29 x3_1 x4_1).f3)) := hcc10 3 _ rfl
                have hf10_0 : wr.frozen? ⟨go10, (x4_1 : Int).toNat * 4, none⟩ = false := hfr10 0
                have hf10_1 : wr.frozen? ⟨go10, (x4_1 : Int).toNat * 4 + 1, none⟩ = false := hfr10 1
                have hf10_2 : wr.frozen? ⟨go10, (x4_1 : Int).toNat * 4 + 2, none⟩ = false := hfr10 2
                have hf10_3 : wr.frozen? ⟨go10, (x4_1 : Int).toNat * 4 + 3, none⟩ = false := hfr10 3
                clear hcl10 hcc10 hfr10 hM10
                replace p10 := eq_true p10
                replace q10 := eq_true q10
                have HX11 := Aside0.mk (show Kd.R k29 29 wr w.heap.size (fun _ => True) (.slice (some ⟨go10, 0, none⟩) x3_1.length co10) x3_1 from (by (with_reducible repeat (first | apply Kd.R_alloc | apply Kd.R_drewN | apply Kd.R_drew)); exact HO_3.out))
                obtain ⟨ce11, hcl11, hM11, hcc11, hfr11⟩ := Kd.R_elem HX11.out z29 (x4_1 : Int) (of_decide_eq_true (by first | (with_reducible assumption) | assumption)) (by have h_ : (x4_1 : Int) < ((x3_1.length : Int) : Int) := of_decide_eq_true (by first | (with_reducible assumption) | assumption); first | exact h_ | (have e_ := (Kd.R_reads' HO_3.out).1; omega) | simpa using h_)
                obtain rfl := k29_openM hM11
                have HP11 := Kd.R_seg HX11.out (x4_1 : Int) (of_decide_eq_true (by first | (with_reducible assumption) | assumption)) (by have h_ : (x4_1 : Int) < ((x3_1.length : Int) : Int) := of_decide_eq_true (by first | (with_reducible assumption) | assumption); first | exact h_ | (have e_ := (Kd.R_reads' HO_3.out).1; omega) | simpa using h_) (seg := [.int .i64 ((rd_T29 l0 x4_1).f0), .bool ((rd_T29 l0 x4_1).f1), .int .i64 ((rd_T29 l0 x4_1).f2), .string ((rd_T29 l0 x4_1).f3)]) (j := 0) hcl11 hcc11 (show 4 ≤ 4 from by decide) (x' := (⟨(rd_T29 l0 x4_1).f0, (rd_T29 l0 x4_1).f1, (rd_T29 l0 x4_1).f2, (rd_T29 l0 x4_1).f3⟩ : S29)) (k29_mkM _ _ _ (⟨(rd_T29 l0 x4_1).f0, (rd_T29 l0 x4_1).f1, (rd_T29 l0 x4_1).f2, (rd_T29 l0 x4_1).f3⟩ : S29) ) (fun _ hk => hk)
                have hx11_0 := hcc11 0 _ rfl
                (try simp only [show (k29).sz = 4 from rfl, Nat.mul_one, Nat.add_zero, Int.toNat_natCast] at hx11_0)
                have hf11_0 := hfr11 0
                (try simp only [show (k29).sz = 4 from rfl, Nat.mul_one, Nat.add_zero, Int.toNat_natCast] at hf11_0)
                have hx11_1 := hcc11 1 _ rfl
                (try simp only [show (k29).sz = 4 from rfl, Nat.mul_one, Nat.add_zero, Int.toNat_natCast] at hx11_1)
                have hf11_1 := hfr11 1
                (try simp only [show (k29).sz = 4 from rfl, Nat.mul_one, Nat.add_zero, Int.toNat_natCast] at hf11_1)
                have hx11_2 := hcc11 2 _ rfl
                (try simp only [show (k29).sz = 4 from rfl, Nat.mul_one, Nat.add_zero, Int.toNat_natCast] at hx11_2)
                have hf11_2 := hfr11 2
                (try simp only [show (k29).sz = 4 from rfl, Nat.mul_one, Nat.add_zero, Int.toNat_natCast] at hf11_2)
                have hx11_3 := hcc11 3 _ rfl
                (try simp only [show (k29).sz = 4 from rfl, Nat.mul_one, Nat.add_zero, Int.toNat_natCast] at hx11_3)
                have hf11_3 := hfr11 3
                (try simp only [show (k29).sz = 4 from rfl, Nat.mul_one, Nat.add_zero, Int.toNat_natCast] at hf11_3)
                clear hcl11 hcc11 hfr11 hM11
                go_wp2_with (first | ((with_reducible refine gate_store (t := 29) (p := 21) rfl ?_); refine store_event (t := 29) (p := 21) (v := ?vo_w12) (w1 := ((((wr.setCell ⟨go10, (x4_1 : Int).toNat * 4, none⟩ (.int .i64 ((rd_T29 l0 x4_1).f0))).setCell ⟨go10, (x4_1 : Int).toNat * 4 + 1, none⟩ (.bool ((rd_T29 l0 x4_1).f1))).setCell ⟨go10, (x4_1 : Int).toNat * 4 + 2, none⟩ (.int .i64 ((rd_T29 l0 x4_1).f2))).setCell ⟨go10, (x4_1 : Int).toNat * 4 + 3, none⟩ (.string ((rd_T29 l0 x4_1).f3)))) ?hg ?ho ?hn ?hr ?_; (case ho => rfl); (case hg => rfl); (case hn => rfl); (case hr => first | (go_simp; done) | (go_simp; rfl)); intro w12 hw; have hg : wr.grownBy w12 (some go10) := (by rw [hw]; exact HP11.2); have hp_ : Kd.R k29 29 w12 w.heap.size (fun _ => True) (.slice (some ⟨go10, 0, none⟩) x3_1.length co10) y105 := (by rw [hw, Ny105.out]; exact HP11.1); clear HP11; have n0_ := Aside0.mk (hp_); have n1_ := Aside0.mk ((by rw [hw]; exact below_set (below_set (below_set (below_set (HB.out) GB10.out) GB10.out) GB10.out) GB10.out : Below w.heap.size w w12)); clear HO_3; clear HB; have HO_3 := n0_; have HB := n1_; clear n0_ n1_; clear hg hw hp_))
                go_roundg k1
                case measure => have := HK1.out; omega
                case rel => exact ⟨(y105), (wrap64 (x4_1 + 1)), (by first | rfl | (simp; done) | (simp [*]; done)), H', ⟨by have := HK1.out; omega⟩, ⟨by (with_reducible repeat (first | apply Kd.R_alloc | apply Kd.R_drewN | apply Kd.R_drew)); exact HO_3.out⟩, ⟨by repeat (first | (with_reducible first | exact HB.out | apply below_alloc | apply pw_below_drewN | apply below_drew1) | exact HB.out)⟩⟩
              · rw [if_neg c9] at H
                exact absurd H (by simp)
            · rw [if_neg c8] at H
              exact absurd H (by simp)
          · rw [if_neg c7] at H
            have c7b0 : decide (x4_1 < (l0.length : Int)) = false := decide_eq_false c7
            clear c7
            by_cases c13 : 0 ≤ (l0.length : Int)
            · rw [if_pos c13] at H
              have c13b0 : decide (0 ≤ (l0.length : Int)) = true := decide_eq_true c13
              have c13b1 : decide (0 ≤ l0.length) = true := decide_eq_true (by omega)
              clear c13
              by_cases c14 : (l0.length : Int) < (x3_1.length : Int)
              · rw [if_pos c14] at H
                have c14b0 : decide ((l0.length : Int) < (x3_1.length : Int)) = true := decide_eq_true c14
                have c14b1 : decide (l0.length < x3_1.length) = true := decide_eq_true (Int.ofNat_lt.mp c14)
                clear c14
                obtain ⟨y106, hy106⟩ : ∃ y_ : List (S29), y_ = (x3_1.set ((l0.length : Int) : Int).toNat (⟨77, false, 0, (⟨#[109, 97, 114, 107]⟩ : ByteArray)⟩ : S29)) := ⟨_, rfl⟩
                replace H : (if (l0.length : Int) ≤ (x3_1.length : Int) then (some (y106.take ((l0.length : Int) : Int).toNat)) else (none)) = some r := by first | (rw [hy106]; with_reducible exact H) | (have H2_ := (Option.bind_some _ _).symm.trans H; rw [hy106]; with_reducible exact H2_) | (have H2_ := (Option.bind_some _ _).symm.trans H; with_reducible exact H2_) | with_reducible exact H | (rw [hy106]; exact H) | exact H
                have Ny106 := Aside0.mk hy106
                clear hy106
                by_cases c16 : (l0.length : Int) ≤ (x3_1.length : Int)
                · rw [if_pos c16] at H
                  have c16b0 := eq_true c16
                  have c16b1 : decide ((l0.length : Int) ≤ (x3_1.length : Int)) = true := decide_eq_true c16
                  clear c16
                  obtain ⟨y107, hy107⟩ : ∃ y_ : List (S29), y_ = (y106.take ((l0.length : Int) : Int).toNat) := ⟨_, rfl⟩
                  replace H : (some y107) = some r := by first | (rw [hy107]; with_reducible exact H) | (have H2_ := (Option.bind_some _ _).symm.trans H; rw [hy107]; with_reducible exact H2_) | (have H2_ := (Option.bind_some _ _).symm.trans H; with_reducible exact H2_) | with_reducible exact H | (rw [hy107]; exact H) | exact H
                  have Ny107 := Aside0.mk hy107
                  clear hy107
                  obtain rfl := Option.some.inj H
                  have p15 : 0 ≤ ((l0.length : Int) : Int) := of_decide_eq_true (by first | (with_reducible assumption) | assumption)
                  have q15 : ((l0.length : Int) : Int) < ((x3_1.length : Int) : Int) := of_decide_eq_true (by first | (with_reducible assumption) | assumption)
                  obtain ⟨go15, co15, eo15, gb15, gl15, cl15, HG15⟩ := Kd.R_form HO_3.out (by omega)
                  (first | cases eo15 | (injection eo15 with ea_ en_ ec_; (first | subst ea_ | (injection ea_ with ea_; subst ea_)); subst ec_; clear en_))
                  have GB15 := Aside0.mk gb15
                  have GG15 := Aside0.mk HG15
                  clear gb15 gl15 HG15
                  obtain ⟨ce15, hcl15, hM15, hcc15, hfr15⟩ := Kd.R_elem HO_3.out z29 ((l0.length : Int) : Int) p15 q15
                  obtain rfl := k29_openM hM15
                  have hx15_0 : wr.cell? ⟨go15, ((l0.length : Int) : Int).toNat * 4, none⟩ = some (.int .i64 ((rd_T29 x3_1 (l0.length : Int)).f0)) := hcc15 0 _ rfl
                  have hx15_1 : wr.cell? ⟨go15, ((l0.length : Int) : Int).toNat * 4 + 1, none⟩ = some (.bool ((rd_T29 x3_1 (l0.length : Int)).f1)) := hcc15 1 _ rfl
                  have hx15_2 : wr.cell? ⟨go15, ((l0.length : Int) : Int).toNat * 4 + 2, none⟩ = some (.int .i64 ((rd_T29 x3_1 (l0.length : Int)).f2)) := hcc15 2 _ rfl
                  have hx15_3 : wr.cell? ⟨go15, ((l0.length : Int) : Int).toNat * 4 + 3, none⟩ = some (.string ((rd_T29 x3_1 (l0.length : Int)).f3)) := hcc15 3 _ rfl
                  have hf15_0 : wr.frozen? ⟨go15, ((l0.length : Int) : Int).toNat * 4, none⟩ = false := hfr15 0
                  have hf15_1 : wr.frozen? ⟨go15, ((l0.length : Int) : Int).toNat * 4 + 1, none⟩ = false := hfr15 1
                  have hf15_2 : wr.frozen? ⟨go15, ((l0.length : Int) : Int).toNat * 4 + 2, none⟩ = false := hfr15 2
                  have hf15_3 : wr.frozen? ⟨go15, ((l0.length : Int) : Int).toNat * 4 + 3, none⟩ = false := hfr15 3
                  clear hcl15 hcc15 hfr15 hM15
                  replace p15 := eq_true p15
                  replace q15 := eq_true q15
                  have HX17 := Aside0.mk (show Kd.R k29 29 wr w.heap.size (fun _ => True) (.slice (some ⟨go15, 0, none⟩) x3_1.length co15) x3_1 from (by (with_reducible repeat (first | apply Kd.R_alloc | apply Kd.R_drewN | apply Kd.R_drew)); exact HO_3.out))
                  obtain ⟨ce17, hcl17, hM17, hcc17, hfr17⟩ := Kd.R_elem HX17.out z29 ((l0.length : Int) : Int) (of_decide_eq_true (by first | (with_reducible assumption) | assumption)) (by have h_ : ((l0.length : Int) : Int) < ((x3_1.length : Int) : Int) := of_decide_eq_true (by first | (with_reducible assumption) | assumption); first | exact h_ | (have e_ := (Kd.R_reads' HO_3.out).1; omega) | simpa using h_)
                  obtain rfl := k29_openM hM17
                  have HP17 := Kd.R_seg HX17.out ((l0.length : Int) : Int) (of_decide_eq_true (by first | (with_reducible assumption) | assumption)) (by have h_ : ((l0.length : Int) : Int) < ((x3_1.length : Int) : Int) := of_decide_eq_true (by first | (with_reducible assumption) | assumption); first | exact h_ | (have e_ := (Kd.R_reads' HO_3.out).1; omega) | simpa using h_) (seg := [.int .i64 77, .bool false, .int .i64 0, .string (⟨#[109, 97, 114, 107]⟩ : ByteArray)]) (j := 0) hcl17 hcc17 (show 4 ≤ 4 from by decide) (x' := (⟨77, false, 0, (⟨#[109, 97, 114, 107]⟩ : ByteArray)⟩ : S29)) (k29_mkM _ _ _ (⟨77, false, 0, (⟨#[109, 97, 114, 107]⟩ : ByteArray)⟩ : S29) ) (fun _ hk => hk)
                  have hx17_0 := hcc17 0 _ rfl
                  (try simp only [show (k29).sz = 4 from rfl, Nat.mul_one, Nat.add_zero, Int.toNat_natCast] at hx17_0)
                  have hf17_0 := hfr17 0
                  (try simp only [show (k29).sz = 4 from rfl, Nat.mul_one, Nat.add_zero, Int.toNat_natCast] at hf17_0)
                  have hx17_1 := hcc17 1 _ rfl
                  (try simp only [show (k29).sz = 4 from rfl, Nat.mul_one, Nat.add_zero, Int.toNat_natCast] at hx17_1)
                  have hf17_1 := hfr17 1
                  (try simp only [show (k29).sz = 4 from rfl, Nat.mul_one, Nat.add_zero, Int.toNat_natCast] at hf17_1)
                  have hx17_2 := hcc17 2 _ rfl
                  (try simp only [show (k29).sz = 4 from rfl, Nat.mul_one, Nat.add_zero, Int.toNat_natCast] at hx17_2)
                  have hf17_2 := hfr17 2
                  (try simp only [show (k29).sz = 4 from rfl, Nat.mul_one, Nat.add_zero, Int.toNat_natCast] at hf17_2)
                  have hx17_3 := hcc17 3 _ rfl
                  (try simp only [show (k29).sz = 4 from rfl, Nat.mul_one, Nat.add_zero, Int.toNat_natCast] at hx17_3)
                  have hf17_3 := hfr17 3
                  (try simp only [show (k29).sz = 4 from rfl, Nat.mul_one, Nat.add_zero, Int.toNat_natCast] at hf17_3)
                  clear hcl17 hcc17 hfr17 hM17
                  go_wp2_with (first | ((with_reducible refine gate_store (t := 29) (p := 26) rfl ?_); refine store_event (t := 29) (p := 26) (v := ?vo_w18) (w1 := ((((wr.setCell ⟨go15, ((l0.length : Int) : Int).toNat * 4, none⟩ (.int .i64 77)).setCell ⟨go15, ((l0.length : Int) : Int).toNat * 4 + 1, none⟩ (.bool false)).setCell ⟨go15, ((l0.length : Int) : Int).toNat * 4 + 2, none⟩ (.int .i64 0)).setCell ⟨go15, ((l0.length : Int) : Int).toNat * 4 + 3, none⟩ (.string (⟨#[109, 97, 114, 107]⟩ : ByteArray)))) ?hg ?ho ?hn ?hr ?_; (case ho => rfl); (case hg => rfl); (case hn => rfl); (case hr => first | (go_simp; done) | (go_simp; rfl)); intro w18 hw; have hg : wr.grownBy w18 (some go15) := (by rw [hw]; exact HP17.2); have hp_ : Kd.R k29 29 w18 w.heap.size (fun _ => True) (.slice (some ⟨go15, 0, none⟩) x3_1.length co15) y106 := (by rw [hw, Ny106.out]; exact HP17.1); clear HP17; have n0_ := Aside0.mk (hp_); have n1_ := Aside0.mk ((by rw [hw]; exact below_set (below_set (below_set (below_set (HB.out) GB15.out) GB15.out) GB15.out) GB15.out : Below w.heap.size w w18)); clear HO_3; clear HB; have HO_3 := n0_; have HB := n1_; clear n0_ n1_; clear hg hw hp_; have q19 : ((l0.length : Int) : Int) ≤ ((x3_1.length : Int) : Int) := of_decide_eq_true (by first | (with_reducible assumption) | assumption); obtain ⟨i019, hi019, _, hsz19, _⟩ := info_parts info29; have hcut19 := cut_to (P := Try.prog) 22 29 .i64 Try.underlying22 hi019 (some ⟨go15, 0, none⟩) x3_1.length co15 (l0.length : Int) (of_decide_eq_true (by first | (with_reducible assumption) | assumption)) q19 (Kd.R_reads' HO_3.out).2.1; have hr19 := Kd.R_take (m := ((l0.length : Int) : Int).toNat) HO_3.out (by rw [Ny106.out, List.length_set]; omega); have hy19 : y107.length = ((l0.length : Int) : Int).toNat := (by rw [Ny107.out, List.length_take, Ny106.out, List.length_set]; omega); rw [← Ny107.out] at hr19; rw [← hy19] at hr19 hcut19; have HOF := Aside0.mk HO_3.out; clear hy19 hi019 hsz19 HO_3; have HO109 := Aside0.mk hr19; clear hr19; replace q19 := eq_true q19))
                  go_ret
                  have es_ : y106 = y107 ++ ((⟨77, false, 0, (⟨#[109, 97, 114, 107]⟩ : ByteArray)⟩ : S29) :: y106.drop (l0.length + 1)) := by
                    have h_ : ((l0.length : Int) : Int) < ((x3_1.length : Int) : Int) := of_decide_eq_true (by first | (with_reducible assumption) | assumption)
                    have h1_ := set_split x3_1 ((l0.length : Int)).toNat (⟨77, false, 0, (⟨#[109, 97, 114, 107]⟩ : ByteArray)⟩ : S29) (by omega)
                    rw [← Ny106.out, ← Ny107.out] at h1_
                    exact h1_
                  refine ⟨_, by first | rfl | (simp [errW_none, errW_some] <;> rfl) | (simp only [← hji2]; first | rfl | (simp [errW_none, errW_some] <;> rfl)) | (simp [*, errW_none, errW_some] <;> rfl), ⟨(.slice (some ⟨go15, 0, none⟩) x3_1.length co15), ((⟨77, false, 0, (⟨#[109, 97, 114, 107]⟩ : ByteArray)⟩ : S29) :: y106.drop (l0.length + 1)), Pre.mk _ _ _ _, ⟨_, rfl⟩, ?_⟩, by repeat (first | (with_reducible first | exact HB.out | apply below_alloc | apply pw_below_drewN | apply below_drew1) | exact HB.out)⟩
                  rw [← es_]
                  exact HOF.out
                · rw [if_neg c16] at H
                  exact absurd H (by simp)
              · rw [if_neg c14] at H
                exact absurd H (by simp)
            · rw [if_neg c13] at H
              exact absurd H (by simp)
    · rw [if_neg c4] at H
      exact absurd H (by simp)
  · rw [if_neg c3] at H
    exact absurd H (by simp)

end Go.Proofs.Ytoieckmegdcaeaa.G
