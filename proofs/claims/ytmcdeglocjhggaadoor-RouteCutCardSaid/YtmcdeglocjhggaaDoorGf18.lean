/-
  tidemarklaw12.mark: function 18, by hand, over the shelf's Itoa: it answers some string, and makes memory.
-/
import Derived.Test.YtmcdeglocjhggaaDoorG0
import Derived.Test.YtmcdeglocjhggaaDoorShelf
import Derived.Lib.AppendIntMem
import Derived.Lib.ItoaLen
namespace Go.Proofs.YtmcdeglocjhggaaDoor.G
open Go.RowKit Go.Proofs.YtmcdeglocjhggaaDoorW.PrintWords Go.Proofs.YtmcdeglocjhggaaDoorW.PrintLast Go.Proofs.YtmcdeglocjhggaaDoorW.PrintMore
set_option linter.unusedVariables false

/-- strconv's table stands. -/
def Tb (w : World) : Prop := Lib.TabIs Tryd.prog w "internal/strconv.uint64pow10" .u64 Lib.pow10Tab
theorem Tb.keep {w w' : World} (h : Tb w) (hb : Below w.heap.size w w') : Tb w' := by
  unfold Tb Lib.TabIs World.var? at h ⊢
  cases hg : Tryd.prog.globalNamed "internal/strconv.uint64pow10" with
  | none => rw [hg] at h; exact absurd h (by simp)
  | some g =>
    rw [hg] at h
    simp only [Option.bind_some] at h ⊢
    have hlt : g < w.heap.size := by
      rcases Nat.lt_or_ge g w.heap.size with h' | h'
      · exact h'
      · rw [Array.getElem?_eq_none h'] at h; exact absurd h (by simp)
    rw [hb.block g hlt]
    exact h

theorem itoa_calls (n : Int) (h0 : -9223372036854775808 ≤ n) (h1 : n ≤ 9223372036854775807) (w : World) (tb : Tb w) :
    Calls Tryd.prog 22 #[.int .i64 n] w fun e w' => e = .returned (.string ⟨(Lib.itoa n).toArray⟩) ∧ Below w.heap.size w w' := by
  refine (Tryd.strconv_Itoa n h0 h1 w tb).mono ?_
  rintro e w' ⟨rfl, k, os, rfl⟩
  exact ⟨rfl, Lib.below_grow _ w (Nat.le_refl _) k os⟩

set_option maxHeartbeats 2000000 in
theorem mark_calls (i : Int) (h0 : -9223372036854775808 ≤ i) (h1 : i ≤ 9223372036854775807) (w : World) (tb : Tb w) :
    Calls Tryd.prog 18 #[.int .i64 (-1), .int .i64 i] w fun e w' => (∃ s, e = .returned (.string s)) ∧ Below w.heap.size w w' := by
  go_enter Tryd.func18, Tryd.ntmps18
  go_wp2_with (go_at_call 22; refine (itoa_calls (-1) (by decide) (by decide) _ tb).mono ?_)
  rintro e W1 ⟨rfl, b1⟩
  have tb1 := tb.keep b1
  have L1 := Lib.itoa_length_le (-1) (by decide) (by decide)
  have L2 := Lib.itoa_length_le i h0 h1
  go_wp2_with (go_at_call 22; refine (itoa_calls i h0 h1 _ tb1).mono ?_)
  all_goals (first | (exfalso; omega) | skip)
  rintro e W2 ⟨rfl, b2⟩
  go_wp2
  all_goals (first | (exfalso; omega) | skip)
  go_ret
  exact ⟨⟨_, rfl⟩, b1.trans (b2.mono b1.size)⟩
end Go.Proofs.YtmcdeglocjhggaaDoor.G
