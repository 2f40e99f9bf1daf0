/-
  The law TupleDecodes as printed answers true, for every text of at most 2^20 bytes.
-/
import Derived.Test.YtoieckmegdcaeaaTRef
import Derived.Test.YtoieckmegdcaeaaGf4
namespace Go.Proofs.Ytoieckmegdcaeaa.T
open Go.RowKit Go.Proofs.YtoieckmegdcaeaaW.PrintWords Go.Proofs.YtoieckmegdcaeaaW.PrintLast Go.Proofs.YtoieckmegdcaeaaW.PrintMore
open Go.Proofs.Ytoieckmegdcaeaa.G

theorem l1_ev (us : List V) (hu : us.length ≤ 1048577) (L : Nat) (hL : L ≤ 1048577) : ∀ (n i : Nat) (xs : List S29), 70 - i = n → i ≤ 70 → xs.length = L + i →
    Ev (fun k => tidemarklaw25_TupleDecodes.l1 k (L : Int) (us.map ofV) (us.map ofV) xs (i : Int)) true := by
  intro n
  induction n with
  | zero =>
    intro i xs hn hi hx
    obtain rfl : i = 70 := by omega
    refine Ev.step (f := fun k => (tidemarkref25_Same.f k (us.map ofV) (us.map ofV)).bind fun t187 => (if t187 = true then (some ((xs.length : Int) == (wrap64 ((L : Int) + 70)))) else (some false))) (fun k => ?_) (Ev.bind (same_ev us hu) ?_)
    · simp only [tidemarklaw25_TupleDecodes.l1]
      rw [if_neg (by omega)]
    · refine Ev.congr (fun k => ?_) (Ev.now _)
      rw [if_pos rfl, w64 (by omega) (by omega), beq_iff_eq.2 (by omega)]
  | succ n ih =>
    intro i xs hn hi hx
    refine Ev.step (fun k => ?_) (ih (i + 1) (xs ++ [(⟨8, false, (i : Int), (⟨#[]⟩ : ByteArray)⟩ : S29)]) (by omega) (by omega) (by rw [List.length_append, List.length_singleton]; omega))
    simp only [tidemarklaw25_TupleDecodes.l1]
    rw [if_pos (by omega), if_pos (by omega), wn _ (by omega)]
theorem l0_ev (us : List V) (hu : us.length ≤ 1048577) (L : Nat) (hL : L ≤ 1048577) : ∀ (n i : Nat) (xs : List S29), L - i = n → i ≤ L → xs.length = L →
    Ev (fun k => tidemarklaw25_TupleDecodes.l0 k xs (us.map ofV) (us.map ofV) (i : Int)) true := by
  intro n
  induction n with
  | zero =>
    intro i xs hn hi hx
    refine Ev.step (fun k => ?_) (l1_ev us hu L hL 70 0 xs (by omega) (by omega) (by omega))
    simp only [tidemarklaw25_TupleDecodes.l0]
    rw [if_neg (by omega), hx]
    rfl
  | succ n ih =>
    intro i xs hn hi hx
    refine Ev.step (fun k => ?_) (ih (i + 1) (xs.set ((i : Int)).toNat (⟨9, false, (i : Int), (⟨#[]⟩ : ByteArray)⟩ : S29)) (by omega) (by omega) (by rw [List.length_set]; exact hx))
    simp only [tidemarklaw25_TupleDecodes.l0]
    rw [if_pos (by omega), if_pos (by omega), wn _ (by omega)]
theorem law_decodes (b : List UInt8) (hb : b.length ≤ 1048576) : ∃ k, tidemarklaw25_TupleDecodes.f k (B b) = some true := by
  have h1 := decode_says b hb
  have h2 := rdecode_says b hb
  have hl := decRes_length b
  obtain ⟨ts, hts⟩ := decRes_form b
  have hlen : ts.length = (decRes b).1.length := by rw [hts, List.length_map]
  have hj : Ev (fun k => tidemarklaw25_TupleDecodes.j0 k (B b) (decRes b).1 (decRes b).1 false) true := by
    refine Ev.step (f := fun k => (tuple_Decode.f k (B b)).bind fun bt179 => (tidemarklaw25_TupleDecodes.l0 k (decRes b).1 (decRes b).1 bt179.1 0)) (fun k => ?_) (Ev.bind h1 ?_)
    · simp only [tidemarklaw25_TupleDecodes.j0]
      rw [if_neg (by decide)]
    · have h := l0_ev ts (by omega) ts.length (by omega) ts.length 0 (ts.map ofV) (by omega) (by omega) (by rw [List.length_map])
      rw [hts]
      exact h
  have hs := same_ev ts (by omega)
  rw [← hts] at hs
  have h : Ev (fun k => tidemarklaw25_TupleDecodes.f k (B b)) true := by
    refine Ev.bind (g := fun k => tuple_Decode.f k (B b)) h1 (Ev.bind (g := fun k => tidemarkref25_Decode.f k (B b)) h2 ?_)
    refine Ev.congr (f := fun k => (tidemarkref25_Same.f k (decRes b).1 (decRes b).1).bind fun t178 => (tidemarklaw25_TupleDecodes.j0 k (B b) (decRes b).1 (decRes b).1 (!t178))) (fun k => ?_) (Ev.bind hs ?_)
    · rw [if_pos rfl]
    · exact hj
  exact h.rounds
end Go.Proofs.Ytoieckmegdcaeaa.T
