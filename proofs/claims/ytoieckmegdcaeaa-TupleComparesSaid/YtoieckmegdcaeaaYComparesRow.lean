/-
  Proved: 'tidemarklaw25.TupleCompares' returns true for every pair of tuples, valid or not: Compare of the program and of the reference answer alike, both ways, before and behind a writing over; what is handed in stays.
  Conditions: none.
-/
import Derived.Test.YtoieckmegdcaeaaTCmp
import Derived.Test.YtoieckmegdcaeaaGRead
import Derived.Test.YtoieckmegdcaeaaRows
import Derived.WalkKit
import Derived.ProofKit
import Derived.OpenShut
import Derived.ChangeOld
import Derived.Below
import Derived.SizedLaws
import Derived.Lib.SmallJoins
namespace Go.Proofs.Ytoieckmegdcaeaa.tupleCompares
open Go.ChangeShapes Go.WideShapes Go.ChangeAt Go.RowKit
open Go.Joins
open Go.Proofs.Ytoieckmegdcaeaa.G Go.Proofs.YtoieckmegdcaeaaW.PrintWords
set_option linter.unusedVariables false
theorem own : ownKnob Try.prog.godebug = none := by kernel_rfl
theorem laidOut : laidOutB Try.prog = true := by kernel_rfl
theorem c29 : Try.prog.cellsOf 29 = 4 := by kernel_rfl
theorem c27 : Try.prog.cellsOf 27 = 1 := by kernel_rfl
theorem c4 : Try.prog.cellsOf 4 = 1 := by kernel_rfl
theorem c2 : Try.prog.cellsOf 2 = 1 := by kernel_rfl
theorem c9 : Try.prog.cellsOf 9 = 1 := by kernel_rfl
theorem c24 : Try.prog.cellsOf 24 = 2 := by kernel_rfl
theorem b29 : Try.prog.bytesOf 29 = 40 := by kernel_rfl
theorem opens29 : ∃ (ρ : S29 → Prop) (μ : S29 → Nat), Opens Try.prog 29 k29 ρ μ :=
  ⟨_, _, opens_iso (fun x : S29 => (x.f0, x.f1, x.f2, x.f3)) (fun a => (⟨a.1, a.2.1, a.2.2.1, a.2.2.2⟩ : S29)) (fun _ => rfl)
    (opens_struct Try.underlying29 rfl c29 (opensF_cons rfl c27 (opens_int Try.underlying27) (opensF_cons rfl c4 (opens_bool Try.underlying4) (opensF_cons rfl c2 (opens_int Try.underlying2) (opensF_one rfl c9 (opens_string Try.underlying9))))))⟩
theorem slice_len {H : Type} {enc : TypeId × Value → H} {w : World} {base : Nat} {spare : Nat → Bool} {held : Bool} {fuel : Nat} {a : Option Addr} {len cap : Nat} {y : DataW H × List MemPlace}
    (h : DataW.trod enc Try.prog w base spare held fuel 22 [.slice a len cap] = some y) (hz : (y.1.weights Try.prog 22).all (· ≤ reachBytes) = true) : len ≤ 3518437208780 := by
  rcases DataW.trod_slice Try.underlying22 h with ⟨hcs, _⟩ | ⟨a', len', cap', elems, rest, n, _, hcs, hy, _, hl, _, hlen, _, _, _⟩
  · simp only [List.cons.injEq, Value.slice.injEq, and_true] at hcs
    omega
  · simp only [List.cons.injEq, Value.slice.injEq, and_true] at hcs
    rw [hy] at hz
    simp only [DataW.weights, Try.underlying22, List.all_cons, Bool.and_eq_true, decide_eq_true_eq, List.length_map, b29] at hz
    have h1 := hz.1
    unfold reachBytes at h1
    omega
theorem contract (H : Type) (enc : TypeId × Value → H) (W : World) (base : Nat) (args : Array Value) (ds gs : List (DataW H)) (before : List MemPlace)
    (hval : ∀ (j : Nat) t v, Try.f3.params[j]? = some t → args[j]? = some v → Value.okWide Try.prog W .any base t v)
    (hW : DataW.Whole enc Try.prog Try.f3.params.toList Rows.tupleComparesSpec.vars false W args.toList ds gs before)
    (hsz : (DataW.weightsEach Try.prog (Try.f3.params.toList ++ Rows.tupleComparesSpec.plain.varTypes Try.prog) (ds ++ gs)).all (· ≤ reachBytes) = true) :
    Calls Try.prog 3 args W fun e W' => ∃ v, e = .returned v ∧ Rows.tupleComparesSpec.post enc Try.prog Try.f3 false true false false W args v W' := by
  have hW' := hW
  obtain ⟨p, q, hA0, hV, rfl, hfz, hnd⟩ := hW
  have hA : DataW.TrodAll enc Try.prog W 0 (fun _ => true) true Try.f3.params.toList args.toList ds p := hA0
  rw [Try.params3] at hA hval hsz
  obtain ⟨v0, vs0, d0, ds0, p0, q0, hargs, rfl, rfl, h0, r0⟩ := trodAll_cons hA
  obtain ⟨rfl, rfl, rfl⟩ := trodAll_nil r0
  obtain rfl : args = #[v0] := by cases args; simp_all
  obtain ⟨rfl, rfl⟩ := trodVars_none hV
  have k0 := h0
  have lt0 : ∀ x ∈ p0, x.block < W.heap.size := by obtain ⟨m, hm⟩ := k0; exact DataW.trod_lt m _ _ _ hm
  obtain ⟨va, vb, y0, y1, m, rfl, hd, _, hy0, hy1⟩ := open_agg2 Try.underlying24 (by kernel_rfl) c24 (hval 0 24 v0 rfl rfl) h0
  obtain ⟨ρ, μ, ho⟩ := opens29
  obtain ⟨la, ⟨Aa, ca, ea, hla, hCa⟩, _, _⟩ := (opens_slice Try.underlying22 c29 ho).out hy0
  obtain ⟨lb, ⟨Ab, cb, eb, hlb, hCb⟩, _, _⟩ := (opens_slice Try.underlying22 c29 ho).out hy1
  obtain rfl : va = .slice Aa la.length ca := by simpa using ea
  obtain rfl : vb = .slice Ab lb.length cb := by simpa using eb
  subst hd
  have hz : (DataW.weightsEach Try.prog [22, 22] [y0.1, y1.1]).all (· ≤ reachBytes) = true := by
    have : ((DataW.agg [y0.1, y1.1]).weights Try.prog 24).all (· ≤ reachBytes) = true := by
      have h := hsz
      simp only [List.cons_append, DataW.weightsEach, List.all_append, Bool.and_eq_true] at h
      exact h.1
    simp only [DataW.weights, Try.underlying24] at this
    exact this
  simp only [DataW.weightsEach, List.all_append, Bool.and_eq_true] at hz
  have na : la.length ≤ 3518437208780 := slice_len (y := y0) hy0 hz.1
  have nb : lb.length ≤ 3518437208780 := slice_len (y := y1) hy1 hz.2.1
  clear hA0
  simp only [List.append_nil] at hW'
  obtain ⟨k, hlaw⟩ := T.law_compares la lb (by omega) (by omega)
  refine (G.tidemarklaw25_TupleCompares.calls k Aa ca la Ab cb lb true W hCa hla hCb hlb hlaw).mono fun e W' ⟨he, bel⟩ => ?_
  subst he
  exact ⟨_, rfl, _, _, _, [], _, [], hW', trodAll_mk1 (shut_bool Try.underlying4 _), (trodAll_cons_mk (Below.trod laidOut (by kernel_rfl) (of_decide_eq_true (by kernel_rfl)) k0 bel lt0) trodAll_mk0), rfl, bel.frame _, fun h => by cases h⟩
set_option maxRecDepth 100000 in
theorem lifted (os : Os) (started : os.Started) (H : Type) (enc : TypeId × Value → H) :
    ReturnsInHanded {} Try.checked os 3 .any (Rows.tupleComparesSpec.pre6 enc Try.prog Try.f3 Rows.tupleComparesRow.domain false) (Rows.tupleComparesSpec.post enc Try.prog Try.f3 false true false false) := by
  refine returnsInHanded_of_change_sized (C := Try.checked) own started (by kernel_rfl) Try.func3
    (ChangeSpec.witness6 (enc := enc) (C := Try.checked) false ⟨#[], #[.agg #[.slice none 0 0, .slice none 0 0]], []⟩ 8 (by kernel_rfl) (by kernel_rfl) (by kernel_rfl) (by kernel_rfl)) ?_
  intro W base args ds gs before hval0 hW hcnd hsz0 _
  exact contract H enc W base args ds gs before hval0 hW hsz0
theorem proved : Rows.TupleComparesSaid :=
  OpenClaim.holds_of_wide 3 Try.f3 rfl rfl rfl rfl rfl rfl rfl ⟨rfl, rfl, rfl, rfl, rfl⟩ rfl rfl rfl rfl rfl (by kernel_rfl) Try.func3 (by kernel_rfl)
    (of_decide_eq_true (by kernel_rfl)) (by unfold Func.isWrapper; first | (rw [if_pos (by decide +kernel)]; kernel_rfl) | (rw [if_neg (by decide +kernel)]; exact ⟨rfl, rfl⟩))
    (fun os started H enc _ => lifted os started H enc)
#print axioms proved
end Go.Proofs.Ytoieckmegdcaeaa.tupleCompares
namespace Go.Proofs.Ytoieckmegdcaeaa
/-- The row, under a short name, for the claim. -/
theorem tupleCompares_holds : Rows.TupleComparesSaid := tupleCompares.proved
end Go.Proofs.Ytoieckmegdcaeaa
