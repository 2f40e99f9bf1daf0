-- Packed by a program of this session (pack.py) from texts of this claim.
import Derived.Test.YtoieckmegdcaeaaDoorQInside
import Derived.Test.YtoieckmegdcaeaaDoorCards
import Derived.Test.YtoieckmegdcaeaaDoorTie
import Derived.WalkKit
import Derived.ProofKit
import Derived.OpenShut
import Derived.Deep.DeepHandedRow
import Derived.Lib.LaidTab
import Derived.ChangeOld
import Derived.Below
import Derived.Lib.SmallJoins
section
namespace Go.Proofs.YtoieckmegdcaeaaDoor.tupleInside
open Go.ChangeShapes Go.WideShapes Go.ChangeAt Go.RowKit
open Go.Joins
open Go.ChangeMaps (open_string shut_string)
open Go.Proofs.YtoieckmegdcaeaaDoor.G Go.Proofs.YtoieckmegdcaeaaDoorW.PrintWords Go.Proofs.YtoieckmegdcaeaaDoor.Y
open Go.Proofs.YtoieckmegdcaeaaDoor.T (toV ofV Small)
set_option linter.unusedVariables false
theorem own : ownKnob Tryd.prog.godebug = none := by kernel_rfl
theorem laidOut : laidOutB Tryd.prog = true := by kernel_rfl
theorem cP : Tryd.prog.cellsOf 47 = 3 := by kernel_rfl
abbrev TP := List S36 × List S36 × ByteArray
theorem opensP : ∃ (ρ : TP → Prop) (μ : TP → Nat) (σ : TP → Prop), Opens Tryd.prog 47 (Kd.pair (Kd.slice 36 k36) (Kd.pair (Kd.slice 36 k36) Kd.string)) ρ μ σ ∧ (∀ x, ρ x → rhoL x.1 ∧ rhoL x.2.1) ∧ (∀ x, muL x.1 + muL x.2.1 + x.2.2.size ≤ μ x) := by
  obtain ⟨ρ, μ, σ, h, h1, h2⟩ := opens22
  exact ⟨_, _, _, opens_struct Tryd.underlying47 rfl cP (opensF_cons rfl c22 h (opensF_cons rfl c22 h (opensF_one rfl c9 (opens_string Tryd.underlying9)))), fun x hx => ⟨h1 _ hx.1, h1 _ hx.2.1⟩, fun x => by
    have a := h2 x.1; have b := h2 x.2.1; show _ ≤ μ x.1 + (μ x.2.1 + (x.2.2.size + 1)) + 1; omega⟩
set_option maxRecDepth 100000 in
theorem contract (H : Type) (enc : TypeId × Value → H) (W : World) (base : Nat) (args : Array Value) (ds gs : List (DataW H)) (before : List MemPlace)
    (hval : ∀ (j : Nat) t v, Tryd.f9.params[j]? = some t → args[j]? = some v → Value.okWide Tryd.prog W .any base t v)
    (hW : DataW.Whole enc Tryd.prog Tryd.f9.params.toList Rows.tupleInsideSpec.vars false W args.toList ds gs before) (hk : Rows.uptoSmall H (ds ++ gs) = true) (hsh : W.ShapedOpen Tryd.prog) :
    Calls Tryd.prog 9 args W fun e W' => ∃ v, e = .returned v ∧ Rows.tupleInsideSpec.post enc Tryd.prog Tryd.f9 false true false false W args v W' := by
  have hW' := hW
  obtain ⟨p, q, hA0, hV, rfl, hfz, hnd⟩ := hW
  have hA : DataW.TrodAll enc Tryd.prog W 0 (fun _ => true) true Tryd.f9.params.toList args.toList ds p := hA0
  rw [Tryd.params9] at hA hval
  obtain ⟨v0, vs0, d0, ds0, p0, q0, hargs, rfl, rfl, h0, r0⟩ := trodAll_cons hA
  obtain ⟨rfl, rfl, rfl⟩ := trodAll_nil r0
  obtain rfl : args = #[v0] := by cases args; simp_all
  obtain ⟨rfl, rfl⟩ := trodVars_none hV
  have k0 := h0
  have lt0 : ∀ x ∈ p0, x.block < W.heap.size := by obtain ⟨m, hm⟩ := k0; exact DataW.trod_lt m _ _ _ hm
  clear hA0
  simp only [List.append_nil] at hW' hk
  obtain ⟨cs, rfl, hcs⟩ := okWide_struct Tryd.underlying47 (hval 0 47 v0 rfl rfl)
  obtain ⟨fuel, hf⟩ := h0
  obtain ⟨ρ, μ, σ, ho, hρ, hμ⟩ := opensP
  obtain ⟨a, hK, hr, hm, _⟩ := ho.out hf
  obtain ⟨la, lb, s⟩ := a
  obtain ⟨_, _, ecs, ⟨A1, n1, rfl, hn1, C1⟩, _, _, rfl, ⟨A2, n2, rfl, hn2, C2⟩, rfl⟩ := hK
  have ecs' : cs = #[.slice A1 la.length n1, .slice A2 lb.length n2, .string s] := by
    have : cs.toList = _ := ecs
    rw [← Array.toArray_toList (xs := cs), this]
    rfl
  subst ecs'
  have hbulk : muL la + muL lb + s.size ≤ 1048576 := by
    have h1 := hμ (la, lb, s)
    have h2 : Rows.uptoBulkAll [d0] ≤ 1048576 := of_decide_eq_true hk
    simp only [Rows.uptoBulkAll] at h2
    have h3 : muL la + muL lb + s.size ≤ μ (la, lb, s) := h1
    have h4 : μ (la, lb, s) ≤ Rows.uptoBulk d0 := hm
    omega
  obtain ⟨ra, rb⟩ := hρ _ hr
  have ra' : rhoL la := ra
  have rb' : rhoL lb := rb
  have sa := small_of ra' (by omega)
  have sb := small_of rb' (by omega)
  have hW'' := hW'
  have hab : Small (la.map toV ++ lb.map toV) := by
    rw [← List.map_append]
    refine small_of (fun x hx => (List.mem_append.1 hx).elim (ra' x) (rb' x)) ?_
    rw [muL_append]; omega
  obtain ⟨k, hlaw⟩ := T.law_inside (la.map toV) (lb.map toV) s.data.toList sa sb hab (by rw [Array.length_toList]; show s.size ≤ _; omega)
  rw [back, back] at hlaw
  refine (G.tidemarklaw25_TupleInside.calls k A1 n1 la A2 n2 lb s true W C1 hn1 C2 hn2 hlaw (tb_of hsh) rfl).mono fun e W' ⟨he, bel⟩ => ?_
  subst he
  exact ⟨_, rfl, _, _, _, [], _, [], hW'', trodAll_mk1 (shut_bool Tryd.underlying4 _), (trodAll_cons_mk (Below.trod laidOut (by kernel_rfl) (of_decide_eq_true (by kernel_rfl)) k0 bel lt0) trodAll_mk0), rfl, bel.frame _, fun h => by cases h⟩
/-- A world for the witness: the settled one, the listed variables holding what the list says. -/
def flatCells : DataW Unit → Array Value
  | .agg ps => (ps.map fun
    | .lit (.int k n) => Value.int k n
    | _ => Value.int .u8 0).toArray
  | _ => #[]
noncomputable def laidCells : List (Nat × Array Value) := [(4, flatCells Go.Pinned.utf8First), (5, #[.int .u8 128, .int .u8 191, .int .u8 160, .int .u8 191, .int .u8 128, .int .u8 159, .int .u8 144, .int .u8 191, .int .u8 128, .int .u8 143, .int .u8 0, .int .u8 0, .int .u8 0, .int .u8 0, .int .u8 0, .int .u8 0, .int .u8 0, .int .u8 0, .int .u8 0, .int .u8 0, .int .u8 0, .int .u8 0, .int .u8 0, .int .u8 0, .int .u8 0, .int .u8 0, .int .u8 0, .int .u8 0, .int .u8 0, .int .u8 0, .int .u8 0, .int .u8 0])]
noncomputable def laidWorld (os : Os) : World :=
  laidCells.foldl (fun w x => { w with heap := w.heap.modify x.1 fun
      | .cells _ t frozen => .cells x.2 t frozen
      | o => o }) (World.holding Tryd.prog os ⟨#[], #[], []⟩)
abbrev arg0 : Array Value := #[.agg #[.slice none 0 0, .slice none 0 0, .string .empty]]
theorem laid_met (os : Os) : laidMet Tryd.prog Rows.tupleInsideUptoRow.laid ((laidWorld os).forCall (fun _ _ => 0) ⟨#[], arg0, []⟩).memory :=
  laidMet_of_run' 8 (by kernel_rfl) (by kernel_rfl)
theorem reads (os : Os) {H : Type} (enc : TypeId × Value → H) : ∃ places, DataW.whole enc Tryd.prog ((laidWorld os).forCall (fun _ _ => 0) ⟨#[], arg0, []⟩).memory Tryd.f9.params.toList Rows.tupleInsideSpec.vars false arg0.toList 8 = some ([.agg [.nil, .nil, .lit (.string [])]], [], places) :=
  ⟨[], by kernel_rfl⟩
set_option maxRecDepth 100000 in
theorem lifted (os : Os) (started : os.Started) (H : Type) (enc : TypeId × Value → H) (F : Stop.Interp) :
    ReturnsInHanded {} Tryd.checked os 9 .any ((Rows.OpenSpec.upto Rows.tupleInsideSpec).preRow enc Tryd.prog Tryd.f9 Rows.tupleInsideUptoRow.domain false Rows.tupleInsideUptoRow.laid) (((Rows.OpenSpec.upto Rows.tupleInsideSpec).at F).post enc Tryd.prog Tryd.f9 false true false false) := by
  obtain ⟨places, hx⟩ := reads os enc
  refine returnsInHanded_of_row (C := Tryd.checked) (s := Rows.OpenSpec.upto Rows.tupleInsideSpec) own started (by kernel_rfl) Tryd.func9
    (witness_row_at (enc := enc) (C := Tryd.checked) false (laidWorld os) arg0 rfl (by kernel_rfl) (by kernel_rfl) (by kernel_rfl)
      (OpenSpec.preRow_of_cond 8 hx (by kernel_rfl) (fun k hk => by cases hk; kernel_rfl) (by kernel_rfl) (laid_met os))) ?_
  intro W base args ds gs before hval hW _ hcond _ _ hsh _
  exact contract H enc W base args ds gs before hval hW (hcond _ rfl) hsh
theorem said : Rows.TupleInsideUptoSaid :=
  OpenClaim.holds_of_cond 9 Tryd.f9 rfl rfl rfl rfl rfl rfl rfl ⟨rfl, rfl, rfl, rfl, rfl⟩ rfl rfl rfl rfl rfl (by kernel_rfl) Tryd.func9 (by kernel_rfl)
    (of_decide_eq_true (by kernel_rfl)) (by unfold Func.isWrapper; first | (rw [if_pos (by decide +kernel)]; kernel_rfl) | (rw [if_neg (by decide +kernel)]; exact ⟨rfl, rfl⟩))
    (fun os started H enc _ F => by rw [OpenClaim.pre_eq_preRow]; exact lifted os started H enc F)
theorem plain (f : FuncId) (fn : Func) (hf : Tryd.pinned.checked.prog.funcNamed "tidemark/tidemarklaw25.TupleInside" = some f) (hfn : Tryd.pinned.checked.prog.funcs[f]? = some fn) :
    true = Tryd.pinned.checked.prog.looks [] ∧ ∀ (j : Nat) t, fn.params[j]? = some t → Tryd.pinned.checked.prog.wantsStandIn t = false := by
  obtain rfl : f = 9 := Option.some.inj ((show Tryd.prog.funcNamed "tidemark/tidemarklaw25.TupleInside" = some 9 by kernel_rfl).symm.trans hf) |>.symm
  obtain rfl : fn = Tryd.f9 := (Option.some.inj (Tryd.func9.symm.trans hfn)).symm
  refine ⟨by kernel_rfl, fun j t ht => ?_⟩
  rw [Tryd.params9] at ht
  obtain rfl : t = 47 := by simpa using Array.mem_of_getElem? ht
  exact (show Tryd.prog.wantsStandIn 47 = false by kernel_rfl)
theorem card : Rows.TupleInsideUptoCardSaid :=
  Claim7.holds_tied_plain_at .later [] _ _ _ _ said (fun _ h => by cases h) (by kernel_rfl) (fun _ h => by cases h) tupleInsideUpto_row_tie rfl ⟨rfl, rfl⟩ (by kernel_rfl) rfl plain (by kernel_rfl)
#print axioms card
end Go.Proofs.YtoieckmegdcaeaaDoor.tupleInside
namespace Go.Proofs.YtoieckmegdcaeaaDoor
/-- The card, under a short name, for the claim. -/
theorem tupleInside_holds : Rows.TupleInsideUptoCardSaid := tupleInside.card
end Go.Proofs.YtoieckmegdcaeaaDoor
end
