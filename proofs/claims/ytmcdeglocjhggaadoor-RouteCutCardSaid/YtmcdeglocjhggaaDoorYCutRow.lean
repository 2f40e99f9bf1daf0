/-
  Proved: 'tidemarklaw12.RouteCut' returns true for every input: a key is in a span just if it is in one of its parts, in just one, that of its owner; owners rise with the keys and turn at the split keys; what is handed in stays. The card ties the listed variables to the program's text.
  Conditions: none beyond the card's own (the listed variables of the library hold what the program's text lays).
-/
import Derived.Test.YtmcdeglocjhggaaDoorTCut
import Derived.Test.YtmcdeglocjhggaaDoorGRead
import Derived.Test.YtmcdeglocjhggaaDoorCards
import Derived.Test.YtmcdeglocjhggaaDoorTie
import Derived.WalkKit
import Derived.ProofKit
import Derived.OpenShut
import Derived.Deep.DeepHandedRow
import Derived.Lib.LaidTab
import Derived.ChangeOld
import Derived.Below
import Derived.SizedLaws
import Derived.Lib.SmallJoins
import Derived.LaidSub
import Derived.MakeChecks
namespace Go.Proofs.YtmcdeglocjhggaaDoor.routeCut
open Go.ChangeShapes Go.WideShapes Go.ChangeAt Go.RowKit
open Go.Joins
open Go.Proofs.YtmcdeglocjhggaaDoor.G Go.Proofs.YtmcdeglocjhggaaDoorW.PrintWords
set_option linter.unusedVariables false
theorem own : ownKnob Tryd.prog.godebug = none := by kernel_rfl
theorem laidOut : laidOutB Tryd.prog = true := by kernel_rfl
theorem gTab : Tryd.prog.globalNamed "internal/strconv.uint64pow10" = some 0 := by kernel_rfl
theorem gTabType : (Tryd.prog.globals[0]?).map (·.type) = some 68 := by kernel_rfl
theorem cells68 : Tryd.prog.cellsOf 68 = 20 := by kernel_rfl
theorem cells23 : Tryd.prog.cellsOf 23 = 1 := by kernel_rfl
theorem datum : Rows.laid_internal_strconv_uint64pow10 (H := Unit) = Lib.tabData .u64 Lib.pow10Tab := by kernel_rfl
/-- what the row's list gives: strconv's table stands. -/
theorem table {W : World} (h : laidMetH Tryd.prog Rows.routeCutRow.laid W) : Tb W := by
  have h2 := laidMetH.filter (fun x => x.1 == "internal/strconv.uint64pow10") h
  have e : Rows.routeCutRow.laid.filter (fun x => x.1 == "internal/strconv.uint64pow10") = [("internal/strconv.uint64pow10", Lib.tabData .u64 Lib.pow10Tab)] := by
    rw [← datum]; kernel_rfl
  rw [e, MakeChecks.laidMetH_plain _ _ _ (by kernel_rfl)] at h2
  exact Lib.tabIs_of_head (rest := []) gTab gTabType Tryd.underlying68 Tryd.underlying23 cells23 cells68 h2

theorem c29 : Tryd.prog.cellsOf 29 = 9 := by kernel_rfl
theorem c25 : Tryd.prog.cellsOf 25 = 6 := by kernel_rfl
theorem c22 : Tryd.prog.cellsOf 22 = 1 := by kernel_rfl
theorem c26 : Tryd.prog.cellsOf 26 = 1 := by kernel_rfl
theorem c27 : Tryd.prog.cellsOf 27 = 1 := by kernel_rfl
theorem c37 : Tryd.prog.cellsOf 37 = 2 := by kernel_rfl
theorem c51 : Tryd.prog.cellsOf 51 = 3 := by kernel_rfl
theorem c9 : Tryd.prog.cellsOf 9 = 1 := by kernel_rfl
theorem c3 : Tryd.prog.cellsOf 3 = 1 := by kernel_rfl
theorem c4 : Tryd.prog.cellsOf 4 = 1 := by kernel_rfl
theorem b9 : Tryd.prog.bytesOf 9 = 16 := by kernel_rfl
abbrev kCfg := Kd.pair (Kd.int .i64) (Kd.pair (Kd.int .i64) (Kd.pair (Kd.slice 9 Kd.string) (Kd.pair (Kd.int .i64) (Kd.pair (Kd.int .i64) (Kd.int .u64)))))
abbrev kAsk := Kd.pair kCfg (Kd.pair (Kd.slice 37 k37) (Kd.pair (Kd.slice 51 k51) (Kd.slice 9 Kd.string)))
theorem opens37 : ∃ ρ μ σ, Opens Tryd.prog 37 k37 ρ μ σ :=
  ⟨_, _, _, opens_iso (fun x : S37 => (x.f0, x.f1)) (fun a => (⟨a.1, a.2⟩ : S37)) (fun _ => rfl)
    (opens_struct Tryd.underlying37 rfl c37 (opensF_cons rfl c9 (opens_string Tryd.underlying9) (opensF_one rfl c9 (opens_string Tryd.underlying9))))⟩
theorem opens51 : ∃ ρ μ σ, Opens Tryd.prog 51 k51 ρ μ σ :=
  ⟨_, _, _, opens_iso (fun x : S51 => (x.f0, x.f1, x.f2)) (fun a => (⟨a.1, a.2.1, a.2.2⟩ : S51)) (fun _ => rfl)
    (opens_struct Tryd.underlying51 rfl c51 (opensF_cons rfl c9 (opens_string Tryd.underlying9) (opensF_cons rfl c4 (opens_bool Tryd.underlying4) (opensF_one rfl c9 (opens_string Tryd.underlying9)))))⟩
abbrev TCfg := Int × Int × List ByteArray × Int × Int × Int
def cfgS (x : TCfg) : Prop := x.2.2.1.length * 16 ≤ reachBytes
theorem c23' : Tryd.prog.cellsOf 23 = 1 := by kernel_rfl
theorem opensCfg : ∃ (ρ : TCfg → Prop) (μ : TCfg → Nat) (σ : TCfg → Prop), Opens Tryd.prog 25 kCfg ρ μ σ ∧ ∀ x, σ x → cfgS x :=
  ⟨_, _, _, opens_struct Tryd.underlying25 rfl c25 (opensF_cons rfl c3 (opens_int Tryd.underlying3) (opensF_cons rfl c3 (opens_int Tryd.underlying3) (opensF_cons rfl c22 (opens_slice Tryd.underlying22 c9 (opens_string Tryd.underlying9))
    (opensF_cons rfl c3 (opens_int Tryd.underlying3) (opensF_cons rfl c3 (opens_int Tryd.underlying3) (opensF_one rfl c23' (opens_int Tryd.underlying23))))))), fun x h => by have := h.2.2.1; rw [b9] at this; exact this⟩
abbrev TAsk := TCfg × List S37 × List S51 × List ByteArray
theorem opensAsk : ∃ (ρ : TAsk → Prop) (μ : TAsk → Nat) (σ : TAsk → Prop), Opens Tryd.prog 29 kAsk ρ μ σ ∧ ∀ x, σ x → cfgS x.1 := by
  obtain ⟨ρ1, μ1, σ1, h37⟩ := opens37
  obtain ⟨ρ2, μ2, σ2, h51⟩ := opens51
  obtain ⟨ρ3, μ3, σ3, hc, hcs⟩ := opensCfg
  exact ⟨_, _, _, opens_struct Tryd.underlying29 rfl c29 (opensF_cons rfl c25 hc (opensF_cons rfl c26 (opens_slice Tryd.underlying26 c37 h37) (opensF_cons rfl c27 (opens_slice Tryd.underlying27 c51 h51) (opensF_one rfl c22 (opens_slice Tryd.underlying22 c9 (opens_string Tryd.underlying9)))))), fun x h => hcs _ h.1⟩
theorem contract (H : Type) (enc : TypeId × Value → H) (W : World) (base : Nat) (args : Array Value) (ds gs : List (DataW H)) (before : List MemPlace)
    (hval : ∀ (j : Nat) t v, Tryd.f3.params[j]? = some t → args[j]? = some v → Value.okWide Tryd.prog W .any base t v)
    (hW : DataW.Whole enc Tryd.prog Tryd.f3.params.toList Rows.routeCutSpec.vars false W args.toList ds gs before)
    (hsz : (DataW.weightsEach Tryd.prog (Tryd.f3.params.toList ++ Rows.routeCutSpec.plain.varTypes Tryd.prog) (ds ++ gs)).all (· ≤ reachBytes) = true)
    (hL : laidMetH Tryd.prog Rows.routeCutRow.laid W) :
    Calls Tryd.prog 3 args W fun e W' => ∃ v, e = .returned v ∧ Rows.routeCutSpec.post enc Tryd.prog Tryd.f3 false true false false W args v W' := by
  have hW' := hW
  obtain ⟨p, q, hA0, hV, rfl, hfz, hnd⟩ := hW
  have hA : DataW.TrodAll enc Tryd.prog W 0 (fun _ => true) true Tryd.f3.params.toList args.toList ds p := hA0
  rw [Tryd.params3] at hA hval hsz
  obtain ⟨v0, vs0, d0, ds0, p0, q0, hargs, rfl, rfl, h0, r0⟩ := trodAll_cons hA
  obtain ⟨rfl, rfl, rfl⟩ := trodAll_nil r0
  obtain rfl : args = #[v0] := by cases args; simp_all
  obtain ⟨rfl, rfl⟩ := trodVars_none hV
  have k0 := h0
  have lt0 : ∀ x ∈ p0, x.block < W.heap.size := by obtain ⟨m, hm⟩ := k0; exact DataW.trod_lt m _ _ _ hm
  obtain ⟨cs, rfl, hcs⟩ := okWide_struct Tryd.underlying29 (hval 0 29 v0 rfl rfl)
  obtain ⟨fuel, hf⟩ := h0
  obtain ⟨ρ, μ, σ, ho, hcfg⟩ := opensAsk
  obtain ⟨a, hK, _, _, hσ⟩ := ho.out hf
  have hw : (d0.weights Tryd.prog 29).all (· ≤ reachBytes) = true := by
    have h := hsz
    simp only [List.cons_append, DataW.weightsEach, List.all_append, Bool.and_eq_true] at h
    exact h.1
  have hl := hcfg _ (hσ hw)
  obtain ⟨⟨x0, x1, x2, x3, x4, x5⟩, lr, lw, lk⟩ := a
  obtain ⟨_, _, ecs, ⟨_, _, rfl, rfl, _, _, rfl, rfl, _, _, rfl, ⟨A2, n2, rfl, hn2, C2⟩, _, _, rfl, rfl, _, _, rfl, rfl, rfl⟩, _, _, rfl, ⟨A6, n6, rfl, hn6, C6⟩, _, _, rfl, ⟨A7, n7, rfl, hn7, C7⟩, ⟨A8, n8, rfl, hn8, C8⟩⟩ := hK
  have ecs' : cs = #[.int .i64 x0, .int .i64 x1, .slice A2 x2.length n2, .int .i64 x3, .int .i64 x4, .int .u64 x5, .slice A6 lr.length n6, .slice A7 lw.length n7, .slice A8 lk.length n8] := by
    have : cs.toList = _ := ecs
    rw [← Array.toArray_toList (xs := cs), this]
    rfl
  subst ecs'
  clear hA0
  simp only [List.append_nil] at hW'
  have hl2 : x2.length * 16 ≤ reachBytes := hl
  unfold reachBytes at hl2
  obtain ⟨k, hlaw⟩ := T.law_cut (a0 := x0) (a1 := x1) (a3 := x3) (a4 := x4) (a5 := x5) (l := x2) (reads := lr) (writes := lw) (keys := lk) (by omega) C8.2.1 C6.2.1
  refine (G.tidemarklaw12_RouteCut.calls k x0 x1 A2 n2 x2 x3 x4 x5 A6 n6 lr A7 n7 lw A8 n8 lk true W C2 hn2 C6 hn6 C7 hn7 C8 hn8 hlaw (table hL) rfl).mono fun e W' ⟨he, bel⟩ => ?_
  subst he
  exact ⟨_, rfl, _, _, _, [], _, [], hW', trodAll_mk1 (shut_bool Tryd.underlying4 _), (trodAll_cons_mk (Below.trod laidOut (by kernel_rfl) (of_decide_eq_true (by kernel_rfl)) k0 bel lt0) trodAll_mk0), rfl, bel.frame _, fun h => by cases h⟩
/-- A world for the witness: the settled one, the listed variables holding what the list says. -/
def laidCells : List (Nat × Array Value) := [(0, #[.int .u64 1, .int .u64 10, .int .u64 100, .int .u64 1000, .int .u64 10000, .int .u64 100000, .int .u64 1000000, .int .u64 10000000, .int .u64 100000000, .int .u64 1000000000, .int .u64 10000000000, .int .u64 100000000000, .int .u64 1000000000000, .int .u64 10000000000000, .int .u64 100000000000000, .int .u64 1000000000000000, .int .u64 10000000000000000, .int .u64 100000000000000000, .int .u64 1000000000000000000, .int .u64 10000000000000000000]), (1, #[.int .u8 0, .int .u8 1, .int .u8 28, .int .u8 2, .int .u8 29, .int .u8 14, .int .u8 24, .int .u8 3, .int .u8 30, .int .u8 22, .int .u8 20, .int .u8 15, .int .u8 25, .int .u8 17, .int .u8 4, .int .u8 8, .int .u8 31, .int .u8 27, .int .u8 13, .int .u8 23, .int .u8 21, .int .u8 19, .int .u8 16, .int .u8 7, .int .u8 26, .int .u8 12, .int .u8 18, .int .u8 6, .int .u8 11, .int .u8 5, .int .u8 10, .int .u8 9]), (2, #[.int .u8 0, .int .u8 1, .int .u8 56, .int .u8 2, .int .u8 57, .int .u8 49, .int .u8 28, .int .u8 3, .int .u8 61, .int .u8 58, .int .u8 42, .int .u8 50, .int .u8 38, .int .u8 29, .int .u8 17, .int .u8 4, .int .u8 62, .int .u8 47, .int .u8 59, .int .u8 36, .int .u8 45, .int .u8 43, .int .u8 51, .int .u8 22, .int .u8 53, .int .u8 39, .int .u8 33, .int .u8 30, .int .u8 24, .int .u8 18, .int .u8 12, .int .u8 5, .int .u8 63, .int .u8 55, .int .u8 48, .int .u8 27, .int .u8 60, .int .u8 41, .int .u8 37, .int .u8 16, .int .u8 46, .int .u8 35, .int .u8 44, .int .u8 21, .int .u8 52, .int .u8 32, .int .u8 23, .int .u8 11, .int .u8 54, .int .u8 26, .int .u8 40, .int .u8 15, .int .u8 34, .int .u8 20, .int .u8 31, .int .u8 10, .int .u8 25, .int .u8 14, .int .u8 19, .int .u8 9, .int .u8 13, .int .u8 8, .int .u8 7, .int .u8 6])]
noncomputable def laidWorld (os : Os) : World :=
  laidCells.foldl (fun w x => { w with heap := w.heap.modify x.1 fun
      | .cells _ t frozen => .cells x.2 t frozen
      | o => o }) (World.holding Tryd.prog os ⟨#[], #[], []⟩)
abbrev arg0 : Array Value := #[.agg #[.int .i64 0, .int .i64 0, .slice none 0 0, .int .i64 0, .int .i64 0, .int .u64 0, .slice none 0 0, .slice none 0 0, .slice none 0 0]]
theorem laid_met (os : Os) : laidMet Tryd.prog Rows.routeCutRow.laid ((laidWorld os).forCall (fun _ _ => 0) ⟨#[], arg0, []⟩).memory :=
  laidMet_of_run' 8 (by kernel_rfl) (by kernel_rfl)
theorem reads (os : Os) {H : Type} (enc : TypeId × Value → H) : ∃ places, DataW.whole enc Tryd.prog ((laidWorld os).forCall (fun _ _ => 0) ⟨#[], arg0, []⟩).memory Tryd.f3.params.toList Rows.routeCutSpec.vars false arg0.toList 8 = some ([.agg [.agg [.lit (.int .i64 0), .lit (.int .i64 0), .nil, .lit (.int .i64 0), .lit (.int .i64 0), .lit (.int .u64 0)], .nil, .nil, .nil]], [], places) :=
  ⟨[], by kernel_rfl⟩
set_option maxRecDepth 100000 in
theorem lifted (os : Os) (started : os.Started) (H : Type) (enc : TypeId × Value → H) (F : Stop.Interp) :
    ReturnsInHanded {} Tryd.checked os 3 .any ((OpenSpec.ofChange Rows.routeCutSpec).preRow enc Tryd.prog Tryd.f3 Rows.routeCutRow.domain false Rows.routeCutRow.laid) (((OpenSpec.ofChange Rows.routeCutSpec).at F).post enc Tryd.prog Tryd.f3 false true false false) := by
  obtain ⟨places, hx⟩ := reads os enc
  refine returnsInHanded_of_row (C := Tryd.checked) (s := OpenSpec.ofChange Rows.routeCutSpec) own started (by kernel_rfl) Tryd.func3
    (witness_row_at (enc := enc) (C := Tryd.checked) false (laidWorld os) arg0 rfl (by kernel_rfl) (by kernel_rfl) (by kernel_rfl)
      (OpenSpec.preRow_of_cond 8 hx (by kernel_rfl) (fun k hk => by cases hk) (by kernel_rfl) (laid_met os))) ?_
  intro W base args ds gs before hval hW _ _ hsz hL _ _
  exact contract H enc W base args ds gs before hval hW hsz hL
theorem said : Rows.RouteCutSaid :=
  OpenClaim.holds_of_cond 3 Tryd.f3 rfl rfl rfl rfl rfl rfl rfl ⟨rfl, rfl, rfl, rfl, rfl⟩ rfl rfl rfl rfl rfl (by kernel_rfl) Tryd.func3 (by kernel_rfl)
    (of_decide_eq_true (by kernel_rfl)) (by unfold Func.isWrapper; first | (rw [if_pos (by decide +kernel)]; kernel_rfl) | (rw [if_neg (by decide +kernel)]; exact ⟨rfl, rfl⟩))
    (fun os started H enc _ F => by rw [OpenClaim.pre_eq_preRow]; exact lifted os started H enc F)
theorem plain (f : FuncId) (fn : Func) (hf : Tryd.pinned.checked.prog.funcNamed "tidemark/tidemarklaw12.RouteCut" = some f) (hfn : Tryd.pinned.checked.prog.funcs[f]? = some fn) :
    false = Tryd.pinned.checked.prog.looks [] ∧ ∀ (j : Nat) t, fn.params[j]? = some t → Tryd.pinned.checked.prog.wantsStandIn t = false := by
  obtain rfl : f = 3 := Option.some.inj ((show Tryd.prog.funcNamed "tidemark/tidemarklaw12.RouteCut" = some 3 by kernel_rfl).symm.trans hf) |>.symm
  obtain rfl : fn = Tryd.f3 := (Option.some.inj (Tryd.func3.symm.trans hfn)).symm
  refine ⟨by kernel_rfl, fun j t ht => ?_⟩
  rw [Tryd.params3] at ht
  obtain rfl : t = 29 := by simpa using Array.mem_of_getElem? ht
  exact (show Tryd.prog.wantsStandIn 29 = false by kernel_rfl)
theorem card : Rows.RouteCutCardSaid :=
  Claim7.holds_tied_plain_at .later [] _ _ _ _ said (fun _ h => by cases h) (by kernel_rfl) (fun _ h => by cases h) routeCut_row_tie rfl ⟨rfl, rfl⟩ (by kernel_rfl) rfl plain (by kernel_rfl)
#print axioms card
end Go.Proofs.YtmcdeglocjhggaaDoor.routeCut
namespace Go.Proofs.YtmcdeglocjhggaaDoor
/-- The card, under a short name, for the claim. -/
theorem routeCut_holds : Rows.RouteCutCardSaid := routeCut.card
end Go.Proofs.YtmcdeglocjhggaaDoor
