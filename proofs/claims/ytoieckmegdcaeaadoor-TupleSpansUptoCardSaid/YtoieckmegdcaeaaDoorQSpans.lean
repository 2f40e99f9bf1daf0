-- Packed by a program of this session (pack.py) from texts of this claim.
import Derived.Test.YtoieckmegdcaeaaDoorKSpans
import Derived.Test.YtoieckmegdcaeaaDoorP9
import Derived.Lib.Strings
import Derived.Test.YtoieckmegdcaeaaDoorP10a
import Derived.Test.YtoieckmegdcaeaaDoorP12a
import Derived.Test.YtoieckmegdcaeaaDoorP13
import Derived.Test.YtoieckmegdcaeaaDoorP11b
import Derived.Test.YtoieckmegdcaeaaDoorP12b
import Derived.Test.YtoieckmegdcaeaaDoorP10b
import Derived.Test.YtoieckmegdcaeaaDoorP14
import Derived.Test.YtoieckmegdcaeaaDoorP1b
import Derived.Test.YtoieckmegdcaeaaDoorP0TEnc2
import Derived.Test.YtoieckmegdcaeaaDoorP0TOrd
import Derived.Test.YtoieckmegdcaeaaDoorP0GRead
import Derived.Shelf.Vars
section
namespace Go.Proofs.YtoieckmegdcaeaaDoor.T
open Go.RowKit Go.Proofs.YtoieckmegdcaeaaDoorW.PrintWords Go.Proofs.YtoieckmegdcaeaaDoorW.PrintLast Go.Proofs.YtoieckmegdcaeaaDoorW.PrintMore
open Go.Proofs.YtoieckmegdcaeaaDoor.G
set_option linter.unusedVariables false
set_option linter.unusedSimpArgs false

theorem rencode_ev (l : List V) (hs : Small l) : Ev (fun k => tidemarkref25_Encode.f k (l.map ofV)) (encRes l) := encode_ev l hs
theorem encRes_pos {l : List V} (h : ∀ v ∈ l, valid v) : encRes l = (B (enc l), 0) := if_pos h
theorem encRes_neg {l : List V} (h : ¬ ∀ v ∈ l, valid v) : encRes l = (B [], 1) := if_neg h
theorem encRes_size {l : List V} (hs : Small l) : (encRes l).1.size ≤ 2200000000000 := by
  have hln := hs.1
  by_cases h : ∀ v ∈ l, valid v
  · rw [encRes_pos h, B_size]
    have := enc_length l hs.2
    omega
  · rw [encRes_neg h, B_size]; simp
/-! ### TupleEncodes -/
/-! ### TupleSpans -/
def spanRes (l : List V) : ByteArray × ByteArray × Int := if ∀ v ∈ l, valid v then (B (enc l), B (enc l ++ [255]), 0) else (B [], B [], 1)
theorem tspan_ev (l : List V) (hs : Small l) : Ev (fun k => tuple_Span.f k (l.map ofV)) (spanRes l) := by
  unfold tuple_Span.f
  refine Ev.bind (tencode_ev l hs) ?_
  have hsz := encRes_size hs
  by_cases h : ∀ v ∈ l, valid v
  · unfold spanRes
    rw [encRes_pos h] at *
    rw [if_pos h]
    refine Ev.congr (f := fun _ => some (B (enc l), B (enc l ++ [255]), (0 : Int))) (fun k => ?_) (Ev.now _)
    rw [if_pos rfl, if_pos (by omega)]
    rw [← B_append]
    rfl
  · unfold spanRes
    rw [encRes_neg h, if_neg h]
    exact Ev.congr (f := fun _ => some (B [], B [], (1 : Int))) (fun k => by rw [if_neg (by decide)]; rfl) (Ev.now _)
theorem rspan_ev (l : List V) (hs : Small l) : Ev (fun k => tidemarkref25_Span.f k (l.map ofV)) (spanRes l) := by
  unfold tidemarkref25_Span.f
  refine Ev.bind (rencode_ev l hs) ?_
  have hsz := encRes_size hs
  by_cases h : ∀ v ∈ l, valid v
  · unfold spanRes
    rw [encRes_pos h] at *
    rw [if_pos h]
    refine Ev.congr (f := fun _ => some (B (enc l), B (enc l ++ [255]), (0 : Int))) (fun k => ?_) (Ev.now _)
    rw [if_pos rfl, if_pos (by omega)]
    rw [← B_append]
    rfl
  · unfold spanRes
    rw [encRes_neg h, if_neg h]
    exact Ev.congr (f := fun _ => some (B [], B [], (1 : Int))) (fun k => by rw [if_neg (by decide)]; rfl) (Ev.now _)
theorem law_spans (l : List V) (hs : Small l) : ∃ k, tidemarklaw25_TupleSpans.f k (l.map ofV) = some true := by
  refine Ev.rounds (g := fun k => tidemarklaw25_TupleSpans.f k (l.map ofV)) ?_
  unfold tidemarklaw25_TupleSpans.f
  refine Ev.bind (own_any l hs.1) (Ev.bind (tspan_ev l hs) (Ev.bind (rspan_ev l hs) ?_))
  obtain ⟨us, hu, hul, ho⟩ := over_any l hs.1
  refine Ev.congr (fun k => by rw [if_neg (by simp), if_pos rfl]) (Ev.bind (left_any l hs.1) ?_)
  refine Ev.step (fun k => by rw [tidemarklaw25_TupleSpans.j0, if_neg (by decide)]) (Ev.bind ho (Ev.bind (tspan_ev us hu) (Ev.bind (rspan_ev us hu) ?_)))
  refine Ev.congr (f := fun _ => some true) (fun k => ?_) (Ev.now _)
  rw [if_pos (by simp)]
  simp

/-! ### TupleJoins -/
/-! ### TupleRound -/
end Go.Proofs.YtoieckmegdcaeaaDoor.T
end

section
namespace Go.Proofs.YtoieckmegdcaeaaDoor.T
open Go.RowKit Go.Proofs.YtoieckmegdcaeaaDoorW.PrintWords Go.Proofs.YtoieckmegdcaeaaDoorW.PrintLast Go.Proofs.YtoieckmegdcaeaaDoorW.PrintMore
open Go.Proofs.YtoieckmegdcaeaaDoor.G
set_option linter.unusedVariables false
set_option linter.unusedSimpArgs false

/-! ### TupleOnly -/
/-! ### TupleInside -/
/-! ### TupleOrder -/
end Go.Proofs.YtoieckmegdcaeaaDoor.T
end

section
namespace Go.Proofs.YtoieckmegdcaeaaDoor.Y
open Go.RowKit Go.Proofs.YtoieckmegdcaeaaDoorW.PrintWords
open Go.Proofs.YtoieckmegdcaeaaDoor.G Go.Proofs.YtoieckmegdcaeaaDoor.T
set_option linter.unusedVariables false
theorem c36 : Tryd.prog.cellsOf 36 = 4 := by kernel_rfl
theorem c34 : Tryd.prog.cellsOf 34 = 1 := by kernel_rfl
theorem c4 : Tryd.prog.cellsOf 4 = 1 := by kernel_rfl
theorem c2 : Tryd.prog.cellsOf 2 = 1 := by kernel_rfl
theorem c9 : Tryd.prog.cellsOf 9 = 1 := by kernel_rfl
theorem c22 : Tryd.prog.cellsOf 22 = 1 := by kernel_rfl
def rho36 (x : S36) : Prop := (Lit.int .i64 x.f2).wf = true
def mu36 (x : S36) : Nat := x.f3.size + 5
theorem opens36 : ∃ (ρ : S36 → Prop) (μ : S36 → Nat) (σ : S36 → Prop), Opens Tryd.prog 36 k36 ρ μ σ ∧ (∀ x, ρ x → rho36 x) ∧ (∀ x, mu36 x ≤ μ x) :=
  ⟨_, _, _, opens_iso (fun x : S36 => (x.f0, x.f1, x.f2, x.f3)) (fun a => (⟨a.1, a.2.1, a.2.2.1, a.2.2.2⟩ : S36)) (fun _ => rfl)
    (opens_struct Tryd.underlying36 rfl c36 (opensF_cons rfl c34 (opens_int Tryd.underlying34) (opensF_cons rfl c4 (opens_bool Tryd.underlying4) (opensF_cons rfl c2 (opens_int Tryd.underlying2) (opensF_one rfl c9 (opens_string Tryd.underlying9)))))),
    fun x h => h.2.2.1, fun x => by show x.f3.size + 5 ≤ 1 + (1 + (1 + (x.f3.size + 1))) + 1; omega⟩
/-- a list of values that came in: what each holds, what it weighs. -/
def rhoL (l : List S36) : Prop := ∀ x ∈ l, rho36 x
def muL (l : List S36) : Nat := (l.map mu36).sum
theorem opens22 : ∃ (ρ : List S36 → Prop) (μ : List S36 → Nat) (σ : List S36 → Prop), Opens Tryd.prog 22 (Kd.slice 36 k36) ρ μ σ ∧ (∀ x, ρ x → rhoL x) ∧ (∀ x, muL x ≤ μ x) := by
  obtain ⟨ρ, μ, σ, h, h1, h2⟩ := opens36
  refine ⟨_, _, _, opens_slice Tryd.underlying22 c36 h, fun l hl x hx => h1 x (hl.1 x hx), fun l => ?_⟩
  show muL l ≤ (l.map μ).sum + 1
  have : ∀ q : List S36, (q.map mu36).sum ≤ (q.map μ).sum := by
    intro q
    induction q with
    | nil => exact Nat.le_refl _
    | cons x q ih => have := h2 x; simp only [List.map_cons, List.sum_cons]; omega
  have := this l
  unfold muL
  omega
theorem muL_len (l : List S36) : 5 * l.length ≤ muL l := by
  unfold muL
  induction l with
  | nil => simp
  | cons x l ih => simp only [List.map_cons, List.sum_cons, List.length_cons]; unfold mu36 at *; omega
theorem muL_mem {l : List S36} {x : S36} (h : x ∈ l) : x.f3.size + 5 ≤ muL l := by
  unfold muL
  induction l with
  | nil => simp at h
  | cons y l ih =>
    simp only [List.map_cons, List.sum_cons]
    rcases List.mem_cons.1 h with rfl | h
    · unfold mu36; omega
    · have := ih h; omega
theorem muL_append (a b : List S36) : muL (a ++ b) = muL a + muL b := by unfold muL; rw [List.map_append, List.sum_append]
theorem wf_range {n : Int} (h : (Lit.int .i64 n).wf = true) : -9223372036854775808 ≤ n ∧ n ≤ 9223372036854775807 := by
  simp [Lit.wf, IntKind.min, IntKind.max, IntKind.signed, IntKind.bits] at h
  omega
theorem back (l : List S36) : (l.map toV).map ofV = l := by
  rw [List.map_map]
  conv => rhs; rw [← List.map_id l]
  apply List.map_congr_left
  intro s _
  exact ofV_toV s
theorem small_of {l : List S36} (hr : rhoL l) (hm : muL l ≤ 1048576) : Small (l.map toV) := by
  have h1 := muL_len l
  refine ⟨by rw [List.length_map]; omega, fun v hv => ?_⟩
  obtain ⟨s, hs, rfl⟩ := List.mem_map.1 hv
  have h2 := muL_mem hs
  refine ⟨wf_range (hr s hs), ?_⟩
  show s.f3.data.toList.length ≤ _
  rw [Array.length_toList]
  show s.f3.size ≤ _
  omega
theorem enc_of {l : List S36} (hr : rhoL l) : (enc (l.map toV)).length ≤ 2 * muL l := by
  induction l with
  | nil => simp [enc]
  | cons x l ih =>
    have h1 := code_length (toV x) (wf_range (hr x (by simp)))
    have h2 := ih (fun y hy => hr y (by simp [hy]))
    have e : (toV x).text.length = x.f3.size := by show x.f3.data.toList.length = _; rw [Array.length_toList]; rfl
    rw [List.map_cons, enc_cons, List.length_append]
    have e2 : muL (x :: l) = (x.f3.size + 5) + muL l := by unfold muL mu36; simp
    omega
/-- the library's variable MaxLen holds some number: by the world's shape. -/
theorem tb_of {W : World} (h : W.ShapedOpen Tryd.prog) : Tb W :=
  cell_of_shapedOpen_int (t := 3) (zero := #[.int .i64 0]) h (by decide +kernel) (by kernel_rfl) rfl (by kernel_rfl) (by kernel_rfl) Tryd.underlying3
end Go.Proofs.YtoieckmegdcaeaaDoor.Y
end
