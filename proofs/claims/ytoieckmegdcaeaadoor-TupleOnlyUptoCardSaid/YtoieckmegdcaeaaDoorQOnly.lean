-- Packed by a program of this session (pack.py) from texts of this claim.
import Derived.Test.YtoieckmegdcaeaaDoorKOnly
import Derived.Test.YtoieckmegdcaeaaDoorP9
import Derived.Lib.Strings
import Derived.Test.YtoieckmegdcaeaaDoorP10a
import Derived.Test.YtoieckmegdcaeaaDoorP12a
import Derived.Test.YtoieckmegdcaeaaDoorP13
import Derived.Test.YtoieckmegdcaeaaDoorP11b
import Derived.Test.YtoieckmegdcaeaaDoorP12b
import Derived.Test.YtoieckmegdcaeaaDoorP10b
import Derived.Test.YtoieckmegdcaeaaDoorP14
import Derived.Test.YtoieckmegdcaeaaDoorP1b
import Derived.Test.YtoieckmegdcaeaaDoorP0TEnc2
import Derived.Test.YtoieckmegdcaeaaDoorP0TOrd
import Derived.Test.YtoieckmegdcaeaaDoorP0GRead
import Derived.Shelf.Vars
section
namespace Go.Proofs.YtoieckmegdcaeaaDoor.T
open Go.RowKit Go.Proofs.YtoieckmegdcaeaaDoorW.PrintWords Go.Proofs.YtoieckmegdcaeaaDoorW.PrintLast Go.Proofs.YtoieckmegdcaeaaDoorW.PrintMore
open Go.Proofs.YtoieckmegdcaeaaDoor.G
set_option linter.unusedVariables false
set_option linter.unusedSimpArgs false

theorem encRes_pos {l : List V} (h : ∀ v ∈ l, valid v) : encRes l = (B (enc l), 0) := if_pos h
/-! ### TupleEncodes -/
/-! ### TupleSpans -/
/-! ### TupleJoins -/
/-! ### TupleRound -/
theorem ok_of {l : List V} (hs : Small l) (hv : ∀ v ∈ l, valid v) : Ok l := fun v h => ⟨hv v h, (hs.2 v h).1⟩
theorem decRes_enc {l : List V} (h : Ok l) : decRes (enc l) = (l.map ofV, 0) := by
  unfold decRes
  rw [dec_enc _ l h (by omega)]


end Go.Proofs.YtoieckmegdcaeaaDoor.T
end

section
namespace Go.Proofs.YtoieckmegdcaeaaDoor.T
open Go.RowKit Go.Proofs.YtoieckmegdcaeaaDoorW.PrintWords Go.Proofs.YtoieckmegdcaeaaDoorW.PrintLast Go.Proofs.YtoieckmegdcaeaaDoorW.PrintMore
open Go.Proofs.YtoieckmegdcaeaaDoor.G
set_option linter.unusedVariables false
set_option linter.unusedSimpArgs false

theorem esc_ge : ∀ t : List UInt8, t.length ≤ (esc t).length
  | [] => Nat.le_refl _
  | c :: r => by
    have := esc_ge r
    rw [esc]
    split
    · simp only [List.length_cons]; omega
    · simp only [List.length_cons]; omega
theorem text_le {v : V} (hv : valid v) : v.text.length ≤ (code v).length := by
  rcases valid_cases hv with e | e | e | e
  · rw [e]; simp
  · rw [e]; simp
  · rw [e]; simp
  · have := esc_ge v.text
    rw [e]
    unfold code
    rw [if_neg (show ¬ (3 : Int) = 1 by decide), if_neg (show ¬ (3 : Int) = 2 by decide), if_pos (show (3 : Int) = 3 from rfl)]
    simp only [List.length_cons, List.length_append]
    omega
theorem small_of_enc {ts : List V} (h : Ok ts) (hl : (enc ts).length ≤ 1048576) : Small ts := by
  have hlen : ∀ l : List V, l.length ≤ (enc l).length := by
    intro l
    induction l with
    | nil => simp [enc]
    | cons v l ih =>
      have : 1 ≤ (code v).length := by
        cases hc : code v with
        | nil => exact absurd hc (code_ne v)
        | cons x y => simp
      rw [enc_cons, List.length_append, List.length_cons]; omega
  have hmem : ∀ (l : List V) (v : V), v ∈ l → (code v).length ≤ (enc l).length := by
    intro l v hv
    induction l with
    | nil => simp at hv
    | cons u l ih =>
      rw [enc_cons, List.length_append]
      rcases List.mem_cons.1 hv with rfl | hv
      · omega
      · have := ih hv; omega
  have := hlen ts
  refine ⟨by omega, fun v hv => ⟨(h v hv).2, ?_⟩⟩
  have h1 := text_le (h v hv).1
  have h2 := hmem ts v hv
  omega
/-- what Decode says. -/
theorem dec_cases (b : List UInt8) : (∃ ts, b = enc ts ∧ Ok ts ∧ decRes b = (ts.map ofV, 0)) ∨ decRes b = ([], 250) := by
  unfold decRes
  cases h : dec (b.length + 1) b with
  | none => exact .inr rfl
  | some ts =>
    obtain ⟨h1, h2⟩ := dec_inv _ b ts h
    exact .inl ⟨ts, h1, h2, rfl⟩

/-! ### TupleOnly -/
def known (b : List UInt8) : List V := [⟨0, false, 0, []⟩, ⟨2, false, 5, []⟩, ⟨3, false, 0, b⟩]
theorem known_small (b : List UInt8) (hb : b.length ≤ 1048576) : Small (known b) := by
  refine ⟨by simp [known], fun v hv => ?_⟩
  simp only [known, List.mem_cons, List.not_mem_nil, or_false] at hv
  rcases hv with rfl | rfl | rfl
  · exact ⟨⟨by show (-9223372036854775808 : Int) ≤ 0; omega, by show (0 : Int) ≤ 9223372036854775807; omega⟩, by simp⟩
  · exact ⟨⟨by show (-9223372036854775808 : Int) ≤ 5; omega, by show (5 : Int) ≤ 9223372036854775807; omega⟩, by simp⟩
  · exact ⟨⟨by show (-9223372036854775808 : Int) ≤ 0; omega, by show (0 : Int) ≤ 9223372036854775807; omega⟩, hb⟩
theorem known_valid (b : List UInt8) : ∀ v ∈ known b, valid v := by
  intro v hv
  simp only [known, List.mem_cons, List.not_mem_nil, or_false] at hv
  rcases hv with rfl | rfl | rfl <;> rfl
theorem known_len (b : List UInt8) : (enc (known b)).length ≤ 2 * b.length + 27 := by
  have h1 := code_length ⟨0, false, 0, []⟩ ⟨by show (-9223372036854775808 : Int) ≤ 0; omega, by show (0 : Int) ≤ 9223372036854775807; omega⟩
  have h2 := code_length ⟨2, false, 5, []⟩ ⟨by show (-9223372036854775808 : Int) ≤ 5; omega, by show (5 : Int) ≤ 9223372036854775807; omega⟩
  have h3 := code_length ⟨3, false, 0, b⟩ ⟨by show (-9223372036854775808 : Int) ≤ 0; omega, by show (0 : Int) ≤ 9223372036854775807; omega⟩
  simp only [List.length_nil] at h1 h2
  unfold known
  rw [enc_cons, enc_cons, enc_cons, List.length_append, List.length_append, List.length_append]
  have h4 : (enc []).length = 0 := rfl
  have h5 : ((⟨3, false, 0, b⟩ : V).text).length = b.length := rfl
  omega
theorem law_only (b : List UInt8) (hb : b.length ≤ 1048576) : ∃ k, tidemarklaw25_TupleOnly.f k (B b) = some true := by
  refine Ev.rounds (g := fun k => tidemarklaw25_TupleOnly.f k (B b)) ?_
  unfold tidemarklaw25_TupleOnly.f
  have hk := known_small b hb
  have hv := known_valid b
  have hl := known_len b
  have he := tencode_ev (known b) hk
  rw [encRes_pos hv] at he
  have hd := decode_says (enc (known b)) (by omega)
  rw [decRes_enc (ok_of hk hv)] at hd
  have hsame := same_any (known b) (known b) (by simp [known])
  rw [decide_eq_true rfl] at hsame
  show Ev (fun k => (some ((known b).map ofV)).bind fun y309 => _) true
  refine Ev.congr (fun k => by rw [Option.bind_some]) (Ev.bind he (Ev.bind hd ?_))
  refine Ev.congr (fun k => by rw [if_pos rfl, if_pos rfl]) (Ev.bind hsame ?_)
  refine Ev.step (fun k => by rw [tidemarklaw25_TupleOnly.j0, if_neg (by decide)]) ?_
  have hd2 := decode_says b (by omega)
  rcases dec_cases b with ⟨ts, h1, h2, h3⟩ | h3
  · rw [h3] at hd2
    have hst := small_of_enc h2 (by rw [← h1]; exact hb)
    have he2 := tencode_ev ts hst
    rw [encRes_pos (fun v h => (h2 v h).1), ← h1] at he2
    refine Ev.bind hd2 (Ev.congr (fun k => by rw [if_pos rfl]) (Ev.bind he2 ?_))
    refine Ev.congr (f := fun _ => some true) (fun k => ?_) (Ev.now _)
    rw [if_pos rfl]
    simp
  · rw [h3] at hd2
    refine Ev.bind hd2 (Ev.congr (f := fun _ => some true) (fun k => ?_) (Ev.now _))
    rw [if_neg (by decide), if_pos rfl]
    rfl

/-! ### TupleInside -/
/-! ### TupleOrder -/
end Go.Proofs.YtoieckmegdcaeaaDoor.T
end

section
namespace Go.Proofs.YtoieckmegdcaeaaDoor.Y
open Go.RowKit Go.Proofs.YtoieckmegdcaeaaDoorW.PrintWords
open Go.Proofs.YtoieckmegdcaeaaDoor.G Go.Proofs.YtoieckmegdcaeaaDoor.T
set_option linter.unusedVariables false
theorem c36 : Tryd.prog.cellsOf 36 = 4 := by kernel_rfl
theorem c34 : Tryd.prog.cellsOf 34 = 1 := by kernel_rfl
theorem c4 : Tryd.prog.cellsOf 4 = 1 := by kernel_rfl
theorem c2 : Tryd.prog.cellsOf 2 = 1 := by kernel_rfl
theorem c9 : Tryd.prog.cellsOf 9 = 1 := by kernel_rfl
theorem c22 : Tryd.prog.cellsOf 22 = 1 := by kernel_rfl
def rho36 (x : S36) : Prop := (Lit.int .i64 x.f2).wf = true
def mu36 (x : S36) : Nat := x.f3.size + 5
theorem opens36 : ∃ (ρ : S36 → Prop) (μ : S36 → Nat) (σ : S36 → Prop), Opens Tryd.prog 36 k36 ρ μ σ ∧ (∀ x, ρ x → rho36 x) ∧ (∀ x, mu36 x ≤ μ x) :=
  ⟨_, _, _, opens_iso (fun x : S36 => (x.f0, x.f1, x.f2, x.f3)) (fun a => (⟨a.1, a.2.1, a.2.2.1, a.2.2.2⟩ : S36)) (fun _ => rfl)
    (opens_struct Tryd.underlying36 rfl c36 (opensF_cons rfl c34 (opens_int Tryd.underlying34) (opensF_cons rfl c4 (opens_bool Tryd.underlying4) (opensF_cons rfl c2 (opens_int Tryd.underlying2) (opensF_one rfl c9 (opens_string Tryd.underlying9)))))),
    fun x h => h.2.2.1, fun x => by show x.f3.size + 5 ≤ 1 + (1 + (1 + (x.f3.size + 1))) + 1; omega⟩
/-- a list of values that came in: what each holds, what it weighs. -/
def rhoL (l : List S36) : Prop := ∀ x ∈ l, rho36 x
def muL (l : List S36) : Nat := (l.map mu36).sum
theorem opens22 : ∃ (ρ : List S36 → Prop) (μ : List S36 → Nat) (σ : List S36 → Prop), Opens Tryd.prog 22 (Kd.slice 36 k36) ρ μ σ ∧ (∀ x, ρ x → rhoL x) ∧ (∀ x, muL x ≤ μ x) := by
  obtain ⟨ρ, μ, σ, h, h1, h2⟩ := opens36
  refine ⟨_, _, _, opens_slice Tryd.underlying22 c36 h, fun l hl x hx => h1 x (hl.1 x hx), fun l => ?_⟩
  show muL l ≤ (l.map μ).sum + 1
  have : ∀ q : List S36, (q.map mu36).sum ≤ (q.map μ).sum := by
    intro q
    induction q with
    | nil => exact Nat.le_refl _
    | cons x q ih => have := h2 x; simp only [List.map_cons, List.sum_cons]; omega
  have := this l
  unfold muL
  omega
theorem muL_len (l : List S36) : 5 * l.length ≤ muL l := by
  unfold muL
  induction l with
  | nil => simp
  | cons x l ih => simp only [List.map_cons, List.sum_cons, List.length_cons]; unfold mu36 at *; omega
theorem muL_mem {l : List S36} {x : S36} (h : x ∈ l) : x.f3.size + 5 ≤ muL l := by
  unfold muL
  induction l with
  | nil => simp at h
  | cons y l ih =>
    simp only [List.map_cons, List.sum_cons]
    rcases List.mem_cons.1 h with rfl | h
    · unfold mu36; omega
    · have := ih h; omega
theorem muL_append (a b : List S36) : muL (a ++ b) = muL a + muL b := by unfold muL; rw [List.map_append, List.sum_append]
theorem wf_range {n : Int} (h : (Lit.int .i64 n).wf = true) : -9223372036854775808 ≤ n ∧ n ≤ 9223372036854775807 := by
  simp [Lit.wf, IntKind.min, IntKind.max, IntKind.signed, IntKind.bits] at h
  omega
theorem back (l : List S36) : (l.map toV).map ofV = l := by
  rw [List.map_map]
  conv => rhs; rw [← List.map_id l]
  apply List.map_congr_left
  intro s _
  exact ofV_toV s
theorem small_of {l : List S36} (hr : rhoL l) (hm : muL l ≤ 1048576) : Small (l.map toV) := by
  have h1 := muL_len l
  refine ⟨by rw [List.length_map]; omega, fun v hv => ?_⟩
  obtain ⟨s, hs, rfl⟩ := List.mem_map.1 hv
  have h2 := muL_mem hs
  refine ⟨wf_range (hr s hs), ?_⟩
  show s.f3.data.toList.length ≤ _
  rw [Array.length_toList]
  show s.f3.size ≤ _
  omega
theorem enc_of {l : List S36} (hr : rhoL l) : (enc (l.map toV)).length ≤ 2 * muL l := by
  induction l with
  | nil => simp [enc]
  | cons x l ih =>
    have h1 := code_length (toV x) (wf_range (hr x (by simp)))
    have h2 := ih (fun y hy => hr y (by simp [hy]))
    have e : (toV x).text.length = x.f3.size := by show x.f3.data.toList.length = _; rw [Array.length_toList]; rfl
    rw [List.map_cons, enc_cons, List.length_append]
    have e2 : muL (x :: l) = (x.f3.size + 5) + muL l := by unfold muL mu36; simp
    omega
/-- the library's variable MaxLen holds some number: by the world's shape. -/
theorem tb_of {W : World} (h : W.ShapedOpen Tryd.prog) : Tb W :=
  cell_of_shapedOpen_int (t := 3) (zero := #[.int .i64 0]) h (by decide +kernel) (by kernel_rfl) rfl (by kernel_rfl) (by kernel_rfl) Tryd.underlying3
end Go.Proofs.YtoieckmegdcaeaaDoor.Y
end
