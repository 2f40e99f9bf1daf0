-- Packed by a program of this session (pack.py) from texts of this claim.
import Derived.Test.YtoieckmegdcaeaaDoorKInside
import Derived.Test.YtoieckmegdcaeaaDoorP9
import Derived.Lib.Strings
import Derived.Test.YtoieckmegdcaeaaDoorP10a
import Derived.Test.YtoieckmegdcaeaaDoorP12a
import Derived.Test.YtoieckmegdcaeaaDoorP13
import Derived.Test.YtoieckmegdcaeaaDoorP11b
import Derived.Test.YtoieckmegdcaeaaDoorP12b
import Derived.Test.YtoieckmegdcaeaaDoorP10b
import Derived.Test.YtoieckmegdcaeaaDoorP14
import Derived.Test.YtoieckmegdcaeaaDoorP1b
import Derived.Test.YtoieckmegdcaeaaDoorP0TEnc2
import Derived.Test.YtoieckmegdcaeaaDoorP0TOrd
import Derived.Test.YtoieckmegdcaeaaDoorP0GRead
import Derived.Shelf.Vars
section
namespace Go.Proofs.YtoieckmegdcaeaaDoor.T
open Go.RowKit Go.Proofs.YtoieckmegdcaeaaDoorW.PrintWords Go.Proofs.YtoieckmegdcaeaaDoorW.PrintLast Go.Proofs.YtoieckmegdcaeaaDoorW.PrintMore
open Go.Proofs.YtoieckmegdcaeaaDoor.G
set_option linter.unusedVariables false
set_option linter.unusedSimpArgs false

theorem encRes_pos {l : List V} (h : ∀ v ∈ l, valid v) : encRes l = (B (enc l), 0) := if_pos h
theorem encRes_neg {l : List V} (h : ¬ ∀ v ∈ l, valid v) : encRes l = (B [], 1) := if_neg h
theorem encRes_size {l : List V} (hs : Small l) : (encRes l).1.size ≤ 2200000000000 := by
  have hln := hs.1
  by_cases h : ∀ v ∈ l, valid v
  · rw [encRes_pos h, B_size]
    have := enc_length l hs.2
    omega
  · rw [encRes_neg h, B_size]; simp
/-! ### TupleEncodes -/
/-! ### TupleSpans -/
def spanRes (l : List V) : ByteArray × ByteArray × Int := if ∀ v ∈ l, valid v then (B (enc l), B (enc l ++ [255]), 0) else (B [], B [], 1)
theorem tspan_ev (l : List V) (hs : Small l) : Ev (fun k => tuple_Span.f k (l.map ofV)) (spanRes l) := by
  unfold tuple_Span.f
  refine Ev.bind (tencode_ev l hs) ?_
  have hsz := encRes_size hs
  by_cases h : ∀ v ∈ l, valid v
  · unfold spanRes
    rw [encRes_pos h] at *
    rw [if_pos h]
    refine Ev.congr (f := fun _ => some (B (enc l), B (enc l ++ [255]), (0 : Int))) (fun k => ?_) (Ev.now _)
    rw [if_pos rfl, if_pos (by omega)]
    rw [← B_append]
    rfl
  · unfold spanRes
    rw [encRes_neg h, if_neg h]
    exact Ev.congr (f := fun _ => some (B [], B [], (1 : Int))) (fun k => by rw [if_neg (by decide)]; rfl) (Ev.now _)
/-! ### TupleJoins -/
theorem all_append {a b : List V} : (∀ v ∈ a ++ b, valid v) ↔ (∀ v ∈ a, valid v) ∧ (∀ v ∈ b, valid v) := by
  simp only [List.mem_append]
  exact ⟨fun h => ⟨fun v hv => h v (.inl hv), fun v hv => h v (.inr hv)⟩, fun h v hv => hv.elim (h.1 v) (h.2 v)⟩
/-! ### TupleRound -/
theorem ok_of {l : List V} (hs : Small l) (hv : ∀ v ∈ l, valid v) : Ok l := fun v h => ⟨hv v h, (hs.2 v h).1⟩
end Go.Proofs.YtoieckmegdcaeaaDoor.T
end

section
namespace Go.Proofs.YtoieckmegdcaeaaDoor.T
open Go.RowKit Go.Proofs.YtoieckmegdcaeaaDoorW.PrintWords Go.Proofs.YtoieckmegdcaeaaDoorW.PrintLast Go.Proofs.YtoieckmegdcaeaaDoorW.PrintMore
open Go.Proofs.YtoieckmegdcaeaaDoor.G
set_option linter.unusedVariables false
set_option linter.unusedSimpArgs false

theorem esc_ge : ∀ t : List UInt8, t.length ≤ (esc t).length
  | [] => Nat.le_refl _
  | c :: r => by
    have := esc_ge r
    rw [esc]
    split
    · simp only [List.length_cons]; omega
    · simp only [List.length_cons]; omega
theorem text_le {v : V} (hv : valid v) : v.text.length ≤ (code v).length := by
  rcases valid_cases hv with e | e | e | e
  · rw [e]; simp
  · rw [e]; simp
  · rw [e]; simp
  · have := esc_ge v.text
    rw [e]
    unfold code
    rw [if_neg (show ¬ (3 : Int) = 1 by decide), if_neg (show ¬ (3 : Int) = 2 by decide), if_pos (show (3 : Int) = 3 from rfl)]
    simp only [List.length_cons, List.length_append]
    omega
theorem small_of_enc {ts : List V} (h : Ok ts) (hl : (enc ts).length ≤ 1048576) : Small ts := by
  have hlen : ∀ l : List V, l.length ≤ (enc l).length := by
    intro l
    induction l with
    | nil => simp [enc]
    | cons v l ih =>
      have : 1 ≤ (code v).length := by
        cases hc : code v with
        | nil => exact absurd hc (code_ne v)
        | cons x y => simp
      rw [enc_cons, List.length_append, List.length_cons]; omega
  have hmem : ∀ (l : List V) (v : V), v ∈ l → (code v).length ≤ (enc l).length := by
    intro l v hv
    induction l with
    | nil => simp at hv
    | cons u l ih =>
      rw [enc_cons, List.length_append]
      rcases List.mem_cons.1 hv with rfl | hv
      · omega
      · have := ih hv; omega
  have := hlen ts
  refine ⟨by omega, fun v hv => ⟨(h v hv).2, ?_⟩⟩
  have h1 := text_le (h v hv).1
  have h2 := hmem ts v hv
  omega
/-- what Decode says. -/
theorem dec_cases (b : List UInt8) : (∃ ts, b = enc ts ∧ Ok ts ∧ decRes b = (ts.map ofV, 0)) ∨ decRes b = ([], 250) := by
  unfold decRes
  cases h : dec (b.length + 1) b with
  | none => exact .inr rfl
  | some ts =>
    obtain ⟨h1, h2⟩ := dec_inv _ b ts h
    exact .inl ⟨ts, h1, h2, rfl⟩

/-! ### TupleOnly -/
/-! ### TupleInside -/
def insB (x lo hi : List UInt8) : Bool := if lt x lo = true then false else if hi = [] then true else lt x hi
theorem inside_f (x lo hi : List UInt8) : locks_Inside.f (B x) (B lo) (B hi) = some (insB x lo hi) := by
  unfold locks_Inside.f insB
  simp only [B_toList]
  split
  · rfl
  · split <;> rfl
theorem ff_lt (x : List UInt8) : lt x [255] = true ↔ ¬ startsFF x := by
  cases x with
  | nil => simp [lt, Op.bytesLess, startsFF]
  | cons c r =>
    rw [lt_cons, lt_nil]
    have hc := c.toNat_lt
    have e : (255 : UInt8).toNat = 255 := rfl
    rw [e]
    show _ ↔ ¬ c = 255
    by_cases h : c = 255
    · subst h; simp
    · have : c.toNat ≠ 255 := fun he => h (UInt8.toNat_inj.1 he)
      rw [if_pos (by omega)]
      simp [h]
theorem insB_pre : ∀ (lo x : List UInt8), insB x lo (lo ++ [255]) = true ↔ ∃ y, x = lo ++ y ∧ ¬ startsFF y
  | [], x => by
    unfold insB
    rw [if_neg (by rw [lt_nil]; decide), if_neg (by simp), List.nil_append, ff_lt]
    exact ⟨fun h => ⟨x, rfl, h⟩, fun ⟨y, h1, h2⟩ => by rw [h1]; exact h2⟩
  | c :: lo, [] => by
    unfold insB
    rw [if_pos (show lt [] (c :: lo) = true from rfl)]
    simp
  | c :: lo, d :: x => by
    have ih := insB_pre lo x
    have hne : (c :: lo) ++ [255] ≠ [] := by simp
    have e : insB (d :: x) (c :: lo) (c :: lo ++ [255]) = true ↔ d = c ∧ insB x lo (lo ++ [255]) = true := by
      unfold insB
      rw [if_neg hne, if_neg (show ¬ lo ++ [255] = [] by simp), List.cons_append, lt_cons, lt_cons]
      by_cases h1 : d.toNat < c.toNat
      · have : d ≠ c := by rintro rfl; omega
        rw [if_pos h1, if_pos rfl]
        simp [this]
      · rw [if_neg h1]
        by_cases h2 : c.toNat < d.toNat
        · have : d ≠ c := by rintro rfl; omega
          rw [if_pos h2, if_neg (by decide), if_neg h1, if_pos h2]
          simp [this]
        · have : d = c := UInt8.toNat_inj.1 (by omega)
          rw [if_neg h2, if_neg h1, if_neg h2]
          simp [this]
    rw [e, ih]
    constructor
    · rintro ⟨rfl, y, h1, h2⟩; exact ⟨y, by rw [h1]; rfl, h2⟩
    · rintro ⟨y, h1, h2⟩
      rw [List.cons_append] at h1
      injection h1 with h3 h4
      exact ⟨h3, y, h4, h2⟩
theorem start_app {a : List V} (h : Ok a) {y : List UInt8} (hy : ¬ startsFF y) : ¬ startsFF (enc a ++ y) := by
  cases a with
  | nil => exact hy
  | cons v a => rw [enc_cons, List.append_assoc]; exact code_start v h.cons.2.1 _
theorem enc_pre : ∀ (p t : List V) (y : List UInt8), Ok p → Ok t → ¬ startsFF y → enc t = enc p ++ y → ∃ s, t = p ++ s
  | [], t, y, _, _, _, _ => ⟨t, rfl⟩
  | v :: p, [], y, hp, _, _, h => by
    rw [enc_cons, List.append_assoc] at h
    have : code v ++ (enc p ++ y) = [] := h.symm
    exact absurd (List.append_eq_nil_iff.1 this).1 (code_ne v)
  | v :: p, u :: t, y, hp, ht, hy, h => by
    rw [enc_cons, enc_cons, List.append_assoc] at h
    have f1 := first_code u ht.cons.1 ht.cons.2.1 (enc t) (enc_start t ht.cons.2.2)
    have f2 := first_code v hp.cons.1 hp.cons.2.1 (enc p ++ y) (start_app hp.cons.2.2 hy)
    rw [h, f2] at f1
    have e := Option.some.inj f1
    injection e with e1 e2
    obtain ⟨s, hs⟩ := enc_pre p t y hp.cons.2.2 ht.cons.2.2 hy e2.symm
    exact ⟨s, by rw [hs, e1]; rfl⟩
theorem inside_iff (p t : List V) (hp : Ok p) (ht : Ok t) : insB (enc t) (enc p) (enc p ++ [255]) = true ↔ ∃ s, t = p ++ s := by
  rw [insB_pre]
  constructor
  · rintro ⟨y, h1, h2⟩; exact enc_pre p t y hp ht h2 h1
  · rintro ⟨s, rfl⟩
    exact ⟨enc s, enc_append p s, enc_start s (fun v hv => ht v (List.mem_append_right _ hv))⟩
/-- does t begin with p? -/
def begB (t p : List V) : Bool := decide (t.take p.length = p)
theorem begB_iff (t p : List V) : begB t p = true ↔ ∃ s, t = p ++ s := by
  unfold begB
  rw [decide_eq_true_iff]
  constructor
  · intro h
    refine ⟨t.drop p.length, ?_⟩
    have := List.take_append_drop p.length t
    rw [h] at this
    exact this.symm
  · rintro ⟨s, rfl⟩; exact List.take_left
theorem begins_ev (t p : List V) (ht : t.length ≤ 2097152) : Ev (fun k => tidemarklaw25_begins.f k (t.map ofV) (p.map ofV)) (begB t p) := by
  unfold tidemarklaw25_begins.f
  by_cases hl : t.length ≥ p.length
  · have hs := same_any (t.take p.length) p (by rw [List.length_take]; omega)
    refine Ev.congr (fun k => ?_) (Ev.bind hs (Ev.now _))
    rw [if_pos (by rw [List.length_map, List.length_map]; omega), if_pos (by omega), if_pos (by rw [List.length_map, List.length_map]; omega), List.length_map]
    rw [show (((p.length : Nat) : Int) : Int).toNat = p.length from rfl, ← List.map_take]
  · have : begB t p = false := by
      unfold begB
      rw [decide_eq_false_iff_not]
      intro h
      have := congrArg List.length h
      rw [List.length_take] at this
      omega
    rw [this]
    exact Ev.congr (f := fun _ => some false) (fun k => by rw [if_neg (by rw [List.length_map, List.length_map]; omega)]) (Ev.now _)
theorem inside_ev (p t : List V) (hp : Ok p) (ht : Ok t) : locks_Inside.f (B (enc t)) (B (enc p)) (B (enc p ++ [255])) = some (begB t p) := by
  rw [inside_f]
  congr 1
  rw [Bool.eq_iff_iff, begB_iff]
  exact inside_iff p t hp ht
theorem spanRes_pos {l : List V} (h : ∀ v ∈ l, valid v) : spanRes l = (B (enc l), B (enc l ++ [255]), 0) := if_pos h
theorem spanRes_neg {l : List V} (h : ¬ ∀ v ∈ l, valid v) : spanRes l = (B [], B [], 1) := if_neg h
theorem law_inside (p t : List V) (key : List UInt8) (hp : Small p) (ht : Small t) (hpt : Small (p ++ t)) (hk : key.length ≤ 1048576) : ∃ k, tidemarklaw25_TupleInside.f k (p.map ofV) (t.map ofV) (B key) = some true := by
  refine Ev.rounds (g := fun k => tidemarklaw25_TupleInside.f k (p.map ofV) (t.map ofV) (B key)) ?_
  unfold tidemarklaw25_TupleInside.f
  have bad : ((¬ ∀ v ∈ p, valid v) ∨ (¬ ∀ v ∈ t, valid v)) → Ev (fun k => tidemarklaw25_TupleInside.j0 k true (p.map ofV) (t.map ofV) (B key)) true := by
    intro _
    refine Ev.step (fun k => by rw [tidemarklaw25_TupleInside.j0, if_pos rfl]) (Ev.bind (own_any p hp.1) (Ev.bind (tspan_ev p hp) (Ev.bind (rvalid_ev p hp.1) ?_)))
    by_cases vp : ∀ v ∈ p, valid v
    · rw [spanRes_pos vp, if_pos vp]; exact Ev.now _
    · rw [spanRes_neg vp, if_neg vp]; exact Ev.now _
  refine Ev.bind (rvalid_ev p hp.1) ?_
  by_cases vp : ∀ v ∈ p, valid v
  · rw [if_pos vp]
    refine Ev.congr (fun k => by rw [if_pos rfl]) (Ev.bind (rvalid_ev t ht.1) ?_)
    by_cases vt : ∀ v ∈ t, valid v
    · rw [if_pos vt]
      have op := ok_of hp vp
      have ot := ok_of ht vt
      have opt : Ok (p ++ t) := fun v hv => (List.mem_append.1 hv).elim (op v) (ot v)
      have hspan := tspan_ev p hp
      rw [spanRes_pos vp] at hspan
      have ht1 := tencode_ev t ht
      rw [encRes_pos vt] at ht1
      have hpt1 := tencode_ev (p ++ t) hpt
      rw [encRes_pos (all_append.2 ⟨vp, vt⟩)] at hpt1
      refine Ev.step (fun k => by rw [tidemarklaw25_TupleInside.j0, if_neg (by decide)]) (Ev.bind (own_any p hp.1) (Ev.bind hspan (Ev.bind (own_any t ht.1) (Ev.bind ht1 (Ev.bind (joined_ev p t hp.1 ht.1) (Ev.bind hpt1 ?_))))))
      refine Ev.congr (fun k => by rw [if_pos rfl, if_pos rfl, if_pos rfl, inside_ev p (p ++ t) op opt, Option.bind_some, (begB_iff (p ++ t) p).2 ⟨t, rfl⟩]) ?_
      refine Ev.step (fun k => by rw [tidemarklaw25_TupleInside.j1, if_neg (by decide), inside_ev p t op ot, Option.bind_some]) (Ev.bind (begins_ev t p (by have := ht.1; omega)) ?_)
      refine Ev.congr (fun k => by rw [if_neg (by simp)]) ?_
      have hd := decode_says key (by omega)
      rcases dec_cases key with ⟨ts, h1, h2, h3⟩ | h3
      · rw [h3] at hd
        have hst := small_of_enc h2 (by rw [← h1]; exact hk)
        refine Ev.bind hd (Ev.congr (fun k => by rw [if_pos rfl, h1, inside_ev p ts op h2, Option.bind_some]) (Ev.bind (begins_ev ts p (by have := hst.1; omega)) ?_))
        exact Ev.congr (f := fun _ => some true) (fun k => by simp) (Ev.now _)
      · rw [h3] at hd
        exact Ev.bind hd (Ev.congr (f := fun _ => some true) (fun k => by rw [if_neg (by decide)]) (Ev.now _))
    · rw [if_neg vt]
      exact bad (.inr vt)
  · rw [if_neg vp]
    exact Ev.congr (fun k => by rw [if_neg (by decide)]) (bad (.inl vp))

/-! ### TupleOrder -/
end Go.Proofs.YtoieckmegdcaeaaDoor.T
end

section
namespace Go.Proofs.YtoieckmegdcaeaaDoor.Y
open Go.RowKit Go.Proofs.YtoieckmegdcaeaaDoorW.PrintWords
open Go.Proofs.YtoieckmegdcaeaaDoor.G Go.Proofs.YtoieckmegdcaeaaDoor.T
set_option linter.unusedVariables false
theorem c36 : Tryd.prog.cellsOf 36 = 4 := by kernel_rfl
theorem c34 : Tryd.prog.cellsOf 34 = 1 := by kernel_rfl
theorem c4 : Tryd.prog.cellsOf 4 = 1 := by kernel_rfl
theorem c2 : Tryd.prog.cellsOf 2 = 1 := by kernel_rfl
theorem c9 : Tryd.prog.cellsOf 9 = 1 := by kernel_rfl
theorem c22 : Tryd.prog.cellsOf 22 = 1 := by kernel_rfl
def rho36 (x : S36) : Prop := (Lit.int .i64 x.f2).wf = true
def mu36 (x : S36) : Nat := x.f3.size + 5
theorem opens36 : ∃ (ρ : S36 → Prop) (μ : S36 → Nat) (σ : S36 → Prop), Opens Tryd.prog 36 k36 ρ μ σ ∧ (∀ x, ρ x → rho36 x) ∧ (∀ x, mu36 x ≤ μ x) :=
  ⟨_, _, _, opens_iso (fun x : S36 => (x.f0, x.f1, x.f2, x.f3)) (fun a => (⟨a.1, a.2.1, a.2.2.1, a.2.2.2⟩ : S36)) (fun _ => rfl)
    (opens_struct Tryd.underlying36 rfl c36 (opensF_cons rfl c34 (opens_int Tryd.underlying34) (opensF_cons rfl c4 (opens_bool Tryd.underlying4) (opensF_cons rfl c2 (opens_int Tryd.underlying2) (opensF_one rfl c9 (opens_string Tryd.underlying9)))))),
    fun x h => h.2.2.1, fun x => by show x.f3.size + 5 ≤ 1 + (1 + (1 + (x.f3.size + 1))) + 1; omega⟩
/-- a list of values that came in: what each holds, what it weighs. -/
def rhoL (l : List S36) : Prop := ∀ x ∈ l, rho36 x
def muL (l : List S36) : Nat := (l.map mu36).sum
theorem opens22 : ∃ (ρ : List S36 → Prop) (μ : List S36 → Nat) (σ : List S36 → Prop), Opens Tryd.prog 22 (Kd.slice 36 k36) ρ μ σ ∧ (∀ x, ρ x → rhoL x) ∧ (∀ x, muL x ≤ μ x) := by
  obtain ⟨ρ, μ, σ, h, h1, h2⟩ := opens36
  refine ⟨_, _, _, opens_slice Tryd.underlying22 c36 h, fun l hl x hx => h1 x (hl.1 x hx), fun l => ?_⟩
  show muL l ≤ (l.map μ).sum + 1
  have : ∀ q : List S36, (q.map mu36).sum ≤ (q.map μ).sum := by
    intro q
    induction q with
    | nil => exact Nat.le_refl _
    | cons x q ih => have := h2 x; simp only [List.map_cons, List.sum_cons]; omega
  have := this l
  unfold muL
  omega
theorem muL_len (l : List S36) : 5 * l.length ≤ muL l := by
  unfold muL
  induction l with
  | nil => simp
  | cons x l ih => simp only [List.map_cons, List.sum_cons, List.length_cons]; unfold mu36 at *; omega
theorem muL_mem {l : List S36} {x : S36} (h : x ∈ l) : x.f3.size + 5 ≤ muL l := by
  unfold muL
  induction l with
  | nil => simp at h
  | cons y l ih =>
    simp only [List.map_cons, List.sum_cons]
    rcases List.mem_cons.1 h with rfl | h
    · unfold mu36; omega
    · have := ih h; omega
theorem muL_append (a b : List S36) : muL (a ++ b) = muL a + muL b := by unfold muL; rw [List.map_append, List.sum_append]
theorem wf_range {n : Int} (h : (Lit.int .i64 n).wf = true) : -9223372036854775808 ≤ n ∧ n ≤ 9223372036854775807 := by
  simp [Lit.wf, IntKind.min, IntKind.max, IntKind.signed, IntKind.bits] at h
  omega
theorem back (l : List S36) : (l.map toV).map ofV = l := by
  rw [List.map_map]
  conv => rhs; rw [← List.map_id l]
  apply List.map_congr_left
  intro s _
  exact ofV_toV s
theorem small_of {l : List S36} (hr : rhoL l) (hm : muL l ≤ 1048576) : Small (l.map toV) := by
  have h1 := muL_len l
  refine ⟨by rw [List.length_map]; omega, fun v hv => ?_⟩
  obtain ⟨s, hs, rfl⟩ := List.mem_map.1 hv
  have h2 := muL_mem hs
  refine ⟨wf_range (hr s hs), ?_⟩
  show s.f3.data.toList.length ≤ _
  rw [Array.length_toList]
  show s.f3.size ≤ _
  omega
theorem enc_of {l : List S36} (hr : rhoL l) : (enc (l.map toV)).length ≤ 2 * muL l := by
  induction l with
  | nil => simp [enc]
  | cons x l ih =>
    have h1 := code_length (toV x) (wf_range (hr x (by simp)))
    have h2 := ih (fun y hy => hr y (by simp [hy]))
    have e : (toV x).text.length = x.f3.size := by show x.f3.data.toList.length = _; rw [Array.length_toList]; rfl
    rw [List.map_cons, enc_cons, List.length_append]
    have e2 : muL (x :: l) = (x.f3.size + 5) + muL l := by unfold muL mu36; simp
    omega
/-- the library's variable MaxLen holds some number: by the world's shape. -/
theorem tb_of {W : World} (h : W.ShapedOpen Tryd.prog) : Tb W :=
  cell_of_shapedOpen_int (t := 3) (zero := #[.int .i64 0]) h (by decide +kernel) (by kernel_rfl) rfl (by kernel_rfl) (by kernel_rfl) Tryd.underlying3
end Go.Proofs.YtoieckmegdcaeaaDoor.Y
end
