-- Packed by a program of this session (pack.py) from texts of this claim.
import Derived.Test.YtoieckmegdcaeaaDoorRows
import Derived.Test.YtoieckmegdcaeaaDoorP8
import Derived.Deep.Slices
import Derived.WideShapes
import Derived.ChangeArms
section
namespace Go.Proofs.YtoieckmegdcaeaaDoor.G
open Go.RowKit Go.Proofs.YtoieckmegdcaeaaDoorW.PrintWords Go.Proofs.YtoieckmegdcaeaaDoorW.PrintLast Go.Proofs.YtoieckmegdcaeaaDoorW.PrintMore
open Go.ChangeShapes Go.WideShapes

theorem bulkAll_append {H : Type} (l r : List (DataW H)) : Rows.uptoBulkAll (l ++ r) = Rows.uptoBulkAll l + Rows.uptoBulkAll r := by
  induction l with
  | nil => simp [Rows.uptoBulkAll]
  | cons x l ih => simp only [List.cons_append, Rows.uptoBulkAll, ih]; omega

/-- Whatever reads as a value of type t is a 'd', of which ρ holds, and which weighs at least μ. -/
structure Opens {α : Type} (P : Program) (t : TypeId) (d : Kd α) (ρ : α → Prop) (μ : α → Nat) (σ : α → Prop) : Prop where
  out : ∀ {H : Type} {enc : TypeId × Value → H} {w : World} {base : Nat} {spare : Nat → Bool} {held : Bool} {fuel : Nat} {cs : List Value} {x : DataW H × List MemPlace},
    DataW.trod enc P w base spare held fuel t cs = some x → ∃ a, d.K w a cs ∧ ρ a ∧ μ a ≤ Rows.uptoBulk x.1 ∧ ((x.1.weights P t).all (· ≤ reachBytes) = true → σ a)
theorem opens_int {P : Program} {t : TypeId} {k : IntKind} (ht : P.underlying t = some (.int k)) : Opens P t (Kd.int k) (fun n => (Lit.int k n).wf = true) (fun _ => 1) (fun _ => True) := by
  constructor
  intro H enc w base spare held fuel cs x h
  obtain ⟨n, rfl, rfl, hw⟩ := DataW.trod_int ht h
  exact ⟨n, rfl, hw, by simp [Rows.uptoBulk], fun _ => trivial⟩
theorem opens_bool {P : Program} {t : TypeId} (ht : P.underlying t = some .bool) : Opens P t Kd.bool (fun _ => True) (fun _ => 1) (fun _ => True) := by
  constructor
  intro H enc w base spare held fuel cs x h
  obtain ⟨b, rfl, rfl⟩ := DataW.trod_bool ht h
  exact ⟨b, rfl, trivial, by simp [Rows.uptoBulk], fun _ => trivial⟩
theorem opens_string {P : Program} {t : TypeId} (ht : P.underlying t = some .string) : Opens P t Kd.string (fun s => s.size ≤ maxLen) (fun s => s.size + 1) (fun _ => True) := by
  constructor
  intro H enc w base spare held fuel cs x h
  obtain ⟨s, rfl, rfl, hs⟩ := DataW.trod_string ht h
  refine ⟨s, rfl, hs, ?_, fun _ => trivial⟩
  simp only [Rows.uptoBulk, Array.length_toList]
  exact Nat.le_refl _
theorem opens_iso {α β : Type} {P : Program} {t : TypeId} {d : Kd α} {ρ : α → Prop} {μ : α → Nat} {σ : α → Prop} (f : β → α) (g : α → β) (hfg : ∀ a, f (g a) = a) (h : Opens P t d ρ μ σ) : Opens P t (Kd.iso d f) (fun b => ρ (f b)) (fun b => μ (f b)) (fun b => σ (f b)) := by
  constructor
  intro H enc w base spare held fuel cs x hx
  obtain ⟨a, hk, hr, hm, hs⟩ := h.out hx
  exact ⟨g a, by show d.K w (f (g a)) cs; rw [hfg]; exact hk, by show ρ (f (g a)); rw [hfg]; exact hr, by show μ (f (g a)) ≤ _; rw [hfg]; exact hm, by show _ → σ (f (g a)); rw [hfg]; exact hs⟩
theorem opens_slice {α : Type} {P : Program} {t e : TypeId} {d : Kd α} {ρ : α → Prop} {μ : α → Nat} {σ : α → Prop} (ht : P.underlying t = some (.slice e)) (hs : P.cellsOf e = d.sz) (h : Opens P e d ρ μ σ) :
    Opens P t (Kd.slice e d) (fun l => (∀ a ∈ l, ρ a) ∧ l.length ≤ maxLen) (fun l => (l.map μ).sum + 1) (fun l => l.length * P.bytesOf e ≤ reachBytes) := by
  constructor
  intro H enc w base spare held fuel cs x hx
  rcases Go.Deep.open_slice ht hx with ⟨rfl, rfl⟩ | ⟨a, len, cap, m, n, D, Pl, rfl, hb, hl, hm, hmm, rfl, hel⟩
  · exact ⟨[], ⟨none, 0, rfl, Nat.le_refl _, Kd.C_nil d w⟩, ⟨fun a ha => by simp at ha, by simp⟩, by simp [Rows.uptoBulk], fun _ => by simp⟩
  · have hlm : len ≤ m := by rw [hmm]; split <;> omega
    have one : ∀ i, i < len → ∃ (v : α) (cs' : List Value), w.cells? base (a.add (i * P.cellsOf e)) (P.cellsOf e) = some cs' ∧ d.K w v cs' ∧ ρ v ∧ μ v ≤ Rows.uptoBulk (D i) := fun i hi => by
      obtain ⟨cs', hc, ht'⟩ := hel i (by omega)
      obtain ⟨v, hk, hr, hmu, _⟩ := h.out ht'
      exact ⟨v, cs', hc, hk, hr, hmu⟩
    have all : ∀ k, k ≤ len → ∃ l : List α, l.length = k ∧ ∀ i v, l[i]? = some v → ∃ cs' : List Value, w.cells? base (a.add (i * P.cellsOf e)) (P.cellsOf e) = some cs' ∧ d.K w v cs' ∧ ρ v ∧ μ v ≤ Rows.uptoBulk (D i) := by
      intro k
      induction k with
      | zero => exact fun _ => ⟨[], rfl, fun i v hv => by simp at hv⟩
      | succ k ih =>
        intro hk
        obtain ⟨l, hl1, hl2⟩ := ih (by omega)
        obtain ⟨v, cs', h1, h2, h3, h4⟩ := one k (by omega)
        refine ⟨l ++ [v], by simp [hl1], fun i u hu => ?_⟩
        by_cases hi : i < l.length
        · rw [List.getElem?_append_left hi] at hu; exact hl2 i u hu
        · rw [List.getElem?_append_right (by omega)] at hu
          have h0 : i - l.length = 0 := by
            cases hz : i - l.length with
            | zero => rfl
            | succ z => rw [hz] at hu; simp at hu
          obtain rfl : i = k := by omega
          rw [h0] at hu
          obtain rfl : v = u := by simpa using hu
          exact ⟨cs', h1, h2, h3, h4⟩
    obtain ⟨l, hl1, hl2⟩ := all len (Nat.le_refl _)
    subst hl1
    refine ⟨l, ⟨some a, cap, rfl, hl, ⟨rfl, by unfold maxLen at hm; omega, fun _ => ⟨a, rfl, fun j p hp => ?_⟩⟩⟩, ⟨fun v hv => ?_, by omega⟩, ?_, ?_⟩
    · obtain ⟨cs', hc, hk, _⟩ := hl2 j p hp
      refine ⟨cs', d.K_len hk, hk, fun i u hu => ?_⟩
      have hlen := d.K_len hk
      have hi : i < d.sz := by
        rw [← hlen]; exact (List.getElem?_eq_some_iff.1 hu).1
      have hcell := (World.cells?_some hc).2.2 i (by rw [hs]; exact hi)
      rw [hs, Addr.add_add] at hcell
      rw [hcell, hu]
    · obtain ⟨i, hi⟩ := List.mem_iff_getElem?.1 hv
      obtain ⟨_, _, _, hr, _⟩ := hl2 i v hi
      exact hr
    · simp only [Rows.uptoBulk]
      have hsum : ∀ (q : List α) (o : Nat), (∀ i v, q[i]? = some v → μ v ≤ Rows.uptoBulk (D (o + i))) → (q.map μ).sum ≤ Rows.uptoBulkAll ((List.range' o q.length).map D) := by
        intro q
        induction q with
        | nil => intro o _; simp
        | cons v q ih =>
          intro o hq
          have h0 := hq 0 v rfl
          have h1 := ih (o + 1) (fun i u hu => by have := hq (i + 1) u (by simpa using hu); rwa [show o + 1 + i = o + (i + 1) from by omega])
          simp only [List.map_cons, List.sum_cons, List.length_cons, List.range'_succ, Rows.uptoBulkAll]
          simp only [Nat.add_zero] at h0
          omega
      have h1 := hsum l 0 (fun i v hv => by obtain ⟨_, _, _, _, hmu⟩ := hl2 i v hv; simpa using hmu)
      rw [← List.range_eq_range'] at h1
      omega
    · intro hw
      simp only [DataW.weights, ht, List.all_cons, Bool.and_eq_true, decide_eq_true_eq, List.length_map, List.length_range] at hw
      have h1 := hw.1
      refine Nat.le_trans (Nat.mul_le_mul_right _ ?_) h1
      omega

/-- The fields of a struct, from cell 'off' on. -/
structure OpensF {α : Type} (P : Program) (fs : List Field) (off : Nat) (d : Kd α) (ρ : α → Prop) (μ : α → Nat) (σ : α → Prop) : Prop where
  out : ∀ {H : Type} {enc : TypeId × Value → H} {w : World} {base : Nat} {spare : Nat → Bool} {held : Bool} {n : Nat} {cs : List Value} {xs : List (DataW H × List MemPlace)},
    cs.length = off + d.sz → xs.length = fs.length → (∀ (i : Nat) (f : Field), fs[i]? = some f → DataW.trod enc P w base spare held n f.type ((cs.drop f.offset).take (P.cellsOf f.type)) = xs[i]?) →
    ∃ a, d.K w a (cs.drop off) ∧ ρ a ∧ μ a ≤ Rows.uptoBulkAll (xs.map (·.1)) ∧ ((DataW.weightsEach P (fs.map (·.type)) (xs.map (·.1))).all (· ≤ reachBytes) = true → σ a)
theorem opensF_one {α : Type} {P : Program} {f : Field} {off : Nat} {d : Kd α} {ρ : α → Prop} {μ : α → Nat} {σ : α → Prop} (ho : f.offset = off) (hs : P.cellsOf f.type = d.sz) (h : Opens P f.type d ρ μ σ) : OpensF P [f] off d ρ μ σ := by
  constructor
  intro H enc w base spare held n cs xs hc hx hf
  have h0 := hf 0 f rfl
  match xs, hx with
  | [x], _ =>
    simp only [List.getElem?_cons_zero] at h0
    obtain ⟨a, hk, hr, hm, hσ⟩ := h.out h0
    rw [ho, hs, List.take_of_length_le (by rw [List.length_drop]; omega)] at hk
    refine ⟨a, hk, hr, by simp only [List.map_cons, List.map_nil, Rows.uptoBulkAll]; omega, fun hw => ?_⟩
    simp only [List.map_cons, List.map_nil, DataW.weightsEach, List.append_nil] at hw
    exact hσ hw
theorem opensF_cons {α β : Type} {P : Program} {f : Field} {fs : List Field} {off : Nat} {d : Kd α} {d' : Kd β} {ρ : α → Prop} {ρ' : β → Prop} {μ : α → Nat} {μ' : β → Nat} {σ : α → Prop} {σ' : β → Prop} (ho : f.offset = off) (hs : P.cellsOf f.type = d.sz)
    (h : Opens P f.type d ρ μ σ) (h' : OpensF P fs (off + d.sz) d' ρ' μ' σ') : OpensF P (f :: fs) off (Kd.pair d d') (fun x => ρ x.1 ∧ ρ' x.2) (fun x => μ x.1 + μ' x.2) (fun x => σ x.1 ∧ σ' x.2) := by
  constructor
  intro H enc w base spare held n cs xs hc hx hf
  have h0 := hf 0 f rfl
  match xs, hx with
  | x :: xs, hx =>
    simp only [List.getElem?_cons_zero] at h0
    obtain ⟨a, hk, hr, hm, hσ⟩ := h.out h0
    have hc' : cs.length = off + d.sz + d'.sz := by rw [hc]; show off + (d.sz + d'.sz) = _; omega
    obtain ⟨b, hk', hr', hm', hσ'⟩ := h'.out (xs := xs) hc' (by simpa using hx) (fun i g hg => by simpa using hf (i + 1) g (by simpa using hg))
    rw [ho, hs] at hk
    refine ⟨(a, b), ⟨(cs.drop off).take d.sz, cs.drop (off + d.sz), ?_, hk, hk'⟩, ⟨hr, hr'⟩, by simp only [List.map_cons, Rows.uptoBulkAll]; omega, fun hw => ?_⟩
    · rw [← List.drop_drop, List.take_append_drop]
    · simp only [List.map_cons, DataW.weightsEach, List.all_append, Bool.and_eq_true] at hw
      exact ⟨hσ hw.1, hσ' hw.2⟩
theorem opens_struct {α : Type} {P : Program} {t : TypeId} {fs : Array Field} {l : List Field} {d : Kd α} {ρ : α → Prop} {μ : α → Nat} {σ : α → Prop} (ht : P.underlying t = some (.struct fs)) (hl : fs.toList = l) (hs : P.cellsOf t = d.sz) (h : OpensF P l 0 d ρ μ σ) :
    Opens P t d ρ (fun a => μ a + 1) σ := by
  constructor
  intro H enc w base spare held fuel cs x hx
  obtain ⟨xs, n, _, rfl, hc, hx1, hf⟩ := DataW.trod_struct ht hx
  obtain ⟨a, hk, hr, hm, hσ⟩ := h.out (w := w) (cs := cs) (xs := xs) (by omega) (by rw [← hl]; simpa using hx1) (fun i f hfi => hf i f (by rw [← hl] at hfi; simpa using hfi))
  refine ⟨a, by simpa using hk, hr, by simp only [Rows.uptoBulk]; omega, fun hw => ?_⟩
  simp only [DataW.weights, ht, hl] at hw
  exact hσ hw
end Go.Proofs.YtoieckmegdcaeaaDoor.G
end
