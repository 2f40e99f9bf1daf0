/-
  RouteCut's plain law: what the printed functions come to.
-/
import Derived.Test.YtmcdeglocjhggaaDoorGf3
import Derived.Test.YtmcdeglocjhggaaDoorTByt
import Derived.Test.YtmcdeglocjhggaaDoorTOrd
namespace Go.Proofs.YtmcdeglocjhggaaDoor.T
open Go.RowKit Go.Proofs.YtmcdeglocjhggaaDoorW.PrintWords Go.Proofs.YtmcdeglocjhggaaDoorW.PrintLast Go.Proofs.YtmcdeglocjhggaaDoorW.PrintMore
open G (bytesLess_irrefl S37 S40 S51 rd_T37 rd_T40 rd_T51)
set_option linter.unusedVariables false
set_option linter.unusedSimpArgs false
set_option linter.unusedSectionVars false

theorem wnn (i : Nat) (h : i < 9223372036854775807) : wrap64 ((i : Int) + 1) = ((i + 1 : Nat) : Int) := by rw [w64] <;> omega
theorem wsub (i : Nat) (h : i < 9223372036854775807) : wrap64 (((i + 1 : Nat) : Int) - 1) = (i : Int) := by rw [w64] <;> omega
theorem rd_at {l : List ByteArray} {i : Nat} {k : ByteArray} {r : List ByteArray} (h : l.drop i = k :: r) : rdOf ByteArray.empty l (i : Int) = k := by
  have h0 : l[i]? = some k := by
    have := congrArg (fun q : List ByteArray => q[0]?) h
    simpa using this
  simp [rdOf, List.getD_eq_getElem?_getD, h0]
theorem tl_nil : (⟨#[]⟩ : ByteArray).toList = ([] : List UInt8) := by rw [Lib.toList_data]
theorem size_toList (k : ByteArray) : k.toList.length = k.size := by rw [Lib.toList_data, Array.length_toList]; rfl
theorem bool_not_true {b : Bool} : ¬ b = true ↔ b = false := by cases b <;> simp

/-- a valid configuration. -/
def okc (a0 a1 : Int) (l : List ByteArray) (a3 a4 : Int) : Bool :=
  (decide (1 ≤ a0) && decide (a0 ≤ 6)) && ((decide (1 ≤ a1) && decide (a1 ≤ 6)) && ((decide (256 ≤ a3) && decide (a3 ≤ 1048576)) && ((decide (0 ≤ a4) && decide (a4 ≤ 16)) && (((l.length : Int) == a0 - 1) && Srt [] l))))
theorem okc_iff {a0 a1 : Int} {l : List ByteArray} {a3 a4 : Int} : okc a0 a1 l a3 a4 = true ↔ (1 ≤ a0 ∧ a0 ≤ 6) ∧ (1 ≤ a1 ∧ a1 ≤ 6) ∧ (256 ≤ a3 ∧ a3 ≤ 1048576) ∧ (0 ≤ a4 ∧ a4 ≤ 16) ∧ (l.length : Int) = a0 - 1 ∧ Srt [] l = true := by
  simp [okc, and_assoc]

section
variable {a0 a1 a3 a4 a5 : Int} {l : List ByteArray}

theorem valid_l0 (hl : l.length < 9223372036854775807) : ∀ (r : List ByteArray) (i : Nat) (last : ByteArray), l.drop i = r →
    Ev (fun k => G.route_valid.l0 k last l (l.length : Int) (i : Int)) (Srt last.toList r)
  | [], i, last, h => by
    have hge : l.length ≤ i := List.drop_eq_nil_iff.mp h
    exact Ev.step (f := fun _ => some true) (fun k => by rw [G.route_valid.l0, if_neg (by omega)]) (Ev.now _)
  | k :: r, i, last, h => by
    obtain ⟨h1, h2, h3⟩ := drop_cons_lt h
    have hk := rd_at h
    cases c1 : lt last.toList k.toList with
    | false =>
      have e : Srt last.toList (k :: r) = false := by simp [Srt, c1]
      rw [e]
      exact Ev.step (f := fun _ => some false) (fun n => by rw [G.route_valid.l0, if_pos (by omega), if_pos (by omega), if_pos (by omega), hk, if_neg (by rw [show Op.bytesLess last.toList k.toList = false from c1]; decide)]) (Ev.now _)
    | true =>
      by_cases c2 : k.size ≤ 32
      · have e : Srt last.toList (k :: r) = Srt k.toList r := by simp [Srt, c1, c2]
        rw [e]
        refine Ev.step (f := fun n => G.route_valid.l0 n k l (l.length : Int) ((i + 1 : Nat) : Int)) (fun n => ?_) (valid_l0 hl r (i + 1) k h2)
        rw [G.route_valid.l0, if_pos (by omega), if_pos (by omega), if_pos (by omega), hk, if_pos c1, if_neg (by omega), wnn i (by omega)]
      · have e : Srt last.toList (k :: r) = false := by simp [Srt, c2]
        rw [e]
        exact Ev.step (f := fun _ => some false) (fun n => by rw [G.route_valid.l0, if_pos (by omega), if_pos (by omega), if_pos (by omega), hk, if_pos c1, if_pos (by omega)]) (Ev.now _)
theorem valid_j0 (hl : l.length < 9223372036854775807) (b : Bool) : Ev (fun k => G.route_valid.j0 k b a0 a1 l a3 a4 a5) (!b && Srt [] l) := by
  cases b with
  | true => exact Ev.step (f := fun _ => some false) (fun k => by rw [G.route_valid.j0, if_pos rfl]) (Ev.now _)
  | false =>
    have := valid_l0 hl l 0 ⟨#[]⟩ rfl
    rw [tl_nil] at this
    exact Ev.step (f := fun k => G.route_valid.l0 k ⟨#[]⟩ l (l.length : Int) 0) (fun k => by rw [G.route_valid.j0, if_neg (by decide)]) this
theorem between_f (v lo hi : Int) : G.route_between.f v lo hi = some (decide (lo ≤ v) && decide (v ≤ hi)) := by
  unfold G.route_between.f
  by_cases h : lo ≤ v
  · rw [if_pos h, decide_eq_true h]; rfl
  · rw [if_neg h, decide_eq_false h]; rfl
theorem okc_false {b : Bool} (h : b = false) (x : Bool) (h2 : x = true → b = true) : x = false := by
  cases x with
  | false => rfl
  | true => rw [h2 rfl] at h; exact absurd h (by decide)
theorem valid_ev (hl : l.length < 9223372036854775807) : Ev (fun k => G.route_valid.f k a0 a1 l a3 a4 a5) (okc a0 a1 l a3 a4) := by
  unfold G.route_valid.f okc
  simp only [between_f, Option.bind_some]
  have hf := valid_j0 (a0 := a0) (a1 := a1) (a3 := a3) (a4 := a4) (a5 := a5) hl true
  cases c0 : (decide (1 ≤ a0) && decide (a0 ≤ 6)) with
  | false => simpa using hf
  | true =>
    cases c1 : (decide (1 ≤ a1) && decide (a1 ≤ 6)) with
    | false => simpa using hf
    | true =>
      cases c2 : (decide (256 ≤ a3) && decide (a3 ≤ 1048576)) with
      | false => simpa using hf
      | true =>
        cases c3 : (decide (0 ≤ a4) && decide (a4 ≤ 16)) with
        | false => simpa using hf
        | true =>
          have c0' : 1 ≤ a0 ∧ a0 ≤ 6 := by simpa using c0
          have hw : wrap64 (a0 - 1) = a0 - 1 := by rw [w64] <;> omega
          have := valid_j0 (a0 := a0) (a1 := a1) (a3 := a3) (a4 := a4) (a5 := a5) hl ((l.length : Int) != wrap64 (a0 - 1))
          rw [hw] at this ⊢
          have e : (!((l.length : Int) != (a0 - 1))) = ((l.length : Int) == a0 - 1) := by simp [bne]
          rw [e] at this
          simpa using this

/-- the text ahead of the i-th. -/
def prev (l : List ByteArray) : Nat → List UInt8
  | 0 => []
  | i + 1 => (rdOf ByteArray.empty l (i : Int)).toList
theorem srt_nil (last : List UInt8) {k : ByteArray} {r : List ByteArray} (h : k.toList = []) : Srt last (k :: r) = false := by
  simp [Srt, h, lt_nil]
theorem fit_l0 (hl : l.length < 9223372036854775807) : ∀ (r : List ByteArray) (i : Nat), l.drop i = r →
    Ev (fun k => G.tidemarklaw12_fit.l0 k (i : Int) a0 a1 l a3 a4 a5) (Srt (prev l i) r)
  | [], i, h => by
    have hge : l.length ≤ i := List.drop_eq_nil_iff.mp h
    exact Ev.step (f := fun _ => some true) (fun k => by rw [G.tidemarklaw12_fit.l0, if_neg (by omega)]) (Ev.now _)
  | k :: r, i, h => by
    obtain ⟨h1, h2, h3⟩ := drop_cons_lt h
    have hk := rd_at h
    by_cases c0 : k.toList = ([] : List UInt8)
    · rw [srt_nil _ c0]
      exact Ev.step (f := fun _ => some false) (fun n => by rw [G.tidemarklaw12_fit.l0, if_pos (by omega), if_pos (by omega), hk, if_pos c0]) (Ev.now _)
    · by_cases c2 : k.size ≤ 32
      · have ih := fit_l0 hl r (i + 1) h2
        have ep : prev l (i + 1) = k.toList := by show (rdOf ByteArray.empty l (i : Int)).toList = _; rw [hk]
        rw [ep] at ih
        cases i with
        | zero =>
          have e : Srt (prev l 0) (k :: r) = Srt k.toList r := by
            have hn : lt (prev l 0) k.toList = true := (nil_lt _).2 c0
            simp only [Srt, hn, decide_eq_true c2, Bool.true_and]
          rw [e]
          refine Ev.step (fun n => ?_) ih
          show G.tidemarklaw12_fit.l0 (n + 1) ((0 : Nat) : Int) a0 a1 l a3 a4 a5 = _
          rw [G.tidemarklaw12_fit.l0, if_pos (by omega), if_pos (by omega), hk, if_neg c0, if_neg (by omega), if_neg (by omega), wnn 0 (by omega)]
        | succ i =>
          have hr : ∀ n, G.tidemarklaw12_fit.l0 (n + 1) ((i + 1 : Nat) : Int) a0 a1 l a3 a4 a5 = if lt (prev l (i + 1)) k.toList = true then G.tidemarklaw12_fit.l0 n ((i + 1 + 1 : Nat) : Int) a0 a1 l a3 a4 a5 else some false := by
            intro n
            rw [G.tidemarklaw12_fit.l0, if_pos (by omega), if_pos (by omega), hk, if_neg c0, if_neg (by omega), if_pos (by omega), wsub i (by omega), if_pos (by omega), if_pos (by omega), wnn (i + 1) (by omega)]
            rfl
          cases c1 : lt (prev l (i + 1)) k.toList with
          | true =>
            have e : Srt (prev l (i + 1)) (k :: r) = Srt k.toList r := by simp only [Srt, c1, decide_eq_true c2, Bool.true_and]
            rw [e]
            exact Ev.step (fun n => by rw [hr, if_pos c1]) ih
          | false =>
            have e : Srt (prev l (i + 1)) (k :: r) = false := by simp only [Srt, c1, Bool.false_and]
            rw [e]
            exact Ev.step (f := fun _ => some false) (fun n => by rw [hr, if_neg (by rw [c1]; decide)]) (Ev.now _)
      · have e : Srt (prev l i) (k :: r) = false := by simp only [Srt, decide_eq_false c2, Bool.false_and, Bool.and_false]
        rw [e]
        exact Ev.step (f := fun _ => some false) (fun n => by rw [G.tidemarklaw12_fit.l0, if_pos (by omega), if_pos (by omega), hk, if_neg c0, if_pos (by omega)]) (Ev.now _)
theorem fit_j0 (hl : l.length < 9223372036854775807) (b : Bool) : Ev (fun k => G.tidemarklaw12_fit.j0 k b a0 a1 l a3 a4 a5) (!b && Srt [] l) := by
  cases b with
  | true => exact Ev.step (f := fun _ => some false) (fun k => by rw [G.tidemarklaw12_fit.j0, if_pos rfl]) (Ev.now _)
  | false =>
    have := fit_l0 (a0 := a0) (a1 := a1) (a3 := a3) (a4 := a4) (a5 := a5) hl l 0 rfl
    exact Ev.step (f := fun k => G.tidemarklaw12_fit.l0 k 0 a0 a1 l a3 a4 a5) (fun k => by rw [G.tidemarklaw12_fit.j0, if_neg (by decide)]) this
theorem fit_ev (hl : l.length < 9223372036854775807) : Ev (fun k => G.tidemarklaw12_fit.f k a0 a1 l a3 a4 a5) (okc a0 a1 l a3 a4) := by
  have hf := fit_j0 (a0 := a0) (a1 := a1) (a3 := a3) (a4 := a4) (a5 := a5) hl true
  have hno : ∀ (h : ¬ ((1 ≤ a0 ∧ a0 ≤ 6) ∧ (1 ≤ a1 ∧ a1 ≤ 6) ∧ (256 ≤ a3 ∧ a3 ≤ 1048576) ∧ (0 ≤ a4 ∧ a4 ≤ 16))), okc a0 a1 l a3 a4 = false := by
    intro h
    cases e : okc a0 a1 l a3 a4 with
    | false => rfl
    | true =>
      obtain ⟨q1, q2, q3, q4, _⟩ := okc_iff.1 e
      exact absurd ⟨q1, q2, q3, q4⟩ h
  unfold G.tidemarklaw12_fit.f
  by_cases c0 : a0 < 1
  · rw [hno (by omega)]; simpa [c0] using hf
  by_cases c1 : a0 > 6
  · rw [hno (by omega)]; simpa [c0, c1] using hf
  by_cases c2 : a1 < 1
  · rw [hno (by omega)]; simpa [c0, c1, c2] using hf
  by_cases c3 : a1 > 6
  · rw [hno (by omega)]; simpa [c0, c1, c2, c3] using hf
  by_cases c4 : a3 < 256
  · rw [hno (by omega)]; simpa [c0, c1, c2, c3, c4] using hf
  by_cases c5 : a3 > 1048576
  · rw [hno (by omega)]; simpa [c0, c1, c2, c3, c4, c5] using hf
  by_cases c6 : a4 < 0
  · rw [hno (by omega)]; simpa [c0, c1, c2, c3, c4, c5, c6] using hf
  by_cases c7 : a4 > 16
  · rw [hno (by omega)]; simpa [c0, c1, c2, c3, c4, c5, c6, c7] using hf
  have hw : wrap64 (a0 - 1) = a0 - 1 := by rw [w64] <;> omega
  have := fit_j0 (a0 := a0) (a1 := a1) (a3 := a3) (a4 := a4) (a5 := a5) hl ((l.length : Int) != wrap64 (a0 - 1))
  have e : okc a0 a1 l a3 a4 = (!((l.length : Int) != wrap64 (a0 - 1)) && Srt [] l) := by
    rw [hw]
    unfold okc
    rw [decide_eq_true (show 1 ≤ a0 by omega), decide_eq_true (show a0 ≤ 6 by omega), decide_eq_true (show 1 ≤ a1 by omega), decide_eq_true (show a1 ≤ 6 by omega), decide_eq_true (show 256 ≤ a3 by omega), decide_eq_true (show a3 ≤ 1048576 by omega), decide_eq_true (show 0 ≤ a4 by omega), decide_eq_true (show a4 ≤ 16 by omega)]
    simp [bne]
  rw [e]
  simp only [if_neg c0, if_neg c1, if_neg c2, if_neg c3, if_neg c4, if_neg c5, if_neg c6, if_neg c7]
  exact this

theorem owner_l0 (key : ByteArray) (hl : l.length < 1000) : ∀ (r : List ByteArray) (i n : Nat), l.drop i = r → n ≤ i →
    Ev (fun k => G.route_Owner.l0 k key (n : Int) l (l.length : Int) (i : Int)) ((n + cnt r key.toList : Nat) : Int)
  | [], i, n, h, _ => by
    have hge : l.length ≤ i := List.drop_eq_nil_iff.mp h
    exact Ev.step (f := fun _ => some (n : Int)) (fun k => by rw [G.route_Owner.l0, if_neg (by omega)]) (Ev.now _)
  | k :: r, i, n, h, hn => by
    obtain ⟨h1, h2, h3⟩ := drop_cons_lt h
    have hk := rd_at h
    cases c1 : lt key.toList k.toList with
    | true =>
      rw [cnt_pos c1]
      refine Ev.step (fun m => ?_) (owner_l0 key hl r (i + 1) n h2 (by omega))
      show G.route_Owner.l0 (m + 1) key (n : Int) l (l.length : Int) (i : Int) = _
      rw [G.route_Owner.l0, if_pos (by omega), if_pos (by omega), if_pos (by omega), hk, if_pos c1, wnn i (by omega)]
    | false =>
      rw [cnt_neg c1, show n + (cnt r key.toList + 1) = (n + 1) + cnt r key.toList from by omega]
      refine Ev.step (fun m => ?_) (owner_l0 key hl r (i + 1) (n + 1) h2 (by omega))
      show G.route_Owner.l0 (m + 1) key (n : Int) l (l.length : Int) (i : Int) = _
      rw [G.route_Owner.l0, if_pos (by omega), if_pos (by omega), if_pos (by omega), hk, if_neg (by rw [show Op.bytesLess key.toList k.toList = false from c1]; decide), wnn i (by omega), show ((n : Int) + 1) % 4294967296 = ((n + 1 : Nat) : Int) from by omega]
theorem okc_len (h : okc a0 a1 l a3 a4 = true) : l.length ≤ 5 ∧ (l.length : Int) = a0 - 1 ∧ Srt [] l = true := by
  obtain ⟨q1, _, _, _, q5, q6⟩ := okc_iff.1 h
  exact ⟨by omega, q5, q6⟩
theorem owner_ev (hl : l.length < 9223372036854775807) (key : ByteArray) : Ev (fun k => G.route_Owner.f k a0 a1 l a3 a4 a5 key) (if okc a0 a1 l a3 a4 = true then (cnt l key.toList : Int) else 0) := by
  unfold G.route_Owner.f
  refine Ev.bind (valid_ev hl) ?_
  cases h : okc a0 a1 l a3 a4 with
  | false => exact Ev.now _
  | true =>
    have := owner_l0 key (by have := (okc_len h).1; omega) l 0 0 rfl (Nat.le_refl _)
    rw [Nat.zero_add] at this
    exact this

/-- a span's parts: the splits r from the i-th on. -/
def cutL (hi : ByteArray) : List ByteArray → Nat → ByteArray → List S40
  | [], i, at_ => [⟨(i : Int), ⟨at_, hi⟩⟩]
  | k :: r, i, at_ => if hi.toList = ([] : List UInt8) then ⟨(i : Int), ⟨at_, k⟩⟩ :: cutL hi r (i + 1) k else if lt k.toList hi.toList = true then ⟨(i : Int), ⟨at_, k⟩⟩ :: cutL hi r (i + 1) k else [⟨(i : Int), ⟨at_, hi⟩⟩]
theorem cut_l0 (lo hi : ByteArray) (hl : l.length ≤ 5) : ∀ (r : List ByteArray) (i : Nat) (out : List S40) (at_ : ByteArray), l.drop i = r → i ≤ l.length → out.length ≤ i →
    Ev (fun k => G.route_Cut.l0 k out at_ (i : Int) a0 a1 l a3 a4 a5 lo hi) (out ++ cutL hi r i at_)
  | [], i, out, at_, h, hi2, ho => by
    have hge : l.length ≤ i := List.drop_eq_nil_iff.mp h
    obtain rfl : i = l.length := by omega
    refine Ev.step (f := fun _ => some (out ++ [⟨(l.length : Int), ⟨at_, hi⟩⟩])) (fun k => ?_) (Ev.now _)
    rw [G.route_Cut.l0, w64 (by omega) (by omega), if_pos rfl, if_pos (by omega)]
  | k :: r, i, out, at_, h, hi2, ho => by
    obtain ⟨h1, h2, h3⟩ := drop_cons_lt h
    have hk := rd_at h
    have go : Ev (fun m => G.route_Cut.l0 m (out ++ [⟨(i : Int), ⟨at_, k⟩⟩]) k ((i + 1 : Nat) : Int) a0 a1 l a3 a4 a5 lo hi) (out ++ (⟨(i : Int), ⟨at_, k⟩⟩ :: cutL hi r (i + 1) k)) := by
      have := cut_l0 lo hi hl r (i + 1) (out ++ [⟨(i : Int), ⟨at_, k⟩⟩]) k h2 (by omega) (by rw [List.length_append, List.length_singleton]; omega)
      rw [List.append_assoc] at this
      exact this
    have hw : wrap64 (i : Int) = (i : Int) := w64 (by omega) (by omega)
    have hm : ((i : Int) + 1) % 4294967296 = ((i + 1 : Nat) : Int) := by omega
    by_cases c0 : hi.toList = ([] : List UInt8)
    · rw [show cutL hi (k :: r) i at_ = ⟨(i : Int), ⟨at_, k⟩⟩ :: cutL hi r (i + 1) k from by rw [cutL, if_pos c0]]
      refine Ev.step (fun m => ?_) go
      rw [G.route_Cut.l0, hw, if_neg (by omega), if_pos c0, if_pos (by omega), if_pos (by omega), if_pos (by omega), hk, hm]
    · cases c1 : lt k.toList hi.toList with
      | true =>
        rw [show cutL hi (k :: r) i at_ = ⟨(i : Int), ⟨at_, k⟩⟩ :: cutL hi r (i + 1) k from by rw [cutL, if_neg c0, if_pos c1]]
        refine Ev.step (fun m => ?_) go
        rw [G.route_Cut.l0, hw, if_neg (by omega), if_neg c0, if_pos (by omega), if_pos (by omega), hk, if_pos c1, if_pos (by omega), hm]
      | false =>
        rw [show cutL hi (k :: r) i at_ = [⟨(i : Int), ⟨at_, hi⟩⟩] from by rw [cutL, if_neg c0, if_neg (by rw [c1]; decide)]]
        refine Ev.step (f := fun _ => some (out ++ [⟨(i : Int), ⟨at_, hi⟩⟩])) (fun m => ?_) (Ev.now _)
        rw [G.route_Cut.l0, hw, if_neg (by omega), if_neg c0, if_pos (by omega), if_pos (by omega), hk, if_neg (by rw [show Op.bytesLess k.toList hi.toList = false from c1]; decide), if_pos (by omega)]
/-- Cut. -/
def cutAll (ok : Bool) (l : List ByteArray) (lo hi : ByteArray) : List S40 :=
  if ok = true then if hi.toList = ([] : List UInt8) then cutL hi (l.drop (cnt l lo.toList)) (cnt l lo.toList) lo else if lt lo.toList hi.toList = true then cutL hi (l.drop (cnt l lo.toList)) (cnt l lo.toList) lo else [] else []
theorem cut_j0 (h : okc a0 a1 l a3 a4 = true) (lo hi : ByteArray) : Ev (fun k => G.route_Cut.j0 k false a0 a1 l a3 a4 a5 lo hi) (cutL hi (l.drop (cnt l lo.toList)) (cnt l lo.toList) lo) := by
  have hl := (okc_len h).1
  have ho := owner_ev (a0 := a0) (a1 := a1) (a3 := a3) (a4 := a4) (a5 := a5) (l := l) (by omega) lo
  rw [if_pos h] at ho
  refine Ev.step (fun k => by rw [G.route_Cut.j0, if_neg (by decide)]) (Ev.bind ho ?_)
  have := cut_l0 (a0 := a0) (a1 := a1) (a3 := a3) (a4 := a4) (a5 := a5) lo hi hl (l.drop (cnt l lo.toList)) (cnt l lo.toList) [] lo rfl (cnt_le _ _) (Nat.zero_le _)
  exact this
theorem cut_j0t (lo hi : ByteArray) : Ev (fun k => G.route_Cut.j0 k true a0 a1 l a3 a4 a5 lo hi) [] := Ev.step (f := fun _ => some []) (fun k => by rw [G.route_Cut.j0, if_pos rfl]) (Ev.now _)
theorem cut_ev (hl : l.length < 9223372036854775807) (lo hi : ByteArray) : Ev (fun k => G.route_Cut.f k a0 a1 l a3 a4 a5 lo hi) (cutAll (okc a0 a1 l a3 a4) l lo hi) := by
  unfold G.route_Cut.f
  refine Ev.bind (valid_ev hl) ?_
  cases h : okc a0 a1 l a3 a4 with
  | false => exact cut_j0t lo hi
  | true =>
    unfold cutAll
    by_cases c0 : hi.toList = ([] : List UInt8)
    · simp only [if_pos c0, if_true]
      exact cut_j0 h lo hi
    · simp only [if_neg c0, if_true]
      cases c1 : lt lo.toList hi.toList with
      | true =>
        rw [show Op.bytesLess lo.toList hi.toList = true from c1]
        simpa using cut_j0 h lo hi
      | false =>
        rw [show Op.bytesLess lo.toList hi.toList = false from c1]
        simpa using cut_j0t lo hi

/-! ### the parts -/
def inB (key lo hi : List UInt8) : Bool := if lt key lo = true then false else if hi = [] then true else lt key hi
theorem in_f (key lo hi : ByteArray) : G.tidemarklaw12_in.f key lo hi = some (inB key.toList lo.toList hi.toList) := by
  unfold G.tidemarklaw12_in.f inB
  split
  · rfl
  · split <;> rfl
def inP (key : List UInt8) (p : S40) : Bool := inB key p.f1.f0.toList p.f1.f1.toList
def cntP (key : List UInt8) (L : List S40) : Nat := (L.filter (inP key)).length
theorem cntP_cons (key : List UInt8) (p : S40) (L : List S40) : cntP key (p :: L) = (if inP key p = true then 1 else 0) + cntP key L := by
  unfold cntP
  by_cases h : inP key p = true
  · rw [List.filter_cons_of_pos h, if_pos h, List.length_cons]; omega
  · rw [List.filter_cons_of_neg h, if_neg h]; omega
theorem cutL_f0 (hi : ByteArray) : ∀ (r : List ByteArray) (i : Nat) (at_ : ByteArray) (j : Nat) (p : S40), (cutL hi r i at_)[j]? = some p → p.f0 = ((i + j : Nat) : Int)
  | [], i, at_, j, p, h => by
    cases j with
    | zero => simp [cutL] at h; rw [← h]; rfl
    | succ j => simp [cutL] at h
  | k :: r, i, at_, j, p, h => by
    rw [cutL] at h
    have one : ∀ q : S40, q.f0 = (i : Int) → [q][j]? = some p → p.f0 = ((i + j : Nat) : Int) := by
      intro q hq h
      cases j with
      | zero => simp at h; rw [← h]; exact hq
      | succ j => simp at h
    have more : ∀ q : S40, q.f0 = (i : Int) → (q :: cutL hi r (i + 1) k)[j]? = some p → p.f0 = ((i + j : Nat) : Int) := by
      intro q hq h
      cases j with
      | zero => simp at h; rw [← h]; exact hq
      | succ j =>
        rw [List.getElem?_cons_succ] at h
        rw [cutL_f0 hi r (i + 1) k j p h]
        omega
    split at h
    · exact more _ rfl h
    · split at h
      · exact more _ rfl h
      · exact one _ rfl h
def okP (p : S40) : Prop := p.f1.f1.toList = [] ∨ lt p.f1.f0.toList p.f1.f1.toList = true
theorem cutL_ok (hi : ByteArray) : ∀ (r : List ByteArray) (i : Nat) (at_ : ByteArray), Srt at_.toList r = true → (hi.toList = [] ∨ lt at_.toList hi.toList = true) → ∀ p ∈ cutL hi r i at_, okP p
  | [], i, at_, hs, hh, p, hp => by
    rw [cutL, List.mem_singleton] at hp
    subst hp
    exact hh
  | k :: r, i, at_, hs, hh, p, hp => by
    obtain ⟨h1, _, h3⟩ := Srt_cons.1 hs
    rw [cutL] at hp
    split at hp
    · rename_i c0
      rcases List.mem_cons.1 hp with rfl | hp
      · exact .inr h1
      · exact cutL_ok hi r (i + 1) k h3 (.inl c0) p hp
    · split at hp
      · rename_i c1
        rcases List.mem_cons.1 hp with rfl | hp
        · exact .inr h1
        · exact cutL_ok hi r (i + 1) k h3 (.inr c1) p hp
      · rw [List.mem_singleton] at hp
        subst hp
        exact hh
theorem inB_true {key lo hi : List UInt8} : inB key lo hi = true ↔ lt key lo = false ∧ (hi = [] ∨ lt key hi = true) := by
  unfold inB
  cases h : lt key lo with
  | true => simp
  | false =>
    by_cases h2 : hi = []
    · simp [h2]
    · simp [h2]
/-- a key is in just one part, if it is in the span, and that is its owner's. -/
theorem cutL_cnt (hi : ByteArray) (key : List UInt8) : ∀ (r : List ByteArray) (i : Nat) (at_ : ByteArray), Srt at_.toList r = true → (hi.toList = [] ∨ lt at_.toList hi.toList = true) →
    cntP key (cutL hi r i at_) = (if inB key at_.toList hi.toList = true then 1 else 0) ∧ ∀ p ∈ cutL hi r i at_, inP key p = true → p.f0 = ((i + cnt r key : Nat) : Int)
  | [], i, at_, hs, hh => by
    refine ⟨?_, ?_⟩
    · rw [cutL, cntP_cons]; rfl
    · intro p hp _
      rw [cutL, List.mem_singleton] at hp
      subst hp
      rfl
  | k :: r, i, at_, hs, hh => by
    obtain ⟨h1, _, h3⟩ := Srt_cons.1 hs
    have more : (hi.toList = [] ∨ lt k.toList hi.toList = true) → cntP key ((⟨(i : Int), ⟨at_, k⟩⟩ : S40) :: cutL hi r (i + 1) k) = (if inB key at_.toList hi.toList = true then 1 else 0) ∧
        ∀ p ∈ (⟨(i : Int), ⟨at_, k⟩⟩ : S40) :: cutL hi r (i + 1) k, inP key p = true → p.f0 = ((i + cnt (k :: r) key : Nat) : Int) := by
      intro hk
      obtain ⟨e, ho⟩ := cutL_cnt hi key r (i + 1) k h3 hk
      rw [cntP_cons, e]
      show (if inB key at_.toList k.toList = true then 1 else 0) + _ = _ ∧ _
      cases c : lt key k.toList with
      | true =>
        have n2 : ¬ inB key k.toList hi.toList = true := fun h => by have := (inB_true.1 h).1; rw [c] at this; exact absurd this (by decide)
        refine ⟨?_, ?_⟩
        · rw [if_neg n2, Nat.add_zero]
          have : inB key at_.toList k.toList = true ↔ inB key at_.toList hi.toList = true := by
            rw [inB_true, inB_true]
            refine ⟨fun h => ⟨h.1, ?_⟩, fun h => ⟨h.1, .inr c⟩⟩
            rcases hk with hk | hk
            · exact .inl hk
            · exact .inr (lt_trans _ _ _ c hk)
          simp only [this]
        · intro p hp hin
          rcases List.mem_cons.1 hp with rfl | hp
          · rw [cnt_pos c, cnt_below r k.toList key h3 (lt_asymm _ _ c)]; rfl
          · exfalso
            have : cntP key (cutL hi r (i + 1) k) = 0 := by rw [e, if_neg n2]
            have h4 : p ∈ (cutL hi r (i + 1) k).filter (inP key) := List.mem_filter.2 ⟨hp, hin⟩
            unfold cntP at this
            rw [List.eq_nil_of_length_eq_zero this] at h4
            exact absurd h4 (by simp)
      | false =>
        have n1 : ¬ inB key at_.toList k.toList = true := fun h => by
          rcases (inB_true.1 h).2 with h2 | h2
          · rw [h2, lt_nil] at h1; exact absurd h1 (by decide)
          · rw [c] at h2; exact absurd h2 (by decide)
        refine ⟨?_, ?_⟩
        · rw [if_neg n1, Nat.zero_add]
          have hat : lt key at_.toList = false := by
            cases h5 : lt key at_.toList with
            | false => rfl
            | true => have := lt_trans _ _ _ h5 h1; rw [c] at this; exact absurd this (by decide)
          have : inB key k.toList hi.toList = true ↔ inB key at_.toList hi.toList = true := by
            rw [inB_true, inB_true]
            exact ⟨fun h => ⟨hat, h.2⟩, fun h => ⟨c, h.2⟩⟩
          simp only [this]
        · intro p hp hin
          rcases List.mem_cons.1 hp with rfl | hp
          · exact absurd hin n1
          · rw [ho p hp hin, cnt_neg c]
            omega
    rw [cutL]
    by_cases c0 : hi.toList = ([] : List UInt8)
    · rw [if_pos c0]; exact more (.inl c0)
    · rw [if_neg c0]
      cases c1 : lt k.toList hi.toList with
      | true => rw [if_pos rfl]; exact more (.inr c1)
      | false =>
        rw [if_neg (by decide)]
        refine ⟨?_, ?_⟩
        · rw [cntP_cons]; rfl
        · intro p hp hin
          rw [List.mem_singleton] at hp
          subst hp
          have h2 := (inB_true.1 hin).2
          rcases h2 with h2 | h2
          · exact absurd h2 c0
          · have h4 : lt key k.toList = true := lt_of_lt_le h2 c1
            rw [cnt_pos h4, cnt_below r k.toList key h3 (lt_asymm _ _ h4)]
            rfl
theorem cutL_len (hi : ByteArray) (hh : hi.toList = []) : ∀ (r : List ByteArray) (i : Nat) (at_ : ByteArray), (cutL hi r i at_).length = r.length + 1
  | [], i, at_ => rfl
  | k :: r, i, at_ => by rw [cutL, if_pos hh, List.length_cons, cutL_len hi hh r, List.length_cons]

/-! ### owned -/
variable {reads : List S37} {writes : List S51} {keys : List ByteArray}
theorem twin_f (hl : l.length ≤ 17592186044400) : Ev (fun k => G.tidemarklaw12_twin.f k a0 a1 l a3 a4 a5) (a0, a1, l, a3, a4, a5) :=
  Ev.congr (fun k => by unfold G.tidemarklaw12_twin.f; rw [if_pos hl]) (Ev.now _)
theorem owner_ok (h : okc a0 a1 l a3 a4 = true) (key : ByteArray) : Ev (fun k => G.route_Owner.f k a0 a1 l a3 a4 a5 key) (cnt l key.toList : Int) := by
  have := owner_ev (a5 := a5) (a0 := a0) (a1 := a1) (a3 := a3) (a4 := a4) (l := l) (by have := (okc_len h).1; omega) key
  rw [if_pos h] at this
  exact this
section
variable (h : okc a0 a1 l a3 a4 = true) (hkeys : keys.length ≤ 9223372036854775807)
include h hkeys
theorem owned_l3 (i : Nat) (key : ByteArray) (hi : i < keys.length) (hk : rdOf ByteArray.empty keys (i : Int) = key) (hnext : Ev (fun k => G.tidemarklaw12_owned.l1 k ((i + 1 : Nat) : Int) a0 a1 l a3 a4 a5 reads writes keys) true) :
    ∀ (r : List ByteArray) (j : Nat), l.drop j = r → Ev (fun k => G.tidemarklaw12_owned.l3 k (i : Int) (cnt l key.toList : Int) (j : Int) a0 a1 l a3 a4 a5 reads writes keys) true
  | [], j, hd => by
    have hge : l.length ≤ j := List.drop_eq_nil_iff.mp hd
    exact Ev.step (fun k => by rw [G.tidemarklaw12_owned.l3, if_neg (by omega), wnn i (by omega)]) hnext
  | s :: r, j, hd => by
    obtain ⟨h1, h2, h3⟩ := drop_cons_lt hd
    have hs := rd_at hd
    have hl5 := (okc_len h).1
    have hc := cnt_le l key.toList
    have hj : l[j]? = some s := by
      have := congrArg (fun q : List ByteArray => q[0]?) hd
      simpa using this
    have hat := cnt_at l [] key.toList j s (okc_len h).2.2 hj
    have hw : wrap64 (cnt l key.toList : Int) = (cnt l key.toList : Int) := w64 (by omega) (by omega)
    refine Ev.step (fun k => ?_) (owned_l3 i key hi hk hnext r (j + 1) h2)
    rw [G.tidemarklaw12_owned.l3, if_pos (by omega), if_pos (by omega), if_pos (by omega), if_pos (by omega), hk, hs, hw, wnn j (by omega), if_neg]
    cases c : lt key.toList s.toList with
    | true =>
      rw [show Op.bytesLess key.toList s.toList = true from c]
      have : ¬ j < cnt l key.toList := fun h => by have := hat.2 h; rw [c] at this; exact absurd this (by decide)
      rw [decide_eq_false (by omega)]
      decide
    | false =>
      rw [show Op.bytesLess key.toList s.toList = false from c]
      have := hat.1 c
      rw [decide_eq_true (by omega)]
      decide
theorem owned_l2 (i : Nat) (key : ByteArray) (hi : i < keys.length) (hk : rdOf ByteArray.empty keys (i : Int) = key) (hnext : Ev (fun k => G.tidemarklaw12_owned.l1 k ((i + 1 : Nat) : Int) a0 a1 l a3 a4 a5 reads writes keys) true) :
    ∀ (r : List ByteArray) (j : Nat), keys.drop j = r → Ev (fun k => G.tidemarklaw12_owned.l2 k (i : Int) (cnt l key.toList : Int) (j : Int) a0 a1 l a3 a4 a5 reads writes keys) true
  | [], j, hd => by
    have hge : keys.length ≤ j := List.drop_eq_nil_iff.mp hd
    exact Ev.step (fun k => by rw [G.tidemarklaw12_owned.l2, if_neg (by omega)]; rfl) (owned_l3 h hkeys i key hi hk hnext l 0 rfl)
  | s :: r, j, hd => by
    obtain ⟨h1, h2, h3⟩ := drop_cons_lt hd
    have hs := rd_at hd
    have hl5 := (okc_len h).1
    refine Ev.step (fun k => by rw [G.tidemarklaw12_owned.l2, if_pos (by omega)]) (Ev.bind (twin_f (by omega)) ?_)
    refine Ev.congr (fun k => by rw [if_pos (by omega)]) (Ev.bind (a := (cnt l s.toList : Int)) (by rw [hs]; exact owner_ok h s) ?_)
    refine Ev.congr (fun k => ?_) (owned_l2 i key hi hk hnext r (j + 1) h2)
    rw [if_pos (by omega), if_pos (by omega), hk, hs, wnn j (by omega)]
    cases c : lt s.toList key.toList with
    | true => rw [if_pos c]
    | false =>
      rw [if_neg (by rw [show Op.bytesLess s.toList key.toList = false from c]; decide), if_neg]
      have := cnt_mono (l := l) c
      omega
theorem owned_l1 : ∀ (r : List ByteArray) (i : Nat), keys.drop i = r → Ev (fun k => G.tidemarklaw12_owned.l1 k (i : Int) a0 a1 l a3 a4 a5 reads writes keys) true
  | [], i, hd => by
    have hge : keys.length ≤ i := List.drop_eq_nil_iff.mp hd
    exact Ev.step (f := fun _ => some true) (fun k => by rw [G.tidemarklaw12_owned.l1, if_neg (by omega)]) (Ev.now _)
  | s :: r, i, hd => by
    obtain ⟨h1, h2, h3⟩ := drop_cons_lt hd
    have hs := rd_at hd
    obtain ⟨hl5, hl0, _⟩ := okc_len h
    have hc := cnt_le l s.toList
    refine Ev.step (fun k => by rw [G.tidemarklaw12_owned.l1, if_pos (by omega)]) (Ev.bind (twin_f (by omega)) ?_)
    refine Ev.congr (fun k => by rw [if_pos (by omega)]) (Ev.bind (a := (cnt l s.toList : Int)) (by rw [hs]; exact owner_ok h s) ?_)
    refine Ev.congr (fun k => ?_) (owned_l2 h hkeys i s h1 hs (owned_l1 r (i + 1) h2) keys 0 rfl)
    rw [w64 (by omega) (by omega), if_neg (by omega)]
    rfl
theorem owned_l0 : ∀ (r : List ByteArray) (i : Nat), l.drop i = r → Ev (fun k => G.tidemarklaw12_owned.l0 k (i : Int) a0 a1 l a3 a4 a5 reads writes keys) true
  | [], i, hd => by
    have hge : l.length ≤ i := List.drop_eq_nil_iff.mp hd
    obtain ⟨hl5, hl0, hs⟩ := okc_len h
    refine Ev.step (fun k => by rw [G.tidemarklaw12_owned.l0, if_neg (by omega)]) (Ev.bind (twin_f (by omega)) ?_)
    refine Ev.bind (owner_ok h ⟨#[]⟩) ?_
    rw [tl_nil, cnt_below l [] [] hs rfl]
    exact owned_l1 h hkeys keys 0 rfl
  | s :: r, i, hd => by
    obtain ⟨h1, h2, h3⟩ := drop_cons_lt hd
    have hs := rd_at hd
    obtain ⟨hl5, hl0, hsr⟩ := okc_len h
    have hj : l[i]? = some s := by
      have := congrArg (fun q : List ByteArray => q[0]?) hd
      simpa using this
    refine Ev.step (fun k => by rw [G.tidemarklaw12_owned.l0, if_pos (by omega)]) (Ev.bind (twin_f (by omega)) ?_)
    refine Ev.congr (fun k => by rw [if_pos (by omega)]) (Ev.bind (a := (cnt l s.toList : Int)) (by rw [hs]; exact owner_ok h s) ?_)
    rw [cnt_split l [] i s hsr hj]
    refine Ev.congr (fun k => ?_) (owned_l0 r (i + 1) h2)
    rw [wnn i (by omega), if_pos (by omega)]
end
theorem owned_ev (h : okc a0 a1 l a3 a4 = true) (hkeys : keys.length ≤ 9223372036854775807) : Ev (fun k => G.tidemarklaw12_owned.f k a0 a1 l a3 a4 a5 reads writes keys) true := by
  unfold G.tidemarklaw12_owned.f
  exact owned_l0 h hkeys l 0 rfl

/-! ### the law -/
theorem rd40_at {L : List S40} {i : Nat} {p : S40} {r : List S40} (h : L.drop i = p :: r) : rd_T40 L (i : Int) = p := by
  have h0 : L[i]? = some p := by
    have := congrArg (fun q : List S40 => q[0]?) h
    simpa using this
  simp [rd_T40, List.getD_eq_getElem?_getD, h0]
theorem rd37_at {L : List S37} {i : Nat} {p : S37} {r : List S37} (h : L.drop i = p :: r) : rd_T37 L (i : Int) = p := by
  have h0 : L[i]? = some p := by
    have := congrArg (fun q : List S37 => q[0]?) h
    simpa using this
  simp [rd_T37, List.getD_eq_getElem?_getD, h0]
/-- what is known of a span's parts. -/
structure PartsOf (l : List ByteArray) (s : S37) (L : List S40) : Prop where
  len : L.length < 9223372036854775807
  f0 : ∀ (j : Nat) (p : S40), L[j]? = some p → p.f0 = ((cnt l s.f0.toList + j : Nat) : Int)
  ok : ∀ p ∈ L, okP p
  one : ∀ key : List UInt8, cntP key L = (if inB key s.f0.toList s.f1.toList = true then 1 else 0)
  own : ∀ (key : List UInt8), ∀ p ∈ L, inP key p = true → p.f0 = (cnt l key : Int)
theorem cutL_le (hi : ByteArray) : ∀ (r : List ByteArray) (i : Nat) (at_ : ByteArray), (cutL hi r i at_).length ≤ r.length + 1
  | [], i, at_ => Nat.le_refl _
  | k :: r, i, at_ => by
    have ih := cutL_le hi r (i + 1) k
    rw [cutL]
    split
    · rw [List.length_cons, List.length_cons]; omega
    · split
      · rw [List.length_cons, List.length_cons]; omega
      · simp
theorem cutL_lo (hi : ByteArray) (key : List UInt8) : ∀ (r : List ByteArray) (i : Nat) (at_ : ByteArray), Srt at_.toList r = true → ∀ p ∈ cutL hi r i at_, lt p.f1.f0.toList at_.toList = false
  | [], i, at_, _, p, hp => by
    rw [cutL, List.mem_singleton] at hp
    subst hp
    exact bytesLess_irrefl _
  | k :: r, i, at_, hs, p, hp => by
    obtain ⟨h1, _, h3⟩ := Srt_cons.1 hs
    have more : ∀ q : S40, q.f1.f0 = at_ → p ∈ q :: cutL hi r (i + 1) k → lt p.f1.f0.toList at_.toList = false := by
      intro q hq hp
      rcases List.mem_cons.1 hp with rfl | hp
      · rw [hq]; exact bytesLess_irrefl _
      · exact le_trans' (lt_asymm _ _ h1) (cutL_lo hi key r (i + 1) k h3 p hp)
    rw [cutL] at hp
    split at hp
    · exact more _ rfl hp
    · split at hp
      · exact more _ rfl hp
      · rw [List.mem_singleton] at hp
        subst hp
        exact bytesLess_irrefl _
theorem partsOf (h : okc a0 a1 l a3 a4 = true) (s : S37) : PartsOf l s (cutAll true l s.f0 s.f1) := by
  obtain ⟨hl5, hl0, hsr⟩ := okc_len h
  have hd := Srt_drop l [] s.f0.toList hsr
  have main : (s.f1.toList = [] ∨ lt s.f0.toList s.f1.toList = true) → PartsOf l s (cutL s.f1 (l.drop (cnt l s.f0.toList)) (cnt l s.f0.toList) s.f0) := by
    intro hh
    have hc := cutL_le s.f1 (l.drop (cnt l s.f0.toList)) (cnt l s.f0.toList) s.f0
    rw [List.length_drop] at hc
    refine ⟨by omega, fun j p hp => cutL_f0 s.f1 _ _ _ j p hp, cutL_ok s.f1 _ _ _ hd hh, fun key => (cutL_cnt s.f1 key _ _ _ hd hh).1, fun key p hp hin => ?_⟩
    rw [(cutL_cnt s.f1 key _ _ _ hd hh).2 p hp hin]
    have hlo : lt key s.f0.toList = false := by
      have h1 := (inB_true.1 hin).1
      exact le_trans' (cutL_lo s.f1 key _ _ _ hd p hp) h1
    rw [cnt_drop l [] s.f0.toList key hsr hlo]
  have none : s.f1.toList ≠ [] → lt s.f0.toList s.f1.toList = false → PartsOf l s [] := by
    intro h1 h2
    refine ⟨by simp, fun j p hp => by simp at hp, fun p hp => by simp at hp, fun key => ?_, fun key p hp => by simp at hp⟩
    rw [if_neg]
    · rfl
    · intro hin
      obtain ⟨q1, q2⟩ := inB_true.1 hin
      rcases q2 with q2 | q2
      · exact h1 q2
      · have := lt_of_le_lt q1 q2
        rw [this] at h2
        exact absurd h2 (by decide)
  unfold cutAll
  rw [if_pos rfl]
  by_cases c0 : s.f1.toList = ([] : List UInt8)
  · rw [if_pos c0]; exact main (.inl c0)
  · rw [if_neg c0]
    cases c1 : lt s.f0.toList s.f1.toList with
    | true => rw [if_pos rfl]; exact main (.inr c1)
    | false => rw [if_neg (by decide)]; exact none c0 c1
section
variable (h : okc a0 a1 l a3 a4 = true) (hkeys : keys.length ≤ 9223372036854775807) (hreads : reads.length ≤ 9223372036854775807)
include h hkeys hreads
theorem law_l3 (i : Nat) (s : S37) (hi : i < reads.length) (hsr : rd_T37 reads (i : Int) = s) (L : List S40) (hL : PartsOf l s L) (q : Nat) (key : ByteArray) (hq : q < keys.length) (hk : rdOf ByteArray.empty keys (q : Int) = key)
    (hnext : Ev (fun k => G.tidemarklaw12_RouteCut.l2 k (i : Int) L ((q + 1 : Nat) : Int) a0 a1 l a3 a4 a5 reads writes keys) true) :
    ∀ (r : List S40) (j n : Nat), L.drop j = r → n + cntP key.toList r = (if inB key.toList s.f0.toList s.f1.toList = true then 1 else 0) →
      Ev (fun k => G.tidemarklaw12_RouteCut.l3 k (i : Int) L (q : Int) (n : Int) (j : Int) a0 a1 l a3 a4 a5 reads writes keys) true
  | [], j, n, hd, hn => by
    have hge : L.length ≤ j := List.drop_eq_nil_iff.mp hd
    have hn' : n = (if inB key.toList s.f0.toList s.f1.toList = true then 1 else 0) := hn
    refine Ev.step (fun k => ?_) hnext
    have hn1 : ¬ (n : Int) > 1 := by rw [hn']; split <;> omega
    rw [G.tidemarklaw12_RouteCut.l3, if_neg (by omega), if_neg hn1, if_pos (by omega), if_pos (by omega), if_pos (by omega), if_pos (by omega), hk, hsr, in_f, Option.bind_some, if_neg, wnn q (by omega)]
    rw [hn']
    cases c : inB key.toList s.f0.toList s.f1.toList with
    | true => decide
    | false => decide
  | p :: r, j, n, hd, hn => by
    obtain ⟨h1, h2, h3⟩ := drop_cons_lt hd
    have hp := rd40_at hd
    have hmem : p ∈ L := by
      have : p ∈ L.drop j := by rw [hd]; exact List.mem_cons_self
      exact List.mem_of_mem_drop this
    have hl5 := (okc_len h).1
    have hlen := hL.len
    rw [cntP_cons] at hn
    have hn2 : n ≤ 1 := by
      have : (if inB key.toList s.f0.toList s.f1.toList = true then 1 else 0) ≤ 1 := by split <;> omega
      omega
    have hr : ∀ k, G.tidemarklaw12_RouteCut.l3 (k + 1) (i : Int) L (q : Int) (n : Int) (j : Int) a0 a1 l a3 a4 a5 reads writes keys =
        (if inP key.toList p = true then ((G.tidemarklaw12_twin.f k a0 a1 l a3 a4 a5).bind fun bt => ((G.route_Owner.f k bt.1 bt.2.1 bt.2.2.1 bt.2.2.2.1 bt.2.2.2.2.1 bt.2.2.2.2.2 key).bind fun t => (if p.f0 = t then (G.tidemarklaw12_RouteCut.l3 k (i : Int) L (q : Int) ((n + 1 : Nat) : Int) ((j + 1 : Nat) : Int) a0 a1 l a3 a4 a5 reads writes keys) else (some false)))) else (G.tidemarklaw12_RouteCut.l3 k (i : Int) L (q : Int) (n : Int) ((j + 1 : Nat) : Int) a0 a1 l a3 a4 a5 reads writes keys)) := by
      intro k
      rw [G.tidemarklaw12_RouteCut.l3, if_pos (by omega), if_pos (by omega), if_pos (by omega), if_pos (by omega), hk, hp, in_f, Option.bind_some, wnn n (by omega), wnn j (by omega)]
      rfl
    by_cases c : inP key.toList p = true
    · rw [if_pos c] at hn
      refine Ev.step (fun k => by rw [hr, if_pos c]) (Ev.bind (twin_f (by omega)) (Ev.bind (owner_ok h key) ?_))
      refine Ev.congr (fun k => by rw [if_pos (hL.own key.toList p hmem c)]) (law_l3 i s hi hsr L hL q key hq hk hnext r (j + 1) (n + 1) h2 (by omega))
    · rw [if_neg c] at hn
      exact Ev.step (fun k => by rw [hr, if_neg c]) (law_l3 i s hi hsr L hL q key hq hk hnext r (j + 1) n h2 (by omega))
theorem law_l2 (i : Nat) (s : S37) (hi : i < reads.length) (hsr : rd_T37 reads (i : Int) = s) (L : List S40) (hL : PartsOf l s L)
    (hnext : Ev (fun k => G.tidemarklaw12_RouteCut.l0 k ((i + 1 : Nat) : Int) a0 a1 l a3 a4 a5 reads writes keys) true) :
    ∀ (r : List ByteArray) (q : Nat), keys.drop q = r → Ev (fun k => G.tidemarklaw12_RouteCut.l2 k (i : Int) L (q : Int) a0 a1 l a3 a4 a5 reads writes keys) true
  | [], q, hd => by
    have hge : keys.length ≤ q := List.drop_eq_nil_iff.mp hd
    exact Ev.step (fun k => by rw [G.tidemarklaw12_RouteCut.l2, if_neg (by omega), wnn i (by omega)]) hnext
  | key :: r, q, hd => by
    obtain ⟨h1, h2, h3⟩ := drop_cons_lt hd
    exact Ev.step (fun k => by rw [G.tidemarklaw12_RouteCut.l2, if_pos (by omega)]; rfl)
      (law_l3 h hkeys hreads i s hi hsr L hL q key h1 (rd_at hd) (law_l2 i s hi hsr L hL hnext r (q + 1) h2) L 0 0 rfl (by rw [Nat.zero_add]; exact hL.one key.toList))
theorem law_l1 (i : Nat) (s : S37) (hi : i < reads.length) (hsr : rd_T37 reads (i : Int) = s) (L : List S40) (hL : PartsOf l s L)
    (hnext : Ev (fun k => G.tidemarklaw12_RouteCut.l0 k ((i + 1 : Nat) : Int) a0 a1 l a3 a4 a5 reads writes keys) true) :
    ∀ (r : List S40) (j : Nat), L.drop j = r → Ev (fun k => G.tidemarklaw12_RouteCut.l1 k (i : Int) L (j : Int) a0 a1 l a3 a4 a5 reads writes keys) true
  | [], j, hd => by
    have hge : L.length ≤ j := List.drop_eq_nil_iff.mp hd
    exact Ev.step (fun k => by rw [G.tidemarklaw12_RouteCut.l1, if_neg (by omega)]; rfl) (law_l2 h hkeys hreads i s hi hsr L hL hnext keys 0 rfl)
  | p :: r, j, hd => by
    obtain ⟨h1, h2, h3⟩ := drop_cons_lt hd
    have hp := rd40_at hd
    have hlen := hL.len
    have hj : L[j]? = some p := by
      have := congrArg (fun q : List S40 => q[0]?) hd
      simpa using this
    have hok := hL.ok p (List.mem_of_getElem? hj)
    refine Ev.step (fun k => ?_) (law_l1 i s hi hsr L hL hnext r (j + 1) h2)
    have last : (if (p.f1.f1).toList = ([] : List UInt8) then (G.tidemarklaw12_RouteCut.l1 k (i : Int) L ((j + 1 : Nat) : Int) a0 a1 l a3 a4 a5 reads writes keys) else (if ((Op.bytesLess ((p.f1.f0).toList) ((p.f1.f1).toList)) = true) then (G.tidemarklaw12_RouteCut.l1 k (i : Int) L ((j + 1 : Nat) : Int) a0 a1 l a3 a4 a5 reads writes keys) else (some false))) = G.tidemarklaw12_RouteCut.l1 k (i : Int) L ((j + 1 : Nat) : Int) a0 a1 l a3 a4 a5 reads writes keys := by
      by_cases c : p.f1.f1.toList = ([] : List UInt8)
      · rw [if_pos c]
      · rw [if_neg c]
        rcases hok with hok | hok
        · exact absurd hok c
        · rw [if_pos hok]
    cases j with
    | zero =>
      rw [G.tidemarklaw12_RouteCut.l1, if_pos (by omega), if_neg (by omega), if_pos (by omega), wnn 0 (by omega), hp]
      exact last
    | succ j =>
      obtain ⟨p', hp'⟩ : ∃ p', L[j]? = some p' := ⟨L[j]'(by omega), List.getElem?_eq_getElem _⟩
      have e' : rd_T40 L (j : Int) = p' := by simp [rd_T40, List.getD_eq_getElem?_getD, hp']
      have q1 := hL.f0 j p' hp'
      have q2 := hL.f0 (j + 1) p hj
      rw [G.tidemarklaw12_RouteCut.l1, if_pos (by omega), if_pos (by omega), wsub j (by omega), if_pos (by omega), if_pos (by omega), if_pos (by omega), wnn (j + 1) (by omega), hp, e', if_neg (by rw [q1, q2]; omega)]
      exact last
theorem law_l0 : ∀ (r : List S37) (i : Nat), reads.drop i = r → Ev (fun k => G.tidemarklaw12_RouteCut.l0 k (i : Int) a0 a1 l a3 a4 a5 reads writes keys) true
  | [], i, hd => by
    have hge : reads.length ≤ i := List.drop_eq_nil_iff.mp hd
    exact Ev.step (f := fun _ => some true) (fun k => by rw [G.tidemarklaw12_RouteCut.l0, if_neg (by omega)]) (Ev.now _)
  | s :: r, i, hd => by
    obtain ⟨h1, h2, h3⟩ := drop_cons_lt hd
    have hs := rd37_at hd
    have hl5 := (okc_len h).1
    refine Ev.step (fun k => by rw [G.tidemarklaw12_RouteCut.l0, if_pos (by omega)]) (Ev.bind (twin_f (by omega)) ?_)
    refine Ev.congr (fun k => by rw [if_pos (by omega)]) ?_
    have hcut := cut_ev (a0 := a0) (a1 := a1) (a3 := a3) (a4 := a4) (a5 := a5) (l := l) (by omega) s.f0 s.f1
    rw [h] at hcut
    rw [hs]
    exact Ev.bind hcut (law_l1 h hkeys hreads i s h1 hs _ (partsOf h s) (law_l0 r (i + 1) h2) _ 0 rfl)
end
theorem law_cut (hl : l.length ≤ 17592186044400) (hkeys : keys.length ≤ 9223372036854775807) (hreads : reads.length ≤ 9223372036854775807) :
    ∃ k, G.tidemarklaw12_RouteCut.f k a0 a1 l a3 a4 a5 reads writes keys = some true := by
  refine Ev.rounds (g := fun k => G.tidemarklaw12_RouteCut.f k a0 a1 l a3 a4 a5 reads writes keys) ?_
  unfold G.tidemarklaw12_RouteCut.f
  refine Ev.bind (fit_ev (by omega)) ?_
  have hcut := cut_ev (a0 := a0) (a1 := a1) (a3 := a3) (a4 := a4) (a5 := a5) (l := l) (by omega) ⟨#[]⟩ ⟨#[]⟩
  have hown := owner_ev (a0 := a0) (a1 := a1) (a3 := a3) (a4 := a4) (a5 := a5) (l := l) (by omega) ⟨#[97]⟩
  cases h : okc a0 a1 l a3 a4 with
  | false =>
    rw [h] at hcut hown
    refine Ev.congr (fun k => by rw [if_neg (by decide)]) (Ev.bind (twin_f hl) (Ev.bind hown ?_))
    refine Ev.congr (fun k => by rw [if_neg (show ¬ (false = true) by decide), if_pos rfl]) (Ev.bind (twin_f hl) (Ev.bind hcut ?_))
    exact Ev.now _
  | true =>
    rw [h] at hcut
    obtain ⟨hl5, hl0, hsr⟩ := okc_len h
    refine Ev.congr (fun k => by rw [if_pos rfl]) (Ev.bind (owned_ev h hkeys) ?_)
    refine Ev.congr (fun k => by rw [if_pos rfl]) (Ev.bind (twin_f hl) (Ev.bind hcut ?_))
    have e : (cutAll true l ⟨#[]⟩ ⟨#[]⟩).length = l.length + 1 := by
      unfold cutAll
      rw [if_pos rfl, tl_nil, if_pos rfl, cutL_len _ tl_nil, cnt_below l [] [] hsr rfl, List.drop_zero]
    refine Ev.step (f := fun k => G.tidemarklaw12_RouteCut.l0 k ((0 : Nat) : Int) a0 a1 l a3 a4 a5 reads writes keys) (fun k => ?_) (law_l0 h hkeys hreads reads 0 rfl)
    rw [G.tidemarklaw12_RouteCut.j0, e, if_neg]
    · rfl
    · rw [show ((l.length + 1 : Nat) : Int) = a0 from by omega]; simp
end
end Go.Proofs.YtmcdeglocjhggaaDoor.T
