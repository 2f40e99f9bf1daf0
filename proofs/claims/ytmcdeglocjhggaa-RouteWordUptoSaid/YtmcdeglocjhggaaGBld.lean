/-
  strings.Builder by hand: the builder's own block b, and its bytes' row from B on (a row of bytes between them stands: the shelf's frame does not say so).
-/
import Derived.Test.YtmcdeglocjhggaaG0
import Derived.Lib.Builder
import Derived.Laws.AppendOwn
import Derived.Shelf.Strings.Builder1
namespace Go.Proofs.Ytmcdeglocjhggaa.G
open Go.RowKit Go.Proofs.YtmcdeglocjhggaaW.PrintWords Go.Proofs.YtmcdeglocjhggaaW.PrintLast Go.Proofs.YtmcdeglocjhggaaW.PrintMore
set_option linter.unusedVariables false
set_option linter.unusedSimpArgs false

/-- block b holds a builder whose bytes are bs, its row from B on. -/
def Bld (b B : Nat) (p : Value) (bs : List Value) (w : World) : Prop :=
  ∃ v, w.heap[b]? = some (.cells #[p, v] 30 (0, 0)) ∧ w.ownsRow B 5 1 v bs.length bs ∧ v.ownBlock ≠ some b

/-- what stands: all below b, and what lies between b and B. -/
def Kp (b B : Nat) (w w' : World) : Prop := Below b w w' ∧ ∀ j, j < B → j ≠ b → w'.heap[j]? = w.heap[j]?

theorem Kp.refl (b B : Nat) (w : World) : Kp b B w w := ⟨Below.refl b w, fun _ _ _ => rfl⟩
theorem Kp.trans {b B : Nat} {a c d : World} (h : Kp b B a c) (k : Kp b B c d) : Kp b B a d :=
  ⟨h.1.trans k.1, fun j h1 h2 => (k.2 j h1 h2).trans (h.2 j h1 h2)⟩

theorem Bld.lt {b B : Nat} {p : Value} {bs : List Value} {w : World} (h : Bld b B p bs w) : b < w.heap.size := by
  obtain ⟨v, hb, _⟩ := h
  rcases Nat.lt_or_ge b w.heap.size with h' | h'
  · exact h'
  · simp [Array.getElem?_eq_none h'] at hb

def self (b : Nat) : Value := .pointer (some ⟨b, 0, none⟩)

theorem Kp.setCell (b B j : Nat) (w : World) (u : Value) : Kp b B w (w.setCell ⟨b, j, none⟩ u) :=
  ⟨(Below.refl b w).setCell (p := ⟨b, j, none⟩) (Nat.le_refl b) u, fun k _ hk => Below.heap_setCell _ _ _ _ (fun e => hk (by simp [e]))⟩

theorem Bld.used {b B : Nat} {p : Value} {bs : List Value} {w : World} (h : Bld b B p bs w) (q : Value) : Bld b B q bs (w.setCell ⟨b, 0, none⟩ q) := by
  obtain ⟨v, hb, hown, hne⟩ := h
  refine ⟨v, ?_, ?_, hne⟩
  · simp [World.setCell, Array.getElem?_modify, hb]
  · refine hown.kept (row := some b) ⟨rfl, rfl, rfl, by simp [World.setCell], fun k _ hk => Below.heap_setCell _ _ _ _ (fun e => hk (by simp [e]))⟩ ?_
    exact Or.inr hne

theorem Bld.put {b B : Nat} {p v v' : Value} {bs' : List Value} {w : World} (hb : w.heap[b]? = some (.cells #[p, v] 30 (0, 0))) (hown : w.ownsRow B 5 1 v' bs'.length bs') :
    Bld b B p bs' (w.setCell ⟨b, 1, none⟩ v') := by
  have hne := Lib.ownBlock_ne hown hb (by decide)
  refine ⟨v', ?_, ?_, hne⟩
  · simp [World.setCell, Array.getElem?_modify, hb]
  · exact hown.kept (row := some b) ⟨rfl, rfl, rfl, by simp [World.setCell], fun k _ hk => Below.heap_setCell _ _ _ _ (fun e => hk (by simp [e]))⟩ (Or.inr hne)

theorem Bld.lib {b B : Nat} {p : Value} {bs : List Value} {w : World} (h : Bld b B p bs w) (hp : p = .pointer none ∨ p = self b) (hB : b ≤ B) : Lib.IsBuilder 30 5 b b bs w := by
  obtain ⟨v, hb, hown, hne⟩ := h
  have ho : w.ownsRow b 5 1 v bs.length bs := by
    refine ⟨hown.1, ?_⟩
    rcases hown.2 with h' | ⟨g, cap, cur, hv, hg, r⟩
    · exact .inl h'
    · exact .inr ⟨g, cap, cur, hv, Nat.le_trans hB hg, r⟩
  rcases hp with rfl | rfl
  · exact .inl ⟨Nat.le_refl _, v, hb, ho, hne⟩
  · exact .inr ⟨Nat.le_refl _, v, hb, ho, hne⟩

set_option maxHeartbeats 1000000 in
set_option maxRecDepth 100000 in
theorem copyCheck_used (b : Nat) (w : World) (h0 : w.cell? ⟨b, 0, none⟩ = some (self b)) :
    Calls Try.prog 10 #[self b] w fun e w' => e = .returned (.tuple #[]) ∧ w' = w := by
  unfold self at *
  obtain ⟨j, hj, hjs⟩ := Option.map_eq_some_iff.1 (show (Try.prog.info? 30).map (·.size) = some 2 by kernel_rfl)
  go_enter Try.func10, Try.ntmps10
  go_wp2
  rw [Lib.run_neq_ptr_same w _ Try.underlying27 hj]
  go_wp2
  go_end0
  exact ⟨rfl, rfl⟩

set_option maxHeartbeats 1000000 in
set_option maxRecDepth 100000 in
theorem copyCheck_fresh (b : Nat) (w : World) (h0 : w.cell? ⟨b, 0, none⟩ = some (.pointer none)) (hsh : w.shape? b = some (30, 2)) (hfz : w.frozen? ⟨b, 0, none⟩ = false) :
    Calls Try.prog 10 #[self b] w fun e w' => e = .returned (.tuple #[]) ∧ w' = w.setCell ⟨b, 0, none⟩ (self b) := by
  unfold self
  obtain ⟨j, hj, hjs⟩ := Option.map_eq_some_iff.1 (show (Try.prog.info? 30).map (·.size) = some 2 by kernel_rfl)
  go_enter Try.func10, Try.ntmps10
  go_wp2
  rw [Lib.run_to_unsafe w ⟨b, 0, none⟩ Try.underlying27 Try.underlying39 hj (by rw [hjs]; decide) hsh (Nat.zero_lt_succ 1)]
  simp only [Result.andThen]
  rw [Oper.upon_value]
  go_wp2
  rw [run_callFunc_extern Try.func12 (by kernel_rfl) (by kernel_rfl) (by kernel_rfl) (e := Extern.AbiNoEscape.same) (by kernel_rfl)]
  rw [Lib.run_noEscape]
  simp only [Result.andThen]
  rw [Oper.upon_value]
  go_wp2
  rw [Lib.run_from_unsafe w ⟨b, 0, none⟩ Try.underlying39 Try.underlying27 hj hsh (by kernel_rfl)]
  simp only [Result.andThen]
  rw [Oper.upon_value]
  go_wp2
  go_end0
  exact ⟨rfl, rfl⟩

theorem copyCheck (b B : Nat) (p : Value) (bs : List Value) (w : World) (h : Bld b B p bs w) (hp : p = .pointer none ∨ p = self b) :
    Calls Try.prog 10 #[self b] w fun e w' => e = .returned (.tuple #[]) ∧ Bld b B (self b) bs w' ∧ Kp b B w w' := by
  have hcell : w.cell? ⟨b, 0, none⟩ = some p := by
    obtain ⟨v, hb, _⟩ := h
    rw [Lib.cell_of_heap hb]; rfl
  rcases hp with rfl | rfl
  · refine (copyCheck_fresh b w hcell ?_ ?_).mono ?_
    · obtain ⟨v, hb, _⟩ := h; simp [World.shape?, hb]
    · obtain ⟨v, hb, _⟩ := h; simp [World.frozen?, hb]
    · rintro e w' ⟨rfl, rfl⟩
      exact ⟨rfl, h.used _, Kp.setCell b B 0 w _⟩
  · refine (copyCheck_used b w hcell).mono ?_
    rintro e w' ⟨rfl, rfl⟩
    exact ⟨rfl, h, Kp.refl b B _⟩

set_option maxHeartbeats 2000000 in
set_option maxRecDepth 100000 in
/-- (*strings.Builder).WriteByte -/
theorem writeByte (b B : Nat) (p : Value) (bs : List Value) (c : Int) (w : World) (h : Bld b B p bs w) (hp : p = .pointer none ∨ p = self b) (hlen : bs.length + 1 ≤ 140737488355328) (hbB : b ≤ B) (hBw : B ≤ w.heap.size) :
    Calls Try.prog 7 #[self b, .int .u8 c] w fun e w' => e = .returned .nilIface ∧ Bld b B (self b) (bs ++ [.int .u8 c]) w' ∧ Kp b B w w' := by
  obtain ⟨i0, hi, hz0, hz1, hz2⟩ := info_parts (show (Try.prog.info? 5).map (fun i => (i.zero, i.size, i.bytes)) = some (some (.int .u8 0), 1, 1) by kernel_rfl)
  go_enter Try.func7, Try.ntmps7
  go_wp2_with (go_at_call 10; refine (copyCheck b B p bs _ h hp).mono ?_)
  rintro e w1 ⟨rfl, h1, hk1⟩
  have hlt := h1.lt
  obtain ⟨v, hbk, hown, hne⟩ := h1
  have hsz1 := hk1.1.size
  unfold self at *
  have c0 : w1.cell? ⟨b, 0, none⟩ = some (.pointer (some ⟨b, 0, none⟩)) := by rw [Lib.cell_of_heap hbk]; rfl
  have c1 : w1.cell? ⟨b, 1, none⟩ = some v := by rw [Lib.cell_of_heap hbk]; rfl
  go_wp2_with (at_builtin; refine wpList_append_own _ rfl _ _ 28 rfl B 5 i0 (.int .u8 0) 1 1 Try.underlying28 hi hz0 hz1 hz2 rfl (by decide) _ _ _ rfl (hown.alloc _) ⟨w1.heap.size, 0, none⟩ 1 1 [.int .u8 c] rfl rfl ?c1 ?c2 ?c3 ?c4 ?c5 ?_)
  case c1 =>
    intro j u hj
    match j, hj with
    | 0, hj => simp at hj; subst hj; simp [Addr.add]
  case c2 => intro u hu; simp at hu; subst hu; rfl
  case c3 => unfold maxLen; omega
  case c4 => omega
  case c5 => simp; omega
  intro v' w2 hown' hgrow _
  have hb2 : w2.heap[b]? = some (.cells #[.pointer (some ⟨b, 0, none⟩), v] 30 (0, 0)) := by
    rw [hgrow.block b (by simp; omega) (fun e => hne e.symm), Lib.alloc_old w1 _ b hlt]
    exact hbk
  have d0 : w2.cell? ⟨b, 0, none⟩ = some (.pointer (some ⟨b, 0, none⟩)) := by rw [Lib.cell_of_heap hb2]; rfl
  have d1 : w2.cell? ⟨b, 1, none⟩ = some v := by rw [Lib.cell_of_heap hb2]; rfl
  have f1 : w2.frozen? ⟨b, 1, none⟩ = false := Lib.frozen_of_heap hb2 1
  obtain ⟨g, cap, rfl⟩ : ∃ g cap, v' = .slice (some ⟨g, 0, none⟩) (bs.length + 1) cap := by
    rcases hown'.2 with ⟨_, h0⟩ | ⟨g, cap, cur, hv, _⟩
    · omega
    · exact ⟨g, cap, hv⟩
  go_wp2
  go_ret
  refine ⟨rfl, Bld.put hb2 (bs' := bs ++ [.int .u8 c]) (by simpa using hown'), hk1.trans (Kp.trans ⟨?_, ?_⟩ (Kp.setCell b B 1 w2 _))⟩
  · exact ((Below.refl b w1).alloc (by omega) _).grown hgrow (by simp; omega) (fun k hk => Nat.le_trans hbB (hown.lt k hk).1)
  · intro j hj hjb
    rw [hgrow.block j (by simp; omega) (fun e => by have := (hown.lt j e.symm).1; omega)]
    exact Lib.alloc_old w1 _ j (by omega)

end Go.Proofs.Ytmcdeglocjhggaa.G
