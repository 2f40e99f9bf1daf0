/-
  A slice that shows the beginning of a row: what stands behind it is known, too. For all programs.
-/
import Derived.Test.YtoieckmegdcaeaaWMore
namespace Go.Proofs.Ytoieckmegdcaeaa.G
open Go.RowKit Go.Proofs.YtoieckmegdcaeaaW.PrintWords Go.Proofs.YtoieckmegdcaeaaW.PrintLast Go.Proofs.YtoieckmegdcaeaaW.PrintMore
/-- v shows the first n places of u. -/
def Pre (u v : Value) (n : Nat) : Prop := ∀ A l c, u = .slice A l c → v = .slice A n c
theorem Pre.mk (A : Option Addr) (l n c : Nat) : Pre (.slice A l c) (.slice A n c) n := by
  intro A' l' c' h
  injection h with h1 h2 h3
  rw [h1, h3]
section
variable {α : Type} {d : Kd α} {e : Nat} {W : World} {base : Nat} {ok : Nat → Prop} {u v : Value} {xs tl : List α} {A : Option Addr} {c : Nat}
theorem R_pre (h : Kd.R d e W base ok (.slice A (xs ++ tl).length c) (xs ++ tl)) : Kd.R d e W base ok (.slice A xs.length c) xs := by
  have h2 := Kd.R_take (m := xs.length) h (by rw [List.length_append]; omega)
  rwa [List.take_left] at h2
theorem R_preV (hv : Pre u v xs.length) (h : Kd.R d e W base ok u (xs ++ tl)) : Kd.R d e W base ok v xs := by
  obtain ⟨A, c, rfl⟩ := Kd.R_slice h
  rw [hv _ _ _ rfl]
  exact R_pre h
theorem pre_block {n : Nat} (hv : Pre u v n) (h : Kd.R d e W base ok u xs) : v.ownBlock = u.ownBlock := by
  obtain ⟨A, c, rfl⟩ := Kd.R_slice h
  rw [hv _ _ _ rfl]
  cases A <;> rfl
end
/-- v shows the list r, and a row of which r is the beginning and the mark the next. -/
def Told {α : Type} (d : Kd α) (e : Nat) (mk : α) (w w' : World) (v : Value) (r : List α) : Prop :=
  ∃ (u : Value) (m : List α), Pre u v r.length ∧ (∃ tl, m = mk :: tl) ∧ Kd.R d e w' w.heap.size (fun _ => True) u (r ++ m)
theorem set_split {α : Type} (xs : List α) (i : Nat) (m : α) (h : i < xs.length) : xs.set i m = (xs.set i m).take i ++ m :: (xs.set i m).drop (i + 1) := by
  have h1 : (xs.set i m).drop i = m :: (xs.set i m).drop (i + 1) := by
    rw [List.drop_eq_getElem_cons (by rw [List.length_set]; exact h), List.getElem_set_self]
  rw [← h1, List.take_append_drop]
section
variable {P : Program}
/-- s[:j] within the capacity. -/
theorem cut_room (t e : TypeId) (kh : IntKind) {i : TypeInfo} (ht : P.underlying t = some (.slice e)) (hi : P.info? e = some i) (A : Option Addr) (n c : Nat) (j : Int) (h0 : 0 ≤ j) (hm : j ≤ c) :
    ∀ W : World, (Instr.slice t (.slice A n c) none (some (.int kh j)) none).run P W = .ok (.slice A j.toNat c) W := by
  intro W
  have hel : P.elem t = e := by simp [Program.elem, ht]
  have hu : P.underlying t = some (.slice (P.elem t)) := by rw [hel]; exact ht
  have ha : (A.map fun x => x.add 0) = A := by cases A <;> simp [Addr.add]
  rw [run_slice_h W t A n c hu kh j h0 hm, hel]
  simp [sizeOf, typeInfo, hi, sliced, Result.andThen, ha]
end
end Go.Proofs.Ytoieckmegdcaeaa.G
