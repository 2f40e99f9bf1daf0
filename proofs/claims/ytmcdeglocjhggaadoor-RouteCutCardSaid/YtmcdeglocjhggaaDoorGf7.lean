/-
  tidemarklaw12.twin: function 7, by hand: the configuration with a new row for its split keys, two marks behind them.
-/
import Derived.Test.YtmcdeglocjhggaaDoorG0
import Derived.Test.YtmcdeglocjhggaaDoorGf18
import Derived.Laws.IdiomCopy
import Derived.Laws.MakeOwn
import Derived.Laws.CopyOwn
namespace Go.Proofs.YtmcdeglocjhggaaDoor.G
open Go.RowKit Go.Proofs.YtmcdeglocjhggaaDoorW.PrintWords Go.Proofs.YtmcdeglocjhggaaDoorW.PrintLast Go.Proofs.YtmcdeglocjhggaaDoorW.PrintMore
set_option linter.unusedVariables false

def tidemarklaw12_twin.f (k : Nat) (a0 a1 : Int) (l : List ByteArray) (a3 a4 a5 : Int) : Option (Int × Int × List ByteArray × Int × Int × Int) :=
  if l.length ≤ 17592186044400 then some (a0, a1, l, a3, a4, a5) else none
theorem tidemarklaw12_twin.mono : ∀ a0 a1 l a3 a4 a5 k, LeO (tidemarklaw12_twin.f k a0 a1 l a3 a4 a5) (tidemarklaw12_twin.f (k + 1) a0 a1 l a3 a4 a5) := fun _ _ _ _ _ _ _ => LeO.refl _

/-- what stands: the parameter's block, the result's block, the row: n cells of it hold l. -/
structure Fw (a0 a1 : Int) (A : Option Addr) (c : Nat) (l : List ByteArray) (a3 a4 a5 : Int) (w : World) (n : Nat) (W : World) : Prop where
  below : Below w.heap.size w W
  par : W.heap[w.heap.size]? = some (.cells #[.int .i64 a0, .int .i64 a1, .slice A l.length c, .int .i64 a3, .int .i64 a4, .int .u64 a5] 25 (0, 0))
  res : W.heap[w.heap.size + 1]? = some (.cells #[.int .i64 0, .int .i64 0, .slice none 0 0, .int .i64 0, .int .i64 0, .int .u64 0] 25 (0, 0))
  row : ∃ cur : List Value, W.heap[w.heap.size + 2]? = some (.cells cur.toArray 9 (0, 0)) ∧ cur.length = l.length + 2 ∧ cur.take n = (l.map Value.string).take n

theorem Fw.start (a0 a1 : Int) (A : Option Addr) (c : Nat) (l : List ByteArray) (a3 a4 a5 : Int) (w : World) {s9 : Nat} (hs9 : s9 = 1) {W : World}
    (hW : World.alloc (World.alloc (World.alloc w (.cells #[.int .i64 a0, .int .i64 a1, .slice A l.length c, .int .i64 a3, .int .i64 a4, .int .u64 a5] 25)) (.cells #[.int .i64 0, .int .i64 0, .slice none 0 0, .int .i64 0, .int .i64 0, .int .u64 0] 25)) (.cells (madeCells (Value.string ⟨#[]⟩).cells (((l.length : Int) + 2).toNat * s9)) 9) = W) :
    Fw a0 a1 A c l a3 a4 a5 w 0 W := by
  subst hW
  subst hs9
  have z1 : (World.alloc w (.cells #[.int .i64 a0, .int .i64 a1, .slice A l.length c, .int .i64 a3, .int .i64 a4, .int .u64 a5] 25)).heap.size = w.heap.size + 1 := by simp
  have z2 : (World.alloc (World.alloc w (.cells #[.int .i64 a0, .int .i64 a1, .slice A l.length c, .int .i64 a3, .int .i64 a4, .int .u64 a5] 25)) (.cells #[.int .i64 0, .int .i64 0, .slice none 0 0, .int .i64 0, .int .i64 0, .int .u64 0] 25)).heap.size = w.heap.size + 2 := by simp
  refine ⟨(((Below.refl _ w).alloc (Nat.le_refl _) _).alloc (by rw [z1]; omega) _).alloc (by rw [z2]; omega) _, ?_, ?_, ?_⟩
  · rw [Below.heap_alloc _ _ _ (by rw [z2]; omega), Below.heap_alloc _ _ _ (by rw [z1]; omega)]
    exact heap_alloc_new w _
  · rw [Below.heap_alloc _ _ _ (by rw [z2]; omega), ← z1]
    exact heap_alloc_new _ _
  · refine ⟨(madeCells (Value.string ⟨#[]⟩).cells (((l.length : Int) + 2).toNat * 1)).toList, ?_, ?_, rfl⟩
    · rw [← z2, Array.toArray_toList]
      exact heap_alloc_new _ _
    · rw [Array.length_toList, size_madeCells]; omega
section
variable {a0 a1 : Int} {A : Option Addr} {c : Nat} {l : List ByteArray} {a3 a4 a5 : Int} {w W : World} {n : Nat}
theorem Fw.c0 (h : Fw a0 a1 A c l a3 a4 a5 w n W) : W.frozen? ⟨w.heap.size, 2, none⟩ = false := by simp [World.frozen?, h.par]
theorem Fw.c2 (h : Fw a0 a1 A c l a3 a4 a5 w n W) : W.cell? ⟨w.heap.size, 2, none⟩ = some (.slice A l.length c) := by simp [World.cell?, h.par]
theorem Fw.p0 (h : Fw a0 a1 A c l a3 a4 a5 w n W) : (W.setCell ⟨w.heap.size, 2, none⟩ (.slice (some ⟨w.heap.size + 2, 0, none⟩) l.length (l.length + 2))).cell? ⟨w.heap.size, 0, none⟩ = some (.int .i64 a0) := by simp [World.cell?, World.setCell, Array.getElem?_modify, h.par]
theorem Fw.p1 (h : Fw a0 a1 A c l a3 a4 a5 w n W) : (W.setCell ⟨w.heap.size, 2, none⟩ (.slice (some ⟨w.heap.size + 2, 0, none⟩) l.length (l.length + 2))).cell? ⟨w.heap.size, 1, none⟩ = some (.int .i64 a1) := by simp [World.cell?, World.setCell, Array.getElem?_modify, h.par]
theorem Fw.p2 (h : Fw a0 a1 A c l a3 a4 a5 w n W) : (W.setCell ⟨w.heap.size, 2, none⟩ (.slice (some ⟨w.heap.size + 2, 0, none⟩) l.length (l.length + 2))).cell? ⟨w.heap.size, 2, none⟩ = some (.slice (some ⟨w.heap.size + 2, 0, none⟩) l.length (l.length + 2)) := by simp [World.cell?, World.setCell, Array.getElem?_modify, h.par]
theorem Fw.p3 (h : Fw a0 a1 A c l a3 a4 a5 w n W) : (W.setCell ⟨w.heap.size, 2, none⟩ (.slice (some ⟨w.heap.size + 2, 0, none⟩) l.length (l.length + 2))).cell? ⟨w.heap.size, 3, none⟩ = some (.int .i64 a3) := by simp [World.cell?, World.setCell, Array.getElem?_modify, h.par]
theorem Fw.p4 (h : Fw a0 a1 A c l a3 a4 a5 w n W) : (W.setCell ⟨w.heap.size, 2, none⟩ (.slice (some ⟨w.heap.size + 2, 0, none⟩) l.length (l.length + 2))).cell? ⟨w.heap.size, 4, none⟩ = some (.int .i64 a4) := by simp [World.cell?, World.setCell, Array.getElem?_modify, h.par]
theorem Fw.p5 (h : Fw a0 a1 A c l a3 a4 a5 w n W) : (W.setCell ⟨w.heap.size, 2, none⟩ (.slice (some ⟨w.heap.size + 2, 0, none⟩) l.length (l.length + 2))).cell? ⟨w.heap.size, 5, none⟩ = some (.int .u64 a5) := by simp [World.cell?, World.setCell, Array.getElem?_modify, h.par]
theorem Fw.r0 (h : Fw a0 a1 A c l a3 a4 a5 w n W) : (W.setCell ⟨w.heap.size, 2, none⟩ (.slice (some ⟨w.heap.size + 2, 0, none⟩) l.length (l.length + 2))).cell? ⟨w.heap.size + 1, 0, none⟩ = some (.int .i64 0) := by simp [World.cell?, World.setCell, Array.getElem?_modify, h.res]
theorem Fw.r1 (h : Fw a0 a1 A c l a3 a4 a5 w n W) : (W.setCell ⟨w.heap.size, 2, none⟩ (.slice (some ⟨w.heap.size + 2, 0, none⟩) l.length (l.length + 2))).cell? ⟨w.heap.size + 1, 1, none⟩ = some (.int .i64 0) := by simp [World.cell?, World.setCell, Array.getElem?_modify, h.res]
theorem Fw.r2 (h : Fw a0 a1 A c l a3 a4 a5 w n W) : (W.setCell ⟨w.heap.size, 2, none⟩ (.slice (some ⟨w.heap.size + 2, 0, none⟩) l.length (l.length + 2))).cell? ⟨w.heap.size + 1, 2, none⟩ = some (.slice none 0 0) := by simp [World.cell?, World.setCell, Array.getElem?_modify, h.res]
theorem Fw.r3 (h : Fw a0 a1 A c l a3 a4 a5 w n W) : (W.setCell ⟨w.heap.size, 2, none⟩ (.slice (some ⟨w.heap.size + 2, 0, none⟩) l.length (l.length + 2))).cell? ⟨w.heap.size + 1, 3, none⟩ = some (.int .i64 0) := by simp [World.cell?, World.setCell, Array.getElem?_modify, h.res]
theorem Fw.r4 (h : Fw a0 a1 A c l a3 a4 a5 w n W) : (W.setCell ⟨w.heap.size, 2, none⟩ (.slice (some ⟨w.heap.size + 2, 0, none⟩) l.length (l.length + 2))).cell? ⟨w.heap.size + 1, 4, none⟩ = some (.int .i64 0) := by simp [World.cell?, World.setCell, Array.getElem?_modify, h.res]
theorem Fw.r5 (h : Fw a0 a1 A c l a3 a4 a5 w n W) : (W.setCell ⟨w.heap.size, 2, none⟩ (.slice (some ⟨w.heap.size + 2, 0, none⟩) l.length (l.length + 2))).cell? ⟨w.heap.size + 1, 5, none⟩ = some (.int .u64 0) := by simp [World.cell?, World.setCell, Array.getElem?_modify, h.res]
theorem Fw.f0 (h : Fw a0 a1 A c l a3 a4 a5 w n W) : (W.setCell ⟨w.heap.size, 2, none⟩ (.slice (some ⟨w.heap.size + 2, 0, none⟩) l.length (l.length + 2))).frozen? ⟨w.heap.size + 1, 0, none⟩ = false := by simp [World.frozen?, World.setCell, Array.getElem?_modify, h.res]
theorem Fw.f1 (h : Fw a0 a1 A c l a3 a4 a5 w n W) : (W.setCell ⟨w.heap.size, 2, none⟩ (.slice (some ⟨w.heap.size + 2, 0, none⟩) l.length (l.length + 2))).frozen? ⟨w.heap.size + 1, 1, none⟩ = false := by simp [World.frozen?, World.setCell, Array.getElem?_modify, h.res]
theorem Fw.f2 (h : Fw a0 a1 A c l a3 a4 a5 w n W) : (W.setCell ⟨w.heap.size, 2, none⟩ (.slice (some ⟨w.heap.size + 2, 0, none⟩) l.length (l.length + 2))).frozen? ⟨w.heap.size + 1, 2, none⟩ = false := by simp [World.frozen?, World.setCell, Array.getElem?_modify, h.res]
theorem Fw.f3 (h : Fw a0 a1 A c l a3 a4 a5 w n W) : (W.setCell ⟨w.heap.size, 2, none⟩ (.slice (some ⟨w.heap.size + 2, 0, none⟩) l.length (l.length + 2))).frozen? ⟨w.heap.size + 1, 3, none⟩ = false := by simp [World.frozen?, World.setCell, Array.getElem?_modify, h.res]
theorem Fw.f4 (h : Fw a0 a1 A c l a3 a4 a5 w n W) : (W.setCell ⟨w.heap.size, 2, none⟩ (.slice (some ⟨w.heap.size + 2, 0, none⟩) l.length (l.length + 2))).frozen? ⟨w.heap.size + 1, 4, none⟩ = false := by simp [World.frozen?, World.setCell, Array.getElem?_modify, h.res]
theorem Fw.f5 (h : Fw a0 a1 A c l a3 a4 a5 w n W) : (W.setCell ⟨w.heap.size, 2, none⟩ (.slice (some ⟨w.heap.size + 2, 0, none⟩) l.length (l.length + 2))).frozen? ⟨w.heap.size + 1, 5, none⟩ = false := by simp [World.frozen?, World.setCell, Array.getElem?_modify, h.res]
theorem Fw.finH (h : Fw a0 a1 A c l a3 a4 a5 w n W) : (((((((W.setCell ⟨w.heap.size, 2, none⟩ (.slice (some ⟨w.heap.size + 2, 0, none⟩) l.length (l.length + 2))).setCell ⟨w.heap.size + 1, 0, none⟩ (.int .i64 a0)).setCell ⟨w.heap.size + 1, 1, none⟩ (.int .i64 a1)).setCell ⟨w.heap.size + 1, 2, none⟩ (.slice (some ⟨w.heap.size + 2, 0, none⟩) l.length (l.length + 2))).setCell ⟨w.heap.size + 1, 3, none⟩ (.int .i64 a3)).setCell ⟨w.heap.size + 1, 4, none⟩ (.int .i64 a4)).setCell ⟨w.heap.size + 1, 5, none⟩ (.int .u64 a5)).heap[w.heap.size + 1]? = some (.cells #[.int .i64 a0, .int .i64 a1, .slice (some ⟨w.heap.size + 2, 0, none⟩) l.length (l.length + 2), .int .i64 a3, .int .i64 a4, .int .u64 a5] 25 (0, 0)) := by simp [World.setCell, Array.getElem?_modify, h.res]
theorem Fw.finB (h : Fw a0 a1 A c l a3 a4 a5 w n W) : Below w.heap.size w (((((((W.setCell ⟨w.heap.size, 2, none⟩ (.slice (some ⟨w.heap.size + 2, 0, none⟩) l.length (l.length + 2))).setCell ⟨w.heap.size + 1, 0, none⟩ (.int .i64 a0)).setCell ⟨w.heap.size + 1, 1, none⟩ (.int .i64 a1)).setCell ⟨w.heap.size + 1, 2, none⟩ (.slice (some ⟨w.heap.size + 2, 0, none⟩) l.length (l.length + 2))).setCell ⟨w.heap.size + 1, 3, none⟩ (.int .i64 a3)).setCell ⟨w.heap.size + 1, 4, none⟩ (.int .i64 a4)).setCell ⟨w.heap.size + 1, 5, none⟩ (.int .u64 a5)) :=
  ((((((h.below.setCell (p := ⟨w.heap.size, 2, none⟩) (Nat.le_refl _) _).setCell (p := ⟨w.heap.size + 1, 0, none⟩) (Nat.le_succ _) _).setCell (p := ⟨w.heap.size + 1, 1, none⟩) (Nat.le_succ _) _).setCell (p := ⟨w.heap.size + 1, 2, none⟩) (Nat.le_succ _) _).setCell (p := ⟨w.heap.size + 1, 3, none⟩) (Nat.le_succ _) _).setCell (p := ⟨w.heap.size + 1, 4, none⟩) (Nat.le_succ _) _).setCell (p := ⟨w.heap.size + 1, 5, none⟩) (Nat.le_succ _) _
theorem reps_str (l : List ByteArray) : Reps (fun (x : ByteArray) (cs : List Value) => cs = [Value.string x]) 1 l (l.map Value.string) := Kd.reps_scalar l
theorem Fw.finR (h : Fw a0 a1 A c l a3 a4 a5 w l.length W) (hl : l.length ≤ 17592186044400) : Kd.R Kd.string 9 (((((((W.setCell ⟨w.heap.size, 2, none⟩ (.slice (some ⟨w.heap.size + 2, 0, none⟩) l.length (l.length + 2))).setCell ⟨w.heap.size + 1, 0, none⟩ (.int .i64 a0)).setCell ⟨w.heap.size + 1, 1, none⟩ (.int .i64 a1)).setCell ⟨w.heap.size + 1, 2, none⟩ (.slice (some ⟨w.heap.size + 2, 0, none⟩) l.length (l.length + 2))).setCell ⟨w.heap.size + 1, 3, none⟩ (.int .i64 a3)).setCell ⟨w.heap.size + 1, 4, none⟩ (.int .i64 a4)).setCell ⟨w.heap.size + 1, 5, none⟩ (.int .u64 a5)) w.heap.size (fun _ => True) (.slice (some ⟨w.heap.size + 2, 0, none⟩) l.length (l.length + 2)) l := by
  obtain ⟨hbel, hp, hq, ⟨cur, hrow, hcur, ht⟩⟩ := h
  refine ⟨fun _ _ => trivial, l.map Value.string, ⟨?_, .inr ⟨w.heap.size + 2, l.length + 2, cur.toArray, rfl, by omega, ?_, by omega, by unfold maxLen; omega, ?_, ?_⟩⟩, reps_str l⟩
  · show (l.map Value.string).length = l.length * 1
    rw [List.length_map, Nat.mul_one]
  · simp [World.setCell, Array.getElem?_modify, hrow]
  · show cur.toArray.size = (l.length + 2) * 1
    rw [List.size_toArray, Nat.mul_one, hcur]
  · show cur.toArray.toList.take (l.length * 1) = l.map Value.string
    rw [Nat.mul_one]
    show cur.take l.length = _
    rw [ht]
    exact List.take_of_length_le (by rw [List.length_map]; exact Nat.le_refl _)
end

theorem Fw.keep {a0 a1 : Int} {A : Option Addr} {c : Nat} {l : List ByteArray} {a3 a4 a5 : Int} {w W W3 : World} {n : Nat} (h : Fw a0 a1 A c l a3 a4 a5 w n W) (hb : Below W.heap.size W W3) : Fw a0 a1 A c l a3 a4 a5 w n W3 := by
  obtain ⟨hbel, hp, hq, ⟨cur, hrow, hcur, ht⟩⟩ := h
  have lt : ∀ {k : Nat} {o : Obj}, W.heap[k]? = some o → k < W.heap.size := fun hk => (Array.getElem?_eq_some_iff.1 hk).1
  refine ⟨hbel.trans (hb.mono hbel.size), ?_, ?_, cur, ?_, hcur, ht⟩
  · rw [hb.block _ (lt hp)]; exact hp
  · rw [hb.block _ (lt hq)]; exact hq
  · rw [hb.block _ (lt hrow)]; exact hrow
theorem Fw.set {a0 a1 : Int} {A : Option Addr} {c : Nat} {l : List ByteArray} {a3 a4 a5 : Int} {w W : World} (h : Fw a0 a1 A c l a3 a4 a5 w l.length W) (i : Nat) (hi : l.length ≤ i) (u : Value) :
    Fw a0 a1 A c l a3 a4 a5 w l.length (W.setCell ⟨w.heap.size + 2, i, none⟩ u) := by
  obtain ⟨hbel, hp, hq, ⟨cur, hrow, hcur, ht⟩⟩ := h
  refine ⟨hbel.setCell (p := ⟨w.heap.size + 2, i, none⟩) (by show w.heap.size ≤ w.heap.size + 2; omega) u, ?_, ?_, cur.set i u, ?_, ?_, ?_⟩
  · rw [Below.heap_setCell _ _ _ _ (by show w.heap.size ≠ w.heap.size + 2; omega)]; exact hp
  · rw [Below.heap_setCell _ _ _ _ (by show w.heap.size + 1 ≠ w.heap.size + 2; omega)]; exact hq
  · simp [World.setCell, Array.getElem?_modify, hrow]
  · rw [List.length_set]; exact hcur
  · rw [List.take_set_of_le hi]; exact ht
theorem Fw.at {a0 a1 : Int} {A : Option Addr} {c : Nat} {l : List ByteArray} {a3 a4 a5 : Int} {w W : World} {n : Nat} (h : Fw a0 a1 A c l a3 a4 a5 w n W) (i : Nat) (hi : i < l.length + 2) :
    (∃ u, W.cell? ⟨w.heap.size + 2, i, none⟩ = some u) ∧ W.frozen? ⟨w.heap.size + 2, i, none⟩ = false := by
  obtain ⟨hbel, hp, hq, ⟨cur, hrow, hcur, ht⟩⟩ := h
  refine ⟨⟨cur[i]'(by omega), ?_⟩, ?_⟩
  · simp [World.cell?, hrow, hcur, hi]
  · simp [World.frozen?, hrow]

theorem cp {a0 a1 : Int} {A : Option Addr} {c : Nat} {l : List ByteArray} {a3 a4 a5 : Int} {w W : World} (h : Fw a0 a1 A c l a3 a4 a5 w 0 W) (hC : Kd.C Kd.string W A l.length l) :
    ∃ W2, (Builtin.copy_ #[22, 22] 3 #[.slice (some ⟨w.heap.size + 2, 0, none⟩) (l.length + 2) (l.length + 2), .slice A l.length c]).run Tryd.prog W = .ok (goInt l.length) W2 ∧ Fw a0 a1 A c l a3 a4 a5 w l.length W2 := by
  obtain ⟨hbel, hp, hq, ⟨cur, hrow, hcur, _⟩⟩ := h
  have hsz : (Tryd.prog.info? 9).map (·.size) = some 1 := by kernel_rfl
  by_cases h0 : l.length = 0
  · refine ⟨W, ?_, hbel, hp, hq, cur, hrow, hcur, ?_⟩
    · rw [run_copy_none W 22 22 3 9 _ _ _ _ _ _ Tryd.underlying22 hsz (by rw [h0]; exact Nat.zero_min _), h0]
      rfl
    · rw [h0]; rfl
  · obtain ⟨ad, rfl, hcell⟩ := hC.2.2 (by omega)
    have hrun := run_copy_row (P := Tryd.prog) W 22 22 3 9 (w.heap.size + 2) 0 (l.length + 2) (l.length + 2) ad l.length c cur.toArray 9 (l.map Value.string) Tryd.underlying22 hsz hrow
      (by rw [List.length_map]; exact (Nat.min_eq_left (by omega)).symm)
      (by
        intro j v hv
        rw [List.getElem?_map] at hv
        obtain ⟨x, hx, rfl⟩ := Option.map_eq_some_iff.mp hv
        obtain ⟨cs, _, hk, hcc⟩ := hcell j x hx
        have hk' : cs = [Value.string x] := hk
        subst hk'
        have := hcc 0 (.string x) rfl
        have e : j * Kd.string.sz + 0 = j := by show j * 1 + 0 = j; omega
        rw [e] at this
        exact this)
      (by rw [List.length_map, List.size_toArray]; omega)
      (by
        intro v hv
        obtain ⟨x, _, rfl⟩ := List.mem_map.mp hv
        rfl)
    rw [List.length_map] at hrun
    refine ⟨_, hrun, ?_, ?_, ?_, _, setRow_heap _ _ _ _ _ _ hrow, ?_, ?_⟩
    · exact below_setRow hbel (by omega) _
    · rw [setRow_other _ _ _ _ (by omega)]; exact hp
    · rw [setRow_other _ _ _ _ (by omega)]; exact hq
    · simp; omega
    · simp
      exact (List.take_of_length_le (by rw [List.length_map]; exact Nat.le_refl _)).symm

set_option maxHeartbeats 4000000 in
set_option maxRecDepth 1000000 in
theorem twin_walk (a0 a1 : Int) (A : Option Addr) (c : Nat) (l : List ByteArray) (a3 a4 a5 : Int) (w : World) (tb : Tb w) (hr : Kd.C Kd.string w A l.length l) (hc : l.length ≤ c) (hl : l.length ≤ 17592186044400) :
    Calls Tryd.prog 7 #[.agg #[.int .i64 a0, .int .i64 a1, .slice A l.length c, .int .i64 a3, .int .i64 a4, .int .u64 a5]] w
      fun e w' => ∃ v : Value, e = .returned (.agg #[.int .i64 a0, .int .i64 a1, v, .int .i64 a3, .int .i64 a4, .int .u64 a5]) ∧ Kd.R Kd.string 9 w' w.heap.size (fun _ => True) v l ∧ Below w.heap.size w w' := by
  go_enter Tryd.func7, Tryd.ntmps7
  go_wp2
  obtain ⟨i9, hi9, hz9, hs9, hb9⟩ := info_parts info9
  rw [run_make _ 22 9 i9 (.string ⟨#[]⟩) Tryd.underlying22 hi9 hz9 .i64 .i64 ((l.length : Int) + 2) ((l.length : Int) + 2) (by omega) (by omega) (by rw [hb9]; omega) (by omega)]
  generalize hW : World.alloc (World.alloc (World.alloc w (.cells #[.int .i64 a0, .int .i64 a1, .slice A l.length c, .int .i64 a3, .int .i64 a4, .int .u64 a5] 25)) (.cells #[.int .i64 0, .int .i64 0, .slice none 0 0, .int .i64 0, .int .i64 0, .int .u64 0] 25)) (.cells (madeCells (Value.string ⟨#[]⟩).cells (((l.length : Int) + 2).toNat * i9.size)) 9) = W
  have hF := Fw.start a0 a1 A c l a3 a4 a5 w hs9 (W := W) hW
  have hsz : (World.alloc (World.alloc w (.cells #[.int .i64 a0, .int .i64 a1, .slice A l.length c, .int .i64 a3, .int .i64 a4, .int .u64 a5] 25)) (.cells #[.int .i64 0, .int .i64 0, .slice none 0 0, .int .i64 0, .int .i64 0, .int .u64 0] 25)).heap.size = w.heap.size + 2 := by simp
  rw [hsz]
  clear hW hsz
  simp only [Result.andThen]
  rw [Oper.upon_value]
  have ec : ((l.length : Int) + 2).toNat = l.length + 2 := by omega
  rw [ec]
  have g0 := hF.c0
  have g2 := hF.c2
  go_wp2
  obtain ⟨W2, hcp, hG⟩ := cp hF (Kd.C_below hr hF.below)
  rw [hcp]
  have k0 := hG.c0
  have k2 := hG.c2
  simp only [Result.andThen]
  rw [Oper.upon_value]
  clear hcp hF g0 g2
  go_wp2
  clear k0 k2
  go_loopw [4] (fun v4 wr => ∃ i : Nat, v4 = .int .i64 (i : Int) ∧ l.length ≤ i ∧ i ≤ l.length + 2 ∧ Fw a0 a1 A c l a3 a4 a5 w l.length wr) (fun v4 _ => l.length + 2 - (Lib.intOf v4).toNat)
  case atStart => exact ⟨l.length, rfl, Nat.le_refl _, by omega, hG⟩
  case round =>
    obtain ⟨i, rfl, hi1, hi2, hR⟩ := hrel
    have k0 := hR.c0
    have k2 := hR.c2
    by_cases hi : i < l.length + 2
    · have d1 : decide ((i : Int) < (l.length : Int) + 2) = true := decide_eq_true (by omega)
      have p1 : ((0 : Int) ≤ (i : Int)) = True := eq_true (by omega)
      have q1 : ((i : Int) < (l.length : Int) + 2) = True := eq_true (by omega)
      go_wp2_with (go_at_call 18; refine (mark_calls (i : Int) (by omega) (by omega) _ (tb.keep hR.below)).mono ?_)
      rintro e W3 ⟨⟨s, rfl⟩, b3⟩
      have hR3 := hR.keep b3
      obtain ⟨⟨u, hu⟩, hf⟩ := hR3.at i hi
      go_wp2
      refine ⟨⟨i + 1, congrArg (Value.int .i64) (show (i : Int) + 1 = ((i + 1 : Nat) : Int) by omega), by omega, by omega, hR3.set i hi1 _⟩, ?_⟩
      show l.length + 2 - ((i : Int) + 1).toNat < l.length + 2 - ((i : Int)).toNat
      omega
    · have d1 : decide ((i : Int) < (l.length : Int) + 2) = false := decide_eq_false (by omega)
      have e0 := hR.p0
      have e1 := hR.p1
      have e2 := hR.p2
      have e3 := hR.p3
      have e4 := hR.p4
      have e5 := hR.p5
      have r0 := hR.r0
      have r1 := hR.r1
      have r2 := hR.r2
      have r3 := hR.r3
      have r4 := hR.r4
      have r5 := hR.r5
      have f0 := hR.f0
      have f1 := hR.f1
      have f2 := hR.f2
      have f3 := hR.f3
      have f4 := hR.f4
      have f5 := hR.f5
      go_wp2
      have hB := hR.finB
      have hO := hR.finR hl
      have hH := hR.finH
      refine bodyPost_ret (results_cell_row rfl _ _ (w.heap.size + 1) 25 _ (0, 0) _ rfl hH Tryd.underlying25 rfl (by kernel_rfl)) rfl ?_
      exact ⟨_, rfl, hO, hB⟩

theorem tidemarklaw12_twin.calls (k : Nat) (a0_0 a0_1 : Int) (A0_2 : Option Addr) (c0_2 : Nat) (l0_2 : List ByteArray) (a0_3 a0_4 a0_5 : Int) (r0 r1 : Int) (r2 : List ByteArray) (r3 r4 r5 : Int) (w : World) (hr0_2 : Kd.C Kd.string w A0_2 l0_2.length l0_2) (hc0_2 : l0_2.length ≤ c0_2) (h : tidemarklaw12_twin.f k a0_0 a0_1 l0_2 a0_3 a0_4 a0_5 = some (r0, r1, r2, r3, r4, r5)) (tb : Tb w) :
    Calls Tryd.prog 7 #[.agg #[.int .i64 a0_0, .int .i64 a0_1, .slice A0_2 l0_2.length c0_2, .int .i64 a0_3, .int .i64 a0_4, .int .u64 a0_5]] w
      fun e w' => ∃ v : Value, e = .returned (.agg #[.int .i64 r0, .int .i64 r1, v, .int .i64 r3, .int .i64 r4, .int .u64 r5]) ∧ Kd.R Kd.string 9 w' w.heap.size (fun _ => True) v r2 ∧ Below w.heap.size w w' := by
  unfold tidemarklaw12_twin.f at h
  by_cases hl : l0_2.length ≤ 17592186044400
  · rw [if_pos hl] at h
    have h' := Option.some.inj h
    obtain ⟨rfl, rfl, rfl, rfl, rfl, rfl⟩ : a0_0 = r0 ∧ a0_1 = r1 ∧ l0_2 = r2 ∧ a0_3 = r3 ∧ a0_4 = r4 ∧ a0_5 = r5 := by
      simp only [Prod.mk.injEq] at h'
      exact h'
    exact twin_walk a0_0 a0_1 A0_2 c0_2 l0_2 a0_3 a0_4 a0_5 w tb hr0_2 hc0_2 hl
  · rw [if_neg hl] at h; exact absurd h (by simp)
end Go.Proofs.YtmcdeglocjhggaaDoor.G
