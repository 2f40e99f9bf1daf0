/-
  route.Word: function 4, by hand: a strings.Builder beside the row of []byte(text).
-/
import Derived.Test.YtmcdeglocjhggaaG0
import Derived.Test.YtmcdeglocjhggaaGBld
import Derived.Test.YtmcdeglocjhggaaShelf
import Derived.Test.YtmcdeglocjhggaaGf6
import Derived.Lib.ConvBytes
import Derived.WalkSmall
namespace Go.Proofs.Ytmcdeglocjhggaa.G
open Go.RowKit Go.Proofs.YtmcdeglocjhggaaW.PrintWords Go.Proofs.YtmcdeglocjhggaaW.PrintLast Go.Proofs.YtmcdeglocjhggaaW.PrintMore
set_option linter.unusedVariables false
set_option linter.unusedSimpArgs false

def plain (c : UInt8) : Bool := decide (32 < c.toNat) && (decide (c.toNat < 127) && (c.toNat != 37))
def dig (n : Nat) : UInt8 := if n < 10 then (48 + n).toUInt8 else (87 + n).toUInt8
def escW (c : UInt8) : List UInt8 := if plain c then [c] else [37, dig (c.toNat / 16), dig (c.toNat % 16)]
def wordL (l : List UInt8) : List UInt8 := l.flatMap escW
def route_Word.f (k : Nat) (a0 : ByteArray) : Option ByteArray :=
  if a0.toList = ([] : List UInt8) then some ⟨#[37]⟩ else if 3 * a0.size ≤ 140737488355328 then some ⟨(wordL a0.data.toList).toArray⟩ else none
theorem route_Word.mono : ∀ a0 k, LeO (route_Word.f k a0) (route_Word.f (k + 1) a0) := fun _ _ => LeO.refl _

theorem escW_len (c : UInt8) : (escW c).length ≤ 3 := by
  unfold escW; split <;> simp
theorem wordL_append (a b : List UInt8) : wordL (a ++ b) = wordL a ++ wordL b := List.flatMap_append
theorem wordL_len : ∀ l : List UInt8, (wordL l).length ≤ 3 * l.length
  | [] => Nat.le_refl _
  | c :: r => by
    have h1 := wordL_len r
    have h2 := escW_len c
    have h3 : wordL (c :: r) = escW c ++ wordL r := rfl
    rw [h3, List.length_append, List.length_cons]
    omega

theorem dig_at (n : Nat) (h : n < (⟨#[48, 49, 50, 51, 52, 53, 54, 55, 56, 57, 97, 98, 99, 100, 101, 102]⟩ : ByteArray).size) :
    (⟨#[48, 49, 50, 51, 52, 53, 54, 55, 56, 57, 97, 98, 99, 100, 101, 102]⟩ : ByteArray)[n]'h = dig n := by
  have e : ∀ m : Fin 16, (⟨#[48, 49, 50, 51, 52, 53, 54, 55, 56, 57, 97, 98, 99, 100, 101, 102]⟩ : ByteArray)[m.val]'m.2 = dig m.val := by decide
  exact e ⟨n, h⟩
theorem itself_plain (c : UInt8) : route_itself.f (c.toNat : Int) = some (plain c) := by
  have h := c.toNat_lt
  unfold route_itself.f plain
  by_cases h1 : (32 : Nat) < c.toNat
  · rw [if_pos (by omega)]
    by_cases h2 : c.toNat < 127
    · rw [if_pos (by omega)]
      have e : ((c.toNat : Int) != 37) = (c.toNat != 37) := by
        by_cases h3 : c.toNat = 37
        · rw [h3]; rfl
        · rw [bne_iff_ne.mpr h3]
          exact bne_iff_ne.mpr (by omega)
      rw [e, decide_eq_true h1, decide_eq_true h2]
      rfl
    · rw [if_neg (by omega), decide_eq_false h2, Bool.false_and, Bool.and_false]
  · rw [if_neg (by omega), decide_eq_false h1, Bool.false_and]
theorem wordL_step (s : ByteArray) (i : Nat) (c : UInt8) (hi : i < s.size) (hc : s.data.toList.getD i 0 = c) :
    wordL (s.data.toList.take (i + 1)) = wordL (s.data.toList.take i) ++ escW c := by
  have hl : i < s.data.toList.length := hi
  rw [List.take_succ_eq_append_getElem hl, wordL_append]
  have : s.data.toList[i] = c := by
    rw [← hc, List.getD_eq_getElem?_getD, List.getElem?_eq_getElem hl]; rfl
  rw [this]
  have e : wordL [c] = escW c := List.append_nil _
  rw [e]

/-- what the loop keeps. -/
structure Rl (s : ByteArray) (b : Nat) (w : World) (i : Nat) (p : Value) (wr : World) : Prop where
  le : i ≤ s.size
  hp : p = .pointer none ∨ p = self b
  bld : Bld b (b + 2) p (Lib.byteCells (wordL (s.data.toList.take i))) wr
  below : Below b w wr
  size : b + 2 ≤ wr.heap.size
  cells : ∀ j, j < s.size → wr.cell? ⟨b + 1, j, none⟩ = some (.int .u8 (s.data.toList.getD j 0).toNat)

theorem Rl.next {s : ByteArray} {b : Nat} {w : World} {i : Nat} {p : Value} {wr w' : World} (h : Rl s b w i p wr) (nd : Nat) (hi : i + 1 ≤ s.size)
    (hB : Bld b (b + 2) (self b) (Lib.byteCells (wordL (s.data.toList.take (i + 1)))) w') (hk : Kp b (b + 2) (wr.drewN nd) w') : Rl s b w (i + 1) (self b) w' := by
  have hb0 : Below b wr (wr.drewN nd) := below_drewN (Below.refl b wr) nd
  refine ⟨hi, .inr rfl, hB, (h.below.trans hb0).trans hk.1, Nat.le_trans h.size hk.1.size, ?_⟩
  intro j hj
  have := h.cells j hj
  rw [← this]
  have e := hk.2 (b + 1) (by omega) (by omega)
  exact World.cell?_of_block (a := ⟨b + 1, j, none⟩) e
theorem wn63 (i : Nat) (h : i ≤ 140737488355328) : wrap64 ((i : Int) + 1) = ((i + 1 : Nat) : Int) := by unfold wrap64; omega

theorem Rl.start (s : ByteArray) (w : World) : Rl s w.heap.size w 0 (.pointer none) (Lib.bytesWorld (w.alloc (.cells #[.pointer none, .slice none 0 0] 30)) 5 s) := by
  have hsz : (w.alloc (.cells #[.pointer none, .slice none 0 0] 30)).heap.size = w.heap.size + 1 := by simp
  refine ⟨Nat.zero_le _, .inl rfl, ?_, ⟨?_, ?_, ?_, ?_, ?_⟩, ?_, ?_⟩
  · refine ⟨.slice none 0 0, ?_, ?_, by simp [Value.ownBlock]⟩
    · rw [Lib.bytesWorld_at_old _ _ _ _ (by rw [hsz]; omega)]
      exact heap_alloc_new w _
    · exact World.ownsRow_nil _ _ _ _
  · rfl
  · rfl
  · rfl
  · rw [Lib.bytesWorld_size, hsz]; omega
  · intro k hk
    rw [Lib.bytesWorld_at_old _ _ _ _ (by rw [hsz]; omega)]
    exact Below.heap_alloc _ _ _ hk
  · rw [Lib.bytesWorld_size, hsz]; omega
  · intro j hj
    have := Lib.bytesWorld_cell (w.alloc (.cells #[.pointer none, .slice none 0 0] 30)) 5 s j hj
    rw [hsz] at this
    exact this

set_option maxHeartbeats 4000000 in
set_option maxRecDepth 1000000 in
theorem route_Word.walk (s : ByteArray) (w : World) (h0 : ¬ s.toList = ([] : List UInt8)) (hs : 3 * s.size ≤ 140737488355328) :
    Calls Try.prog 4 #[.string s] w fun e w' => e = .returned (.string ⟨(wordL s.data.toList).toArray⟩) ∧ Below w.heap.size w w' := by
  have c1 : (s.toList == ([] : List UInt8)) = false := beq_eq_false_iff_ne.mpr h0
  have hcv : ∀ w, (convert 9 28 (.string s)).run Try.prog w = _ := fun w => Lib.run_convert_string_bytes w 9 28 5 s Try.underlying9 Try.underlying28 Try.underlying5
  go_enter Try.func4, Try.ntmps4
  go_wp2
  go_loopw [11] (fun v11 wr => ∃ (i : Nat) (p : Value), v11 = .int .i64 (i : Int) ∧ Rl s w.heap.size w i p wr) (fun v11 _ => s.size - (Lib.intOf v11).toNat)
  case atStart =>
    exact ⟨0, .pointer none, rfl, Rl.start s w⟩
  case round =>
    obtain ⟨i, p, rfl, hR⟩ := hrel
    have hsz := hR.size
    have hle := hR.le
    have hbl := hR.bld
    by_cases hi : i < s.size
    · have cell := hR.cells i hi
      generalize hc : s.data.toList.getD i 0 = c at cell
      have hitf := itself_plain c
      have step := wordL_step s i c hi hc
      have hlen : (Lib.byteCells (wordL (s.data.toList.take i))).length ≤ 3 * i := by
        rw [Lib.byteCells_length]
        refine Nat.le_trans (wordL_len _) ?_
        rw [List.length_take]; omega
      have hcl := c.toNat_lt
      have d1 : decide ((i : Int) < (s.size : Int)) = true := decide_eq_true (by omega)
      have p1 : ((0 : Int) ≤ (i : Int)) = True := eq_true (by omega)
      have q1 : ((i : Int) < (s.size : Int)) = True := eq_true (by omega)
      go_wp2_with (go_at_call 6; refine (route_itself.calls _ (plain c) _ hitf).mono ?_)
      rintro e W1 ⟨rfl, nd, rfl⟩
      cases hpl : plain c with
      | true =>
        have he : escW c = [c] := if_pos hpl
        go_wp2_with (go_at_call 7; refine (writeByte w.heap.size (w.heap.size + 2) p _ (c.toNat : Int) (wr.drewN nd) hbl hR.hp (by omega) (by omega) hsz).mono ?_)
        rintro e W2 ⟨rfl, hB2, hK2⟩
        go_wp2
        go_roundw
        case rel =>
          refine ⟨i + 1, self w.heap.size, congrArg (Value.int .i64) (show (i : Int) + 1 = ((i + 1 : Nat) : Int) by omega), ?_⟩
          refine hR.next nd (by omega) ?_ hK2
          rw [step, he, Lib.byteCells_append]
          exact hB2
        case measure =>
          show s.size - ((i : Int) + 1).toNat < s.size - ((i : Int)).toNat
          omega
      | false =>
        have he : escW c = [37, dig (c.toNat / 16), dig (c.toNat % 16)] := if_neg (by rw [hpl]; decide)
        go_wp2_with (go_at_call 7; refine (writeByte w.heap.size (w.heap.size + 2) p _ 37 (wr.drewN nd) hbl hR.hp (by omega) (by omega) hsz).mono ?_)
        rintro e W2 ⟨rfl, hB2, hK2⟩
        have hs2 := hK2.1.size
        have l2 : (Lib.byteCells (wordL (s.data.toList.take i)) ++ [Value.int .u8 37]).length ≤ 3 * i + 1 := by
          rw [List.length_append, List.length_singleton]; omega
        go_wp2_with (go_at_call 7; refine (writeByte w.heap.size (w.heap.size + 2) (self w.heap.size) _ _ W2 hB2 (.inr rfl) (by omega) (by omega) (Nat.le_trans hsz hs2)).mono ?_)
        rintro e W3 ⟨rfl, hB3, hK3⟩
        have hs3 := hK3.1.size
        rw [dig_at] at hB3
        have l3 : (Lib.byteCells (wordL (s.data.toList.take i)) ++ [Value.int .u8 37] ++ [Value.int .u8 (dig (c.toNat / 16)).toNat]).length ≤ 3 * i + 2 := by
          rw [List.length_append, List.length_singleton]; omega
        go_wp2_with (go_at_call 7; refine (writeByte w.heap.size (w.heap.size + 2) (self w.heap.size) _ _ W3 hB3 (.inr rfl) (by omega) (by omega) (Nat.le_trans hsz (Nat.le_trans hs2 hs3))).mono ?_)
        rintro e W4 ⟨rfl, hB4, hK4⟩
        rw [dig_at] at hB4
        go_wp2
        go_roundw
        case rel =>
          refine ⟨i + 1, self w.heap.size, congrArg (Value.int .i64) (show (i : Int) + 1 = ((i + 1 : Nat) : Int) by omega), ?_⟩
          refine hR.next nd (by omega) ?_ ((hK2.trans hK3).trans hK4)
          rw [step, he, Lib.byteCells_append]
          have e3 : Lib.byteCells [37, dig (c.toNat / 16), dig (c.toNat % 16)] = [Value.int .u8 37] ++ [Value.int .u8 (dig (c.toNat / 16)).toNat] ++ [Value.int .u8 (dig (c.toNat % 16)).toNat] := rfl
          rw [e3, ← List.append_assoc, ← List.append_assoc]
          exact hB4
        case measure =>
          show s.size - ((i : Int) + 1).toNat < s.size - ((i : Int)).toNat
          omega
    · have d1 : decide ((i : Int) < (s.size : Int)) = false := decide_eq_false (by omega)
      have hie : i = s.size := by omega
      subst hie
      have htk : s.data.toList.take s.size = s.data.toList := List.take_of_length_le (Nat.le_refl _)
      rw [htk] at hbl
      go_wp2_with (go_at_call 8; refine (Try.Builder_String_any w.heap.size w.heap.size (wordL s.data.toList) wr (hbl.lib hR.hp (by omega)) (by omega)).mono ?_)
      rintro e W1 ⟨rfl, b1⟩
      go_wp2
      go_ret
      exact ⟨rfl, hR.below.trans b1⟩

set_option maxHeartbeats 1000000 in
theorem route_Word.calls (k : Nat) (a0 : ByteArray) (r : ByteArray) (w : World) (h : route_Word.f k a0 = some r) :
    Calls Try.prog 4 #[.string a0] w fun e w' => e = .returned (.string r) ∧ Below w.heap.size w w' := by
  unfold route_Word.f at h
  by_cases h0 : a0.toList = ([] : List UInt8)
  · rw [if_pos h0] at h
    obtain rfl := Option.some.inj h
    have c1 : (a0.toList == ([] : List UInt8)) = true := beq_iff_eq.mpr h0
    go_enter Try.func4, Try.ntmps4
    go_wp2
    go_ret
    exact ⟨rfl, Below.refl _ w⟩
  · rw [if_neg h0] at h
    by_cases h1 : 3 * a0.size ≤ 140737488355328
    · rw [if_pos h1] at h
      obtain rfl := Option.some.inj h
      exact route_Word.walk a0 w h0 h1
    · rw [if_neg h1] at h
      exact absurd h (by simp)
end Go.Proofs.Ytmcdeglocjhggaa.G
