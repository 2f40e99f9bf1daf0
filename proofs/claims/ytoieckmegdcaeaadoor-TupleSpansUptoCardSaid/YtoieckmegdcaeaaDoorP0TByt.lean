-- Packed by a program of this session (pack.py) from texts of this claim.
import Derived.Test.YtoieckmegdcaeaaDoorP8
import Derived.Lib.Strings
import Derived.Laws.BitsLemmas
section
namespace Go.Proofs.YtoieckmegdcaeaaDoor.T
open Go.RowKit Go.Proofs.YtoieckmegdcaeaaDoorW.PrintWords Go.Proofs.YtoieckmegdcaeaaDoorW.PrintLast Go.Proofs.YtoieckmegdcaeaaDoorW.PrintMore

def B (l : List UInt8) : ByteArray := ⟨l.toArray⟩
theorem B_data (s : ByteArray) : B s.data.toList = s := rfl
theorem data_B (l : List UInt8) : (B l).data.toList = l := rfl
theorem B_size (l : List UInt8) : (B l).size = l.length := by simp [B, ByteArray.size]
theorem B_toList (l : List UInt8) : (B l).toList = l := by rw [Lib.toList_data]; rfl
theorem B_append (a b : List UInt8) : B a ++ B b = B (a ++ b) := by
  apply ByteArray.ext; simp [B, ByteArray.data_append]
theorem B_extract (l : List UInt8) (i j : Nat) : (B l).extract i j = B ((l.take j).drop i) := by
  apply ByteArray.ext
  rw [ByteArray.data_extract]
  simp [B, List.extract_toArray, List.drop_take]
theorem B_tail (l : List UInt8) (i : Nat) : (B l).extract i (B l).size = B (l.drop i) := by
  rw [B_extract, B_size, List.take_length]
theorem B_nil : (⟨#[]⟩ : ByteArray) = B [] := rfl
theorem B_inj {a b : List UInt8} (h : B a = B b) : a = b := by
  have := congrArg (fun s : ByteArray => s.data.toList) h
  simpa [data_B] using this
theorem bt_B (l : List UInt8) (i : Int) : bt (B l) i = ((l.getD i.toNat 0).toNat : Int) := by
  unfold bt
  split
  · rename_i h
    rw [B_size] at h
    have : ((B l)[i.toNat]'(by rw [B_size]; exact h)) = l[i.toNat] := by
      show (B l).data[i.toNat] = _
      simp [B]
    rw [this]
    simp [List.getD_eq_getElem?_getD, h]
  · rename_i h
    rw [B_size] at h
    simp [List.getD_eq_getElem?_getD, List.getElem?_eq_none (by omega : l.length ≤ i.toNat)]
theorem bt_at_B {l : List UInt8} {i : Nat} {c : UInt8} {r : List UInt8} (h : l.drop i = c :: r) : bt (B l) (i : Int) = (c.toNat : Int) := by
  rw [bt_B]
  have h0 : l[i]? = some c := by
    have := congrArg (fun q : List UInt8 => q[0]?) h
    simpa using this
  simp [List.getD_eq_getElem?_getD, h0]
theorem drop_cons_lt {α : Type} {l : List α} {i : Nat} {c : α} {r : List α} (h : l.drop i = c :: r) : i < l.length ∧ l.drop (i + 1) = r ∧ r.length + i + 1 = l.length := by
  have h1 : i < l.length := by
    rcases Nat.lt_or_ge i l.length with h' | h'
    · exact h'
    · rw [List.drop_eq_nil_of_le h'] at h; exact absurd h (by simp)
  have h2 : l.drop (i + 1) = r := by
    have e : l.drop (i + 1) = (l.drop i).drop 1 := by rw [List.drop_drop]
    rw [e, h]; rfl
  refine ⟨h1, h2, ?_⟩
  have := congrArg List.length h
  simp at this
  omega
def nums8 (l : List UInt8) : List Int := l.map fun c => (c.toNat : Int)
theorem nums8_append (a b : List UInt8) : nums8 (a ++ b) = nums8 a ++ nums8 b := by simp [nums8]
theorem nums8_length (a : List UInt8) : (nums8 a).length = a.length := by simp [nums8]
theorem nums8_zero : nums8 [0] = [0] := by simp [nums8]
theorem nums8_one (c : UInt8) : nums8 [c] = [(c.toNat : Int)] := by simp [nums8]
theorem strOf_nums8 (l : List UInt8) : strOfNums (nums8 l) = B l := by
  unfold strOfNums nums8 B
  congr 1
  rw [List.map_map]
  congr 1
  conv => rhs; rw [← List.map_id l]
  apply List.map_congr_left
  intro c _
  simp
theorem u8_pos {c : UInt8} (h : c ≠ 0) : ¬ (c.toNat : Int) = 0 := by
  intro he
  apply h
  apply UInt8.toNat_inj.1
  have e0 : (0 : UInt8).toNat = 0 := rfl
  omega
theorem u8_ff {c : UInt8} (h : c ≠ 255) : ¬ (c.toNat : Int) = 255 := by
  intro he
  apply h
  apply UInt8.toNat_inj.1
  have e0 : (255 : UInt8).toNat = 255 := rfl
  omega
theorem w64 {n : Int} (h1 : -9223372036854775808 ≤ n) (h2 : n ≤ 9223372036854775807) : wrap64 n = n := by unfold wrap64; omega
theorem wn (i : Nat) (h : i ≤ 1073741824) : wrap64 ((i : Int) + 1) = ((i + 1 : Nat) : Int) := by rw [w64] <;> omega
theorem wu64 {n : Int} (h1 : 0 ≤ n) (h2 : n < 18446744073709551616) : IntKind.u64.wrap n = n := by
  have : IntKind.u64.wrap n = n % 18446744073709551616 := by simp [IntKind.wrap, IntKind.bits, IntKind.signed]
  rw [this]; omega
theorem wu64_eq (n : Int) : IntKind.u64.wrap n = n % 18446744073709551616 := by simp [IntKind.wrap, IntKind.bits, IntKind.signed]
theorem xor255 (c : UInt8) : Go.bits .xor .u8 IntKind.u8.max (c.toNat : Int) = 255 - (c.toNat : Int) := by
  have hall : ∀ n : Fin 256, Go.bits .xor .u8 IntKind.u8.max (n.val : Int) = 255 - (n.val : Int) := by decide +kernel
  exact hall ⟨c.toNat, c.toNat_lt⟩
theorem wraps_u64 : ∀ n : Int, 0 ≤ n → n < 2 ^ 64 → IntKind.u64.wrap n = n := fun n h0 h1 => wu64 h0 (by have e : (2 : Int) ^ 64 = 18446744073709551616 := by decide
                                                                                                         omega)
theorem or256 {m c : Int} (h0 : 0 ≤ m) (h1 : m < 72057594037927936) (h2 : 0 ≤ c) (h3 : c < 256) : Go.bits .or .u64 (m * 256) c = m * 256 + c := by
  have e64 : (2 : Int) ^ 64 = 18446744073709551616 := by decide
  have e8 : (2 : Int) ^ 8 = 256 := by decide
  exact bits_join .u64 64 (by decide) wraps_u64 8 (m * 256) c (by omega) (by rw [e8]; omega) (by omega) h2 (by omega) (by omega)
end Go.Proofs.YtoieckmegdcaeaaDoor.T
end
