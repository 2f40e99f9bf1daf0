-- Packed by a program of this session (pack.py) from texts of this claim.
import Derived.Test.YtoieckmegdcaeaaDoorP0TDec2
section
namespace Go.Proofs.YtoieckmegdcaeaaDoor.T
open Go.RowKit Go.Proofs.YtoieckmegdcaeaaDoorW.PrintWords Go.Proofs.YtoieckmegdcaeaaDoorW.PrintLast Go.Proofs.YtoieckmegdcaeaaDoorW.PrintMore
open Go.Proofs.YtoieckmegdcaeaaDoor.G
set_option linter.unusedVariables false

theorem inRange0 (k : Int) (f : Bool) (t : List UInt8) : inRange ⟨k, f, 0, t⟩ := ⟨show (-9223372036854775808 : Int) ≤ 0 by omega, show (0 : Int) ≤ 9223372036854775807 by omega⟩
/-! ### whole numbers -/
def decRes (b : List UInt8) : List S36 × Int := match dec (b.length + 1) b with | some ts => (ts.map ofV, 0) | none => ([], 250)
theorem decode_says (b : List UInt8) (hb : b.length ≤ 4194304) : Ev (fun k => tuple_Decode.f k (B b)) (decRes b) := by
  have h := decode_ev (b.length + 1) b [] (by omega) (by rw [List.length_nil]; omega)
  unfold decRes
  cases hd : dec (b.length + 1) b with
  | none => rw [hd] at h; exact h
  | some ts => rw [hd] at h; exact h
theorem decRes_length (b : List UInt8) : (decRes b).1.length ≤ b.length := by
  unfold decRes
  cases hd : dec (b.length + 1) b with
  | none => exact Nat.zero_le _
  | some ts =>
    have hi := dec_inv _ _ _ hd
    show (ts.map ofV).length ≤ _
    rw [List.length_map]
    have : ∀ us : List V, us.length ≤ (enc us).length := by
      intro us
      induction us with
      | nil => exact Nat.zero_le _
      | cons v us ih =>
        rw [enc_cons, List.length_append, List.length_cons]
        have h2 : 1 ≤ (code v).length := by
          cases hcode : code v with
          | nil => exact absurd hcode (code_ne _)
          | cons x y => rw [List.length_cons]; omega
        omega
    have h := this ts
    rw [← hi.1] at h
    exact h
/-- .. and what they answer is a list of our values. -/
theorem decRes_form (b : List UInt8) : ∃ ts : List V, (decRes b).1 = ts.map ofV := by
  unfold decRes
  cases dec (b.length + 1) b with
  | none => exact ⟨[], rfl⟩
  | some ts => exact ⟨ts, rfl⟩
end Go.Proofs.YtoieckmegdcaeaaDoor.T
end
