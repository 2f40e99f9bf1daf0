/-
  strings.IndexByte: function 9, over the shelf's contract.
-/
import Derived.Test.YtmcdeglocjhggaaG0
import Derived.Test.YtmcdeglocjhggaaShelf
namespace Go.Proofs.Ytmcdeglocjhggaa.G
open Go.RowKit Go.Proofs.YtmcdeglocjhggaaW.PrintWords Go.Proofs.YtmcdeglocjhggaaW.PrintLast Go.Proofs.YtmcdeglocjhggaaW.PrintMore
set_option linter.unusedVariables false

def strings_IndexByte.f (a0 : ByteArray) (a1 : Int) : Option Int := some (Lib.indexByte a0.data.toList a1.toNat.toUInt8)
theorem strings_IndexByte.calls (a0 : ByteArray) (a1 : Int) (r : Int) (w : World) (h : strings_IndexByte.f a0 a1 = some r) :
    Calls Try.prog 9 #[.string a0, .int .u8 a1] w fun e w' => e = .returned (.int .i64 r) ∧ Drawn0 w w' := by
  obtain rfl := Option.some.inj h
  refine (Try.strings_IndexByte a0 a1 w).mono ?_
  rintro e w' ⟨rfl, rfl⟩
  exact ⟨rfl, Drawn0.refl _⟩
end Go.Proofs.Ytmcdeglocjhggaa.G
