/-
  A literal array of Bools, by its number of places and its bits: for the printed walks of regions.
-/
import Derived.WalkKit
namespace Go.Proofs.YtmcdeglocjhggaaDoor.G
def mkL : Nat → Nat → List Bool
  | 0, _ => []
  | n + 1, b => (b % 2 == 1) :: mkL n (b / 2)
def Mk (n b : Nat) : Array Bool := (mkL n b).toArray
end Go.Proofs.YtmcdeglocjhggaaDoor.G
