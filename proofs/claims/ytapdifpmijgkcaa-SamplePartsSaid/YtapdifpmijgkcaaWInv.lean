/- Words that the contracts of this claim use (laid by the kit's print; those alone that are come to). -/
import Derived.Test.YtapdifpmijgkcaaWTab
namespace Go.Proofs.YtapdifpmijgkcaaW.PrintLast
def up (b : Nat → Bool) (i : Nat) : Nat → Bool := fun j => if j = i then true else b j
end Go.Proofs.YtapdifpmijgkcaaW.PrintLast
