/- Words that the contracts of this claim use (laid by the kit's print; those alone that are come to). -/
import Derived.Test.YtjepbimgddgijaaWTab
namespace Go.Proofs.YtjepbimgddgijaaW.PrintLast
def up (b : Nat → Bool) (i : Nat) : Nat → Bool := fun j => if j = i then true else b j
end Go.Proofs.YtjepbimgddgijaaW.PrintLast
