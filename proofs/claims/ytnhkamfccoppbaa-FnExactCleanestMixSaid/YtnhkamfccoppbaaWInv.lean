-- Cut to what this seat's claims want (wip/press/pack.py) of the words that print.sh lays.
import Derived.Test.YtnhkamfccoppbaaWTab
namespace Go.Proofs.YtnhkamfccoppbaaW.PrintLast
def up (b : Nat → Bool) (i : Nat) : Nat → Bool := fun j => if j = i then true else b j
end Go.Proofs.YtnhkamfccoppbaaW.PrintLast
