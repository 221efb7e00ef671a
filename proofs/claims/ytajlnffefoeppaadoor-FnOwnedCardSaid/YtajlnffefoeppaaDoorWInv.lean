/- Words of the print (print.sh), those that this seat's texts use: cut out by a program of this work (prune.py). No condition. -/
import Derived.Test.YtajlnffefoeppaaDoorWTab
namespace Go.Proofs.YtajlnffefoeppaaDoorW.PrintLast
/-- Number i is listed too. -/
def up (b : Nat → Bool) (i : Nat) : Nat → Bool := fun j => if j = i then true else b j
end Go.Proofs.YtajlnffefoeppaaDoorW.PrintLast
