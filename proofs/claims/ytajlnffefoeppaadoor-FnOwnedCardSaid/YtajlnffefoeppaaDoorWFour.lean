/- Words of the print (print.sh), those that this seat's texts use: cut out by a program of this work (prune.py). No condition. -/
import Derived.Test.YtajlnffefoeppaaDoorWTab
namespace Go.Proofs.YtajlnffefoeppaaDoorW.PrintLast
end Go.Proofs.YtajlnffefoeppaaDoorW.PrintLast
