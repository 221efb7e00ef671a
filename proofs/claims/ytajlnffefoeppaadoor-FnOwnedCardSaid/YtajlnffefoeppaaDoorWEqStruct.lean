/- Words of the print (print.sh), those that this seat's texts use: cut out by a program of this work (prune.py). No condition. -/
import Derived.Test.YtajlnffefoeppaaDoorWWords
import Derived.Laws.StructEq
namespace Go.Proofs.YtajlnffefoeppaaDoorW.PrintWords
open Go.RowKit
end Go.Proofs.YtajlnffefoeppaaDoorW.PrintWords
