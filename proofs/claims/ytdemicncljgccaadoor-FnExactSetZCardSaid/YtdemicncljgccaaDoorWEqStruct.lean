/- Words of the print (print.sh), those that this seat's texts use: cut out by a program of this work (prune.py). No condition. -/
import Derived.Test.YtdemicncljgccaaDoorWWords
import Derived.Laws.StructEq
namespace Go.Proofs.YtdemicncljgccaaDoorW.PrintWords
open Go.RowKit
end Go.Proofs.YtdemicncljgccaaDoorW.PrintWords
