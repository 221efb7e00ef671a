/- Words of the print (print.sh), those that this seat's texts use: cut out by a program of this work (prune.py). No condition. -/
import Derived.Test.YtegggpipggniaaaDoorWWords
import Derived.Test.YtegggpipggniaaaDoorWLast
namespace Go.Proofs.YtegggpipggniaaaDoorW.PrintWords
open Go.RowKit
namespace Kd
end Kd
end Go.Proofs.YtegggpipggniaaaDoorW.PrintWords
