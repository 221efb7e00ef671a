/- Words of the print (print.sh), those that this seat's texts use: cut out by a program of this work (prune.py). No condition. -/
import Derived.Test.YtegggpipggniaaaDoorWTab
namespace Go.Proofs.YtegggpipggniaaaDoorW.PrintLast
end Go.Proofs.YtegggpipggniaaaDoorW.PrintLast
