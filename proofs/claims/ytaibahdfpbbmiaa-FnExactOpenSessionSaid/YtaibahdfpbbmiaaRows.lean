/-
  No cell of these rows narrows 'for every input' (looked for: loops, veiled, ifaces, maps, wideKeys, modest, calm, conditions, laid).
  DERIVED. THE GIVEN ROWS OF THIS SEAT. 7 by the template 'for every input the law returns true; each argument reads behind the call as it read before'; 0 by the template 'total and deterministic' (their statements: YtaibahdfpbbmiaaTotals.lean).
  GIVEN WITH THE SEED: the statements are not yours to turn. If you find one false, say at which input.
  Laid BY PROGRAM, IN A SANDBOX (cutbox-rows.mjs): the forced cells as the released guide's own fill.sh prints them over the translation cde75932daec453f… (all of the seat's roots in one cut). By AI agents, Wed Nov 11 2026. No macro, syntax, notation, axiom, sorry.
-/
import Derived.Test.YtaibahdfpbbmiaaChecked
import GoSem.Claim
import GoSem.ClaimJoined
import GoSem.ClaimMapViews
import Derived.JoinedTies
import Derived.KernelRfl
namespace Go.Proofs.Ytaibahdfpbbmiaa
/- THE CELL 'sum', in the pinned program and in every row, IS THE sha256 OF THE DUMP (.gsa) THAT YtaibahdfpbbmiaaProg.lean LOADS. Nothing in Lean hashes anything: it is a label: what it is worth is what the hold of that sum in a sandbox is worth. -/
noncomputable def Try.pinned : Pinned := { name := "ytaibahdfpbbmiaa", sum := "cde75932daec453f7314cfc816fd809e600f4c31ba9e57a70ebf32e66fcac488", checked := Try.checked }
namespace Rows
def none {H : Type} : Left H := { results := [], args := [] }

/-- 'laws.FnSums': WHATEVER THE INPUT: true; the input reads as it did. -/
def fnSumsSpec : ChangeSpec := { name := "fnSums", fn := fun _ => fun
  | [d] => { results := [.lit (.bool true)], args := [d] }
  | _ => none }
def fnSumsRow : OpenClaim := { program := "ytaibahdfpbbmiaa", sum := "cde75932daec453f7314cfc816fd809e600f4c31ba9e57a70ebf32e66fcac488", func := "loop.example/g00369/laws.FnSums", spec := "fnSums", unfollowed := true, recurses := true, apart := false }
def FnSumsSaid : Prop := fnSumsRow.holds Try.pinned (OpenSpec.ofChange fnSumsSpec)

/-- ITS FALSE NEIGHBOUR: 'it returns false'. Refute it at one input. -/
def fnSumsWrong : ChangeSpec := { name := "fnSums", fn := fun _ => fun
  | [d] => { results := [.lit (.bool false)], args := [d] }
  | _ => none }
def FnSumsWrongFalsely : Prop := fnSumsRow.holds Try.pinned (OpenSpec.ofChange fnSumsWrong)

/-- 'laws.FnExactNewTree': WHATEVER THE INPUT: true; the input reads as it did. -/
def fnExactNewTreeSpec : ChangeSpec := { name := "fnExactNewTree", fn := fun _ => fun
  | [d] => { results := [.lit (.bool true)], args := [d] }
  | _ => none }
def fnExactNewTreeRow : OpenClaim := { program := "ytaibahdfpbbmiaa", sum := "cde75932daec453f7314cfc816fd809e600f4c31ba9e57a70ebf32e66fcac488", func := "loop.example/g00369/laws.FnExactNewTree", spec := "fnExactNewTree", apart := false }
def FnExactNewTreeSaid : Prop := fnExactNewTreeRow.holds Try.pinned (OpenSpec.ofChange fnExactNewTreeSpec)

/-- ITS FALSE NEIGHBOUR: 'it returns false'. Refute it at one input. -/
def fnExactNewTreeWrong : ChangeSpec := { name := "fnExactNewTree", fn := fun _ => fun
  | [d] => { results := [.lit (.bool false)], args := [d] }
  | _ => none }
def FnExactNewTreeWrongFalsely : Prop := fnExactNewTreeRow.holds Try.pinned (OpenSpec.ofChange fnExactNewTreeWrong)

/-- 'laws.FnExactLiveSession': WHATEVER THE INPUT: true; the input reads as it did. -/
def fnExactLiveSessionSpec : ChangeSpec := { name := "fnExactLiveSession", fn := fun _ => fun
  | [d1, d2, d3] => { results := [.lit (.bool true)], args := [d1, d2, d3] }
  | _ => none }
def fnExactLiveSessionRow : OpenClaim := { program := "ytaibahdfpbbmiaa", sum := "cde75932daec453f7314cfc816fd809e600f4c31ba9e57a70ebf32e66fcac488", func := "loop.example/g00369/laws.FnExactLiveSession", spec := "fnExactLiveSession", unfollowed := true, recurses := true, apart := false }
def FnExactLiveSessionSaid : Prop := fnExactLiveSessionRow.holds Try.pinned (OpenSpec.ofChange fnExactLiveSessionSpec)

/-- ITS FALSE NEIGHBOUR: 'it returns false'. Refute it at one input. -/
def fnExactLiveSessionWrong : ChangeSpec := { name := "fnExactLiveSession", fn := fun _ => fun
  | [d1, d2, d3] => { results := [.lit (.bool false)], args := [d1, d2, d3] }
  | _ => none }
def FnExactLiveSessionWrongFalsely : Prop := fnExactLiveSessionRow.holds Try.pinned (OpenSpec.ofChange fnExactLiveSessionWrong)

/-- 'laws.FnExactSplitSessions': WHATEVER THE INPUT: true; the input reads as it did. -/
def fnExactSplitSessionsSpec : ChangeSpec := { name := "fnExactSplitSessions", fn := fun _ => fun
  | [d1, d2] => { results := [.lit (.bool true)], args := [d1, d2] }
  | _ => none }
def fnExactSplitSessionsRow : OpenClaim := { program := "ytaibahdfpbbmiaa", sum := "cde75932daec453f7314cfc816fd809e600f4c31ba9e57a70ebf32e66fcac488", func := "loop.example/g00369/laws.FnExactSplitSessions", spec := "fnExactSplitSessions", apart := false }
def FnExactSplitSessionsSaid : Prop := fnExactSplitSessionsRow.holds Try.pinned (OpenSpec.ofChange fnExactSplitSessionsSpec)

/-- ITS FALSE NEIGHBOUR: 'it returns false'. Refute it at one input. -/
def fnExactSplitSessionsWrong : ChangeSpec := { name := "fnExactSplitSessions", fn := fun _ => fun
  | [d1, d2] => { results := [.lit (.bool false)], args := [d1, d2] }
  | _ => none }
def FnExactSplitSessionsWrongFalsely : Prop := fnExactSplitSessionsRow.holds Try.pinned (OpenSpec.ofChange fnExactSplitSessionsWrong)

/-- 'laws.FnExactTouchSession': WHATEVER THE INPUT: true; the input reads as it did. -/
def fnExactTouchSessionSpec : ChangeSpec := { name := "fnExactTouchSession", fn := fun _ => fun
  | [d1, d2, d3] => { results := [.lit (.bool true)], args := [d1, d2, d3] }
  | _ => none }
def fnExactTouchSessionRow : OpenClaim := { program := "ytaibahdfpbbmiaa", sum := "cde75932daec453f7314cfc816fd809e600f4c31ba9e57a70ebf32e66fcac488", func := "loop.example/g00369/laws.FnExactTouchSession", spec := "fnExactTouchSession", unfollowed := true, recurses := true, apart := false }
def FnExactTouchSessionSaid : Prop := fnExactTouchSessionRow.holds Try.pinned (OpenSpec.ofChange fnExactTouchSessionSpec)

/-- ITS FALSE NEIGHBOUR: 'it returns false'. Refute it at one input. -/
def fnExactTouchSessionWrong : ChangeSpec := { name := "fnExactTouchSession", fn := fun _ => fun
  | [d1, d2, d3] => { results := [.lit (.bool false)], args := [d1, d2, d3] }
  | _ => none }
def FnExactTouchSessionWrongFalsely : Prop := fnExactTouchSessionRow.holds Try.pinned (OpenSpec.ofChange fnExactTouchSessionWrong)

/-- 'laws.FnExactOpenSession': WHATEVER THE INPUT: true; the input reads as it did. -/
def fnExactOpenSessionSpec : ChangeSpec := { name := "fnExactOpenSession", fn := fun _ => fun
  | [d1, d2, d3] => { results := [.lit (.bool true)], args := [d1, d2, d3] }
  | _ => none }
def fnExactOpenSessionRow : OpenClaim := { program := "ytaibahdfpbbmiaa", sum := "cde75932daec453f7314cfc816fd809e600f4c31ba9e57a70ebf32e66fcac488", func := "loop.example/g00369/laws.FnExactOpenSession", spec := "fnExactOpenSession", inPlace := ["slices.overlaps[loop.example/g00369/impl.Session]"], unfollowed := true, recurses := true, apart := false }
def FnExactOpenSessionSaid : Prop := fnExactOpenSessionRow.holds Try.pinned (OpenSpec.ofChange fnExactOpenSessionSpec)

/-- ITS FALSE NEIGHBOUR: 'it returns false'. Refute it at one input. -/
def fnExactOpenSessionWrong : ChangeSpec := { name := "fnExactOpenSession", fn := fun _ => fun
  | [d1, d2, d3] => { results := [.lit (.bool false)], args := [d1, d2, d3] }
  | _ => none }
def FnExactOpenSessionWrongFalsely : Prop := fnExactOpenSessionRow.holds Try.pinned (OpenSpec.ofChange fnExactOpenSessionWrong)

/-- 'laws.FnSessions': WHATEVER THE INPUT: true; the input reads as it did. -/
def fnSessionsSpec : ChangeSpec := { name := "fnSessions", fn := fun _ => fun
  | [d] => { results := [.lit (.bool true)], args := [d] }
  | _ => none }
def fnSessionsRow : OpenClaim := { program := "ytaibahdfpbbmiaa", sum := "cde75932daec453f7314cfc816fd809e600f4c31ba9e57a70ebf32e66fcac488", func := "loop.example/g00369/laws.FnSessions", spec := "fnSessions", inPlace := ["slices.overlaps[loop.example/g00369/impl.Session]"], unfollowed := true, recurses := true, apart := false }
def FnSessionsSaid : Prop := fnSessionsRow.holds Try.pinned (OpenSpec.ofChange fnSessionsSpec)

/-- ITS FALSE NEIGHBOUR: 'it returns false'. Refute it at one input. -/
def fnSessionsWrong : ChangeSpec := { name := "fnSessions", fn := fun _ => fun
  | [d] => { results := [.lit (.bool false)], args := [d] }
  | _ => none }
def FnSessionsWrongFalsely : Prop := fnSessionsRow.holds Try.pinned (OpenSpec.ofChange fnSessionsWrong)

/- THE SECOND FORM. 'bulk': how many values and letters a reading holds, each counted each time it is reached (what is shared counts as often as it is met; a slice's spare places count too). A statement '..UptoSaid' is the law's where the arguments, and the package variables that the reading takes, are together of bulk at most 1048576: NARROWER than '..Said'. Prove '..Said' where nothing that the law and all that it calls make is longer than what came in: it says more and counts as full. Else prove '..UptoSaid'. A law counts once. -/
mutual
def uptoBulk {H : Type} : DataW H → Nat
  | .lit (.string bytes) => bytes.length + 1
  | .lit _ => 1
  | .nil => 1
  | .ptr d => uptoBulk d + 1
  | .slice elems spare => uptoBulkAll elems + uptoBulkAll spare + 1
  | .agg parts => uptoBulkAll parts + 1
  | .iface _ d => uptoBulk d + 1
  | .map entries => uptoBulkEntries entries + 1
  | .held _ => 1
def uptoBulkAll {H : Type} : List (DataW H) → Nat
  | [] => 0
  | d :: r => uptoBulk d + uptoBulkAll r
def uptoBulkEntries {H : Type} : List (Lit × DataW H) → Nat
  | [] => 0
  | x :: r => uptoBulkEntry x + uptoBulkEntries r
def uptoBulkEntry {H : Type} : Lit × DataW H → Nat
  | (.string bytes, d) => bytes.length + uptoBulk d + 1
  | (_, d) => uptoBulk d + 1
 end
def uptoSmall : (H : Type) → List (DataW H) → Bool := fun _ ds => decide (uptoBulkAll ds ≤ 1048576)
def OpenSpec.upto (s : _root_.Go.ChangeSpec) : _root_.Go.OpenSpec := { _root_.Go.OpenSpec.ofChange s with cond := some uptoSmall }

/-- 'laws.FnSums', WHERE WHAT IT READS IS OF BULK AT MOST 1048576: true; the input reads as it did. -/
def fnSumsUptoRow : OpenClaim := { program := "ytaibahdfpbbmiaa", sum := "cde75932daec453f7314cfc816fd809e600f4c31ba9e57a70ebf32e66fcac488", func := "loop.example/g00369/laws.FnSums", spec := "fnSums", unfollowed := true, recurses := true, apart := false, narrowed := true }
def FnSumsUptoSaid : Prop := fnSumsUptoRow.holds Try.pinned (OpenSpec.upto fnSumsSpec)

/-- 'laws.FnExactNewTree', WHERE WHAT IT READS IS OF BULK AT MOST 1048576: true; the input reads as it did. -/
def fnExactNewTreeUptoRow : OpenClaim := { program := "ytaibahdfpbbmiaa", sum := "cde75932daec453f7314cfc816fd809e600f4c31ba9e57a70ebf32e66fcac488", func := "loop.example/g00369/laws.FnExactNewTree", spec := "fnExactNewTree", apart := false, narrowed := true }
def FnExactNewTreeUptoSaid : Prop := fnExactNewTreeUptoRow.holds Try.pinned (OpenSpec.upto fnExactNewTreeSpec)

/-- 'laws.FnExactLiveSession', WHERE WHAT IT READS IS OF BULK AT MOST 1048576: true; the input reads as it did. -/
def fnExactLiveSessionUptoRow : OpenClaim := { program := "ytaibahdfpbbmiaa", sum := "cde75932daec453f7314cfc816fd809e600f4c31ba9e57a70ebf32e66fcac488", func := "loop.example/g00369/laws.FnExactLiveSession", spec := "fnExactLiveSession", unfollowed := true, recurses := true, apart := false, narrowed := true }
def FnExactLiveSessionUptoSaid : Prop := fnExactLiveSessionUptoRow.holds Try.pinned (OpenSpec.upto fnExactLiveSessionSpec)

/-- 'laws.FnExactSplitSessions', WHERE WHAT IT READS IS OF BULK AT MOST 1048576: true; the input reads as it did. -/
def fnExactSplitSessionsUptoRow : OpenClaim := { program := "ytaibahdfpbbmiaa", sum := "cde75932daec453f7314cfc816fd809e600f4c31ba9e57a70ebf32e66fcac488", func := "loop.example/g00369/laws.FnExactSplitSessions", spec := "fnExactSplitSessions", apart := false, narrowed := true }
def FnExactSplitSessionsUptoSaid : Prop := fnExactSplitSessionsUptoRow.holds Try.pinned (OpenSpec.upto fnExactSplitSessionsSpec)

/-- 'laws.FnExactTouchSession', WHERE WHAT IT READS IS OF BULK AT MOST 1048576: true; the input reads as it did. -/
def fnExactTouchSessionUptoRow : OpenClaim := { program := "ytaibahdfpbbmiaa", sum := "cde75932daec453f7314cfc816fd809e600f4c31ba9e57a70ebf32e66fcac488", func := "loop.example/g00369/laws.FnExactTouchSession", spec := "fnExactTouchSession", unfollowed := true, recurses := true, apart := false, narrowed := true }
def FnExactTouchSessionUptoSaid : Prop := fnExactTouchSessionUptoRow.holds Try.pinned (OpenSpec.upto fnExactTouchSessionSpec)

/-- 'laws.FnExactOpenSession', WHERE WHAT IT READS IS OF BULK AT MOST 1048576: true; the input reads as it did. -/
def fnExactOpenSessionUptoRow : OpenClaim := { program := "ytaibahdfpbbmiaa", sum := "cde75932daec453f7314cfc816fd809e600f4c31ba9e57a70ebf32e66fcac488", func := "loop.example/g00369/laws.FnExactOpenSession", spec := "fnExactOpenSession", inPlace := ["slices.overlaps[loop.example/g00369/impl.Session]"], unfollowed := true, recurses := true, apart := false, narrowed := true }
def FnExactOpenSessionUptoSaid : Prop := fnExactOpenSessionUptoRow.holds Try.pinned (OpenSpec.upto fnExactOpenSessionSpec)

/-- 'laws.FnSessions', WHERE WHAT IT READS IS OF BULK AT MOST 1048576: true; the input reads as it did. -/
def fnSessionsUptoRow : OpenClaim := { program := "ytaibahdfpbbmiaa", sum := "cde75932daec453f7314cfc816fd809e600f4c31ba9e57a70ebf32e66fcac488", func := "loop.example/g00369/laws.FnSessions", spec := "fnSessions", inPlace := ["slices.overlaps[loop.example/g00369/impl.Session]"], unfollowed := true, recurses := true, apart := false, narrowed := true }
def FnSessionsUptoSaid : Prop := fnSessionsUptoRow.holds Try.pinned (OpenSpec.upto fnSessionsSpec)

end Rows
end Go.Proofs.Ytaibahdfpbbmiaa
