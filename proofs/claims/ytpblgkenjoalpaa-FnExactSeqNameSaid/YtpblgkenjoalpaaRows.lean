/-
  No cell of these rows narrows 'for every input' (looked for: loops, veiled, ifaces, maps, wideKeys, modest, calm, conditions, laid).
  DERIVED. THE GIVEN ROWS OF THIS SEAT. 5 by the template 'for every input the law returns true; each argument reads behind the call as it read before'; 0 by the template 'total and deterministic' (their statements: YtpblgkenjoalpaaTotals.lean).
  GIVEN WITH THE SEED: the statements are not yours to turn. If you find one false, say at which input.
  Laid BY PROGRAM, IN A SANDBOX (cutbox-rows.mjs): the forced cells as the released guide's own fill.sh prints them over the translation 5e59f32a9fe3a57f… (all of the seat's roots in one cut). By AI agents, Wed Nov 11 2026. No macro, syntax, notation, axiom, sorry.
-/
import Derived.Test.YtpblgkenjoalpaaChecked
import GoSem.Claim
import GoSem.ClaimJoined
import GoSem.ClaimMapViews
import Derived.JoinedTies
import Derived.KernelRfl
namespace Go.Proofs.Ytpblgkenjoalpaa
/- THE CELL 'sum', in the pinned program and in every row, IS THE sha256 OF THE DUMP (.gsa) THAT YtpblgkenjoalpaaProg.lean LOADS. Nothing in Lean hashes anything: it is a label: what it is worth is what the hold of that sum in a sandbox is worth. -/
noncomputable def Try.pinned : Pinned := { name := "ytpblgkenjoalpaa", sum := "5e59f32a9fe3a57f9ec15dbfbd00b6c6dfd3926755c96d7142a77c41cf31d4e4", checked := Try.checked }
namespace Rows
def none {H : Type} : Left H := { results := [], args := [] }

/-- 'laws.FnExactConstants': WHATEVER THE INPUT: true; the input reads as it did. -/
def fnExactConstantsSpec : ChangeSpec := { name := "fnExactConstants", fn := fun _ => fun
  | [] => { results := [.lit (.bool true)], args := [] }
  | _ => none }
def fnExactConstantsRow : OpenClaim := { program := "ytpblgkenjoalpaa", sum := "5e59f32a9fe3a57f9ec15dbfbd00b6c6dfd3926755c96d7142a77c41cf31d4e4", func := "loop.example/g00369/laws.FnExactConstants", spec := "fnExactConstants", apart := false }
def FnExactConstantsSaid : Prop := fnExactConstantsRow.holds Try.pinned (OpenSpec.ofChange fnExactConstantsSpec)

/-- ITS FALSE NEIGHBOUR: 'it returns false'. Refute it at one input. -/
def fnExactConstantsWrong : ChangeSpec := { name := "fnExactConstants", fn := fun _ => fun
  | [] => { results := [.lit (.bool false)], args := [] }
  | _ => none }
def FnExactConstantsWrongFalsely : Prop := fnExactConstantsRow.holds Try.pinned (OpenSpec.ofChange fnExactConstantsWrong)

/-- 'laws.FnExactPairSum': WHATEVER THE INPUT: true; the input reads as it did. -/
def fnExactPairSumSpec : ChangeSpec := { name := "fnExactPairSum", fn := fun _ => fun
  | [d1, d2] => { results := [.lit (.bool true)], args := [d1, d2] }
  | _ => none }
def fnExactPairSumRow : OpenClaim := { program := "ytpblgkenjoalpaa", sum := "5e59f32a9fe3a57f9ec15dbfbd00b6c6dfd3926755c96d7142a77c41cf31d4e4", func := "loop.example/g00369/laws.FnExactPairSum", spec := "fnExactPairSum", unfollowed := true, recurses := true, apart := false }
def FnExactPairSumSaid : Prop := fnExactPairSumRow.holds Try.pinned (OpenSpec.ofChange fnExactPairSumSpec)

/-- ITS FALSE NEIGHBOUR: 'it returns false'. Refute it at one input. -/
def fnExactPairSumWrong : ChangeSpec := { name := "fnExactPairSum", fn := fun _ => fun
  | [d1, d2] => { results := [.lit (.bool false)], args := [d1, d2] }
  | _ => none }
def FnExactPairSumWrongFalsely : Prop := fnExactPairSumRow.holds Try.pinned (OpenSpec.ofChange fnExactPairSumWrong)

/-- 'laws.FnExactSeqName': WHATEVER THE INPUT: true; the input reads as it did. -/
def fnExactSeqNameSpec : ChangeSpec := { name := "fnExactSeqName", fn := fun _ => fun
  | [d1, d2] => { results := [.lit (.bool true)], args := [d1, d2] }
  | _ => none }
def fnExactSeqNameRow : OpenClaim := { program := "ytpblgkenjoalpaa", sum := "5e59f32a9fe3a57f9ec15dbfbd00b6c6dfd3926755c96d7142a77c41cf31d4e4", func := "loop.example/g00369/laws.FnExactSeqName", spec := "fnExactSeqName", recurses := true, apart := false }
def FnExactSeqNameSaid : Prop := fnExactSeqNameRow.holds Try.pinned (OpenSpec.ofChange fnExactSeqNameSpec)

/-- ITS FALSE NEIGHBOUR: 'it returns false'. Refute it at one input. -/
def fnExactSeqNameWrong : ChangeSpec := { name := "fnExactSeqName", fn := fun _ => fun
  | [d1, d2] => { results := [.lit (.bool false)], args := [d1, d2] }
  | _ => none }
def FnExactSeqNameWrongFalsely : Prop := fnExactSeqNameRow.holds Try.pinned (OpenSpec.ofChange fnExactSeqNameWrong)

/-- 'laws.FnExactSessionsFault': WHATEVER THE INPUT: true; the input reads as it did. -/
def fnExactSessionsFaultSpec : ChangeSpec := { name := "fnExactSessionsFault", fn := fun _ => fun
  | [d] => { results := [.lit (.bool true)], args := [d] }
  | _ => none }
def fnExactSessionsFaultRow : OpenClaim := { program := "ytpblgkenjoalpaa", sum := "5e59f32a9fe3a57f9ec15dbfbd00b6c6dfd3926755c96d7142a77c41cf31d4e4", func := "loop.example/g00369/laws.FnExactSessionsFault", spec := "fnExactSessionsFault", apart := false }
def FnExactSessionsFaultSaid : Prop := fnExactSessionsFaultRow.holds Try.pinned (OpenSpec.ofChange fnExactSessionsFaultSpec)

/-- ITS FALSE NEIGHBOUR: 'it returns false'. Refute it at one input. -/
def fnExactSessionsFaultWrong : ChangeSpec := { name := "fnExactSessionsFault", fn := fun _ => fun
  | [d] => { results := [.lit (.bool false)], args := [d] }
  | _ => none }
def FnExactSessionsFaultWrongFalsely : Prop := fnExactSessionsFaultRow.holds Try.pinned (OpenSpec.ofChange fnExactSessionsFaultWrong)

/-- 'laws.FnExactSumOf': WHATEVER THE INPUT: true; the input reads as it did. -/
def fnExactSumOfSpec : ChangeSpec := { name := "fnExactSumOf", fn := fun _ => fun
  | [d] => { results := [.lit (.bool true)], args := [d] }
  | _ => none }
def fnExactSumOfRow : OpenClaim := { program := "ytpblgkenjoalpaa", sum := "5e59f32a9fe3a57f9ec15dbfbd00b6c6dfd3926755c96d7142a77c41cf31d4e4", func := "loop.example/g00369/laws.FnExactSumOf", spec := "fnExactSumOf", unfollowed := true, recurses := true, apart := false }
def FnExactSumOfSaid : Prop := fnExactSumOfRow.holds Try.pinned (OpenSpec.ofChange fnExactSumOfSpec)

/-- ITS FALSE NEIGHBOUR: 'it returns false'. Refute it at one input. -/
def fnExactSumOfWrong : ChangeSpec := { name := "fnExactSumOf", fn := fun _ => fun
  | [d] => { results := [.lit (.bool false)], args := [d] }
  | _ => none }
def FnExactSumOfWrongFalsely : Prop := fnExactSumOfRow.holds Try.pinned (OpenSpec.ofChange fnExactSumOfWrong)

/- THE SECOND FORM. 'bulk': how many values and letters a reading holds, each counted each time it is reached (what is shared counts as often as it is met; a slice's spare places count too). A statement '..UptoSaid' is the law's where the arguments, and the package variables that the reading takes, are together of bulk at most 1048576: NARROWER than '..Said'. Prove '..Said' where nothing that the law and all that it calls make is longer than what came in: it says more and counts as full. Else prove '..UptoSaid'. A law counts once. -/
mutual
def uptoBulk {H : Type} : DataW H → Nat
  | .lit (.string bytes) => bytes.length + 1
  | .lit _ => 1
  | .nil => 1
  | .ptr d => uptoBulk d + 1
  | .slice elems spare => uptoBulkAll elems + uptoBulkAll spare + 1
  | .agg parts => uptoBulkAll parts + 1
  | .iface _ d => uptoBulk d + 1
  | .map entries => uptoBulkEntries entries + 1
  | .held _ => 1
def uptoBulkAll {H : Type} : List (DataW H) → Nat
  | [] => 0
  | d :: r => uptoBulk d + uptoBulkAll r
def uptoBulkEntries {H : Type} : List (Lit × DataW H) → Nat
  | [] => 0
  | x :: r => uptoBulkEntry x + uptoBulkEntries r
def uptoBulkEntry {H : Type} : Lit × DataW H → Nat
  | (.string bytes, d) => bytes.length + uptoBulk d + 1
  | (_, d) => uptoBulk d + 1
 end
def uptoSmall : (H : Type) → List (DataW H) → Bool := fun _ ds => decide (uptoBulkAll ds ≤ 1048576)
def OpenSpec.upto (s : _root_.Go.ChangeSpec) : _root_.Go.OpenSpec := { _root_.Go.OpenSpec.ofChange s with cond := some uptoSmall }

/-- 'laws.FnExactConstants', WHERE WHAT IT READS IS OF BULK AT MOST 1048576: true; the input reads as it did. -/
def fnExactConstantsUptoRow : OpenClaim := { program := "ytpblgkenjoalpaa", sum := "5e59f32a9fe3a57f9ec15dbfbd00b6c6dfd3926755c96d7142a77c41cf31d4e4", func := "loop.example/g00369/laws.FnExactConstants", spec := "fnExactConstants", apart := false, narrowed := true }
def FnExactConstantsUptoSaid : Prop := fnExactConstantsUptoRow.holds Try.pinned (OpenSpec.upto fnExactConstantsSpec)

/-- 'laws.FnExactPairSum', WHERE WHAT IT READS IS OF BULK AT MOST 1048576: true; the input reads as it did. -/
def fnExactPairSumUptoRow : OpenClaim := { program := "ytpblgkenjoalpaa", sum := "5e59f32a9fe3a57f9ec15dbfbd00b6c6dfd3926755c96d7142a77c41cf31d4e4", func := "loop.example/g00369/laws.FnExactPairSum", spec := "fnExactPairSum", unfollowed := true, recurses := true, apart := false, narrowed := true }
def FnExactPairSumUptoSaid : Prop := fnExactPairSumUptoRow.holds Try.pinned (OpenSpec.upto fnExactPairSumSpec)

/-- 'laws.FnExactSeqName', WHERE WHAT IT READS IS OF BULK AT MOST 1048576: true; the input reads as it did. -/
def fnExactSeqNameUptoRow : OpenClaim := { program := "ytpblgkenjoalpaa", sum := "5e59f32a9fe3a57f9ec15dbfbd00b6c6dfd3926755c96d7142a77c41cf31d4e4", func := "loop.example/g00369/laws.FnExactSeqName", spec := "fnExactSeqName", recurses := true, apart := false, narrowed := true }
def FnExactSeqNameUptoSaid : Prop := fnExactSeqNameUptoRow.holds Try.pinned (OpenSpec.upto fnExactSeqNameSpec)

/-- 'laws.FnExactSessionsFault', WHERE WHAT IT READS IS OF BULK AT MOST 1048576: true; the input reads as it did. -/
def fnExactSessionsFaultUptoRow : OpenClaim := { program := "ytpblgkenjoalpaa", sum := "5e59f32a9fe3a57f9ec15dbfbd00b6c6dfd3926755c96d7142a77c41cf31d4e4", func := "loop.example/g00369/laws.FnExactSessionsFault", spec := "fnExactSessionsFault", apart := false, narrowed := true }
def FnExactSessionsFaultUptoSaid : Prop := fnExactSessionsFaultUptoRow.holds Try.pinned (OpenSpec.upto fnExactSessionsFaultSpec)

/-- 'laws.FnExactSumOf', WHERE WHAT IT READS IS OF BULK AT MOST 1048576: true; the input reads as it did. -/
def fnExactSumOfUptoRow : OpenClaim := { program := "ytpblgkenjoalpaa", sum := "5e59f32a9fe3a57f9ec15dbfbd00b6c6dfd3926755c96d7142a77c41cf31d4e4", func := "loop.example/g00369/laws.FnExactSumOf", spec := "fnExactSumOf", unfollowed := true, recurses := true, apart := false, narrowed := true }
def FnExactSumOfUptoSaid : Prop := fnExactSumOfUptoRow.holds Try.pinned (OpenSpec.upto fnExactSumOfSpec)

end Rows
end Go.Proofs.Ytpblgkenjoalpaa
