/-
  No cell of these rows narrows 'for every input' (looked for: loops, veiled, ifaces, maps, wideKeys, modest, calm, conditions, laid).
  DERIVED. THE GIVEN ROWS OF THIS SEAT. 4 by the template 'for every input the law returns true; each argument reads behind the call as it read before'; 0 by the template 'total and deterministic' (their statements: YthkdihpbdaehbaaTotals.lean).
  GIVEN WITH THE SEED: the statements are not yours to turn. If you find one false, say at which input.
  Laid BY PROGRAM, IN A SANDBOX (cutbox-rows.mjs): the forced cells as the released guide's own fill.sh prints them over the translation 671ec3f7eb6ceac4… (all of the seat's roots in one cut). By AI agents, Wed Nov 11 2026. No macro, syntax, notation, axiom, sorry.
-/
import Derived.Test.YthkdihpbdaehbaaChecked
import GoSem.Claim
import GoSem.ClaimJoined
import GoSem.ClaimMapViews
import Derived.JoinedTies
import Derived.KernelRfl
namespace Go.Proofs.Ythkdihpbdaehbaa
/- THE CELL 'sum', in the pinned program and in every row, IS THE sha256 OF THE DUMP (.gsa) THAT YthkdihpbdaehbaaProg.lean LOADS. Nothing in Lean hashes anything: it is a label: what it is worth is what the hold of that sum in a sandbox is worth. -/
noncomputable def Try.pinned : Pinned := { name := "ythkdihpbdaehbaa", sum := "671ec3f7eb6ceac4a762eb6f86d40701c0509a827e1fbbc76939d92112cda965", checked := Try.checked }
namespace Rows
def none {H : Type} : Left H := { results := [], args := [] }

/-- 'breviarylaw26.ProtoReqs': WHATEVER THE INPUT: true; the input reads as it did. -/
def protoReqsSpec : ChangeSpec := { name := "protoReqs", fn := fun _ => fun
  | [d] => { results := [.lit (.bool true)], args := [d] }
  | _ => none }
def protoReqsRow : OpenClaim := { program := "ythkdihpbdaehbaa", sum := "671ec3f7eb6ceac4a762eb6f86d40701c0509a827e1fbbc76939d92112cda965", func := "breviary/breviarylaw26.ProtoReqs", spec := "protoReqs", unfollowed := true, recurses := true, apart := false }
def ProtoReqsSaid : Prop := protoReqsRow.holds Try.pinned (OpenSpec.ofChange protoReqsSpec)

/-- ITS FALSE NEIGHBOUR: 'it returns false'. Refute it at one input. -/
def protoReqsWrong : ChangeSpec := { name := "protoReqs", fn := fun _ => fun
  | [d] => { results := [.lit (.bool false)], args := [d] }
  | _ => none }
def ProtoReqsWrongFalsely : Prop := protoReqsRow.holds Try.pinned (OpenSpec.ofChange protoReqsWrong)

/-- 'breviarylaw26.ProtoReads': WHATEVER THE INPUT: true; the input reads as it did. -/
def protoReadsSpec : ChangeSpec := { name := "protoReads", fn := fun _ => fun
  | [d] => { results := [.lit (.bool true)], args := [d] }
  | _ => none }
def protoReadsRow : OpenClaim := { program := "ythkdihpbdaehbaa", sum := "671ec3f7eb6ceac4a762eb6f86d40701c0509a827e1fbbc76939d92112cda965", func := "breviary/breviarylaw26.ProtoReads", spec := "protoReads", unfollowed := true, recurses := true, apart := false }
def ProtoReadsSaid : Prop := protoReadsRow.holds Try.pinned (OpenSpec.ofChange protoReadsSpec)

/-- ITS FALSE NEIGHBOUR: 'it returns false'. Refute it at one input. -/
def protoReadsWrong : ChangeSpec := { name := "protoReads", fn := fun _ => fun
  | [d] => { results := [.lit (.bool false)], args := [d] }
  | _ => none }
def ProtoReadsWrongFalsely : Prop := protoReadsRow.holds Try.pinned (OpenSpec.ofChange protoReadsWrong)

/-- 'breviarylaw26.ProtoReps': WHATEVER THE INPUT: true; the input reads as it did. -/
def protoRepsSpec : ChangeSpec := { name := "protoReps", fn := fun _ => fun
  | [d] => { results := [.lit (.bool true)], args := [d] }
  | _ => none }
def protoRepsRow : OpenClaim := { program := "ythkdihpbdaehbaa", sum := "671ec3f7eb6ceac4a762eb6f86d40701c0509a827e1fbbc76939d92112cda965", func := "breviary/breviarylaw26.ProtoReps", spec := "protoReps", unfollowed := true, recurses := true, apart := false }
def ProtoRepsSaid : Prop := protoRepsRow.holds Try.pinned (OpenSpec.ofChange protoRepsSpec)

/-- ITS FALSE NEIGHBOUR: 'it returns false'. Refute it at one input. -/
def protoRepsWrong : ChangeSpec := { name := "protoReps", fn := fun _ => fun
  | [d] => { results := [.lit (.bool false)], args := [d] }
  | _ => none }
def ProtoRepsWrongFalsely : Prop := protoRepsRow.holds Try.pinned (OpenSpec.ofChange protoRepsWrong)

/-- 'breviarylaw26.ProtoOnce': WHATEVER THE INPUT: true; the input reads as it did. -/
def protoOnceSpec : ChangeSpec := { name := "protoOnce", fn := fun _ => fun
  | [d] => { results := [.lit (.bool true)], args := [d] }
  | _ => none }
def protoOnceRow : OpenClaim := { program := "ythkdihpbdaehbaa", sum := "671ec3f7eb6ceac4a762eb6f86d40701c0509a827e1fbbc76939d92112cda965", func := "breviary/breviarylaw26.ProtoOnce", spec := "protoOnce", unfollowed := true, recurses := true, apart := false }
def ProtoOnceSaid : Prop := protoOnceRow.holds Try.pinned (OpenSpec.ofChange protoOnceSpec)

/-- ITS FALSE NEIGHBOUR: 'it returns false'. Refute it at one input. -/
def protoOnceWrong : ChangeSpec := { name := "protoOnce", fn := fun _ => fun
  | [d] => { results := [.lit (.bool false)], args := [d] }
  | _ => none }
def ProtoOnceWrongFalsely : Prop := protoOnceRow.holds Try.pinned (OpenSpec.ofChange protoOnceWrong)

/- THE SECOND FORM. 'bulk': how many values and letters a reading holds, each counted each time it is reached (what is shared counts as often as it is met; a slice's spare places count too). A statement '..UptoSaid' is the law's where the arguments, and the package variables that the reading takes, are together of bulk at most 1048576: NARROWER than '..Said'. Prove '..Said' where nothing that the law and all that it calls make is longer than what came in: it says more and counts as full. Else prove '..UptoSaid'. A law counts once. -/
mutual
def uptoBulk {H : Type} : DataW H → Nat
  | .lit (.string bytes) => bytes.length + 1
  | .lit _ => 1
  | .nil => 1
  | .ptr d => uptoBulk d + 1
  | .slice elems spare => uptoBulkAll elems + uptoBulkAll spare + 1
  | .agg parts => uptoBulkAll parts + 1
  | .iface _ d => uptoBulk d + 1
  | .map entries => uptoBulkEntries entries + 1
  | .held _ => 1
def uptoBulkAll {H : Type} : List (DataW H) → Nat
  | [] => 0
  | d :: r => uptoBulk d + uptoBulkAll r
def uptoBulkEntries {H : Type} : List (Lit × DataW H) → Nat
  | [] => 0
  | x :: r => uptoBulkEntry x + uptoBulkEntries r
def uptoBulkEntry {H : Type} : Lit × DataW H → Nat
  | (.string bytes, d) => bytes.length + uptoBulk d + 1
  | (_, d) => uptoBulk d + 1
 end
def uptoSmall : (H : Type) → List (DataW H) → Bool := fun _ ds => decide (uptoBulkAll ds ≤ 1048576)
def OpenSpec.upto (s : _root_.Go.ChangeSpec) : _root_.Go.OpenSpec := { _root_.Go.OpenSpec.ofChange s with cond := some uptoSmall }

/-- 'breviarylaw26.ProtoReqs', WHERE WHAT IT READS IS OF BULK AT MOST 1048576: true; the input reads as it did. -/
def protoReqsUptoRow : OpenClaim := { program := "ythkdihpbdaehbaa", sum := "671ec3f7eb6ceac4a762eb6f86d40701c0509a827e1fbbc76939d92112cda965", func := "breviary/breviarylaw26.ProtoReqs", spec := "protoReqs", unfollowed := true, recurses := true, apart := false, narrowed := true }
def ProtoReqsUptoSaid : Prop := protoReqsUptoRow.holds Try.pinned (OpenSpec.upto protoReqsSpec)

/-- 'breviarylaw26.ProtoReads', WHERE WHAT IT READS IS OF BULK AT MOST 1048576: true; the input reads as it did. -/
def protoReadsUptoRow : OpenClaim := { program := "ythkdihpbdaehbaa", sum := "671ec3f7eb6ceac4a762eb6f86d40701c0509a827e1fbbc76939d92112cda965", func := "breviary/breviarylaw26.ProtoReads", spec := "protoReads", unfollowed := true, recurses := true, apart := false, narrowed := true }
def ProtoReadsUptoSaid : Prop := protoReadsUptoRow.holds Try.pinned (OpenSpec.upto protoReadsSpec)

/-- 'breviarylaw26.ProtoReps', WHERE WHAT IT READS IS OF BULK AT MOST 1048576: true; the input reads as it did. -/
def protoRepsUptoRow : OpenClaim := { program := "ythkdihpbdaehbaa", sum := "671ec3f7eb6ceac4a762eb6f86d40701c0509a827e1fbbc76939d92112cda965", func := "breviary/breviarylaw26.ProtoReps", spec := "protoReps", unfollowed := true, recurses := true, apart := false, narrowed := true }
def ProtoRepsUptoSaid : Prop := protoRepsUptoRow.holds Try.pinned (OpenSpec.upto protoRepsSpec)

/-- 'breviarylaw26.ProtoOnce', WHERE WHAT IT READS IS OF BULK AT MOST 1048576: true; the input reads as it did. -/
def protoOnceUptoRow : OpenClaim := { program := "ythkdihpbdaehbaa", sum := "671ec3f7eb6ceac4a762eb6f86d40701c0509a827e1fbbc76939d92112cda965", func := "breviary/breviarylaw26.ProtoOnce", spec := "protoOnce", unfollowed := true, recurses := true, apart := false, narrowed := true }
def ProtoOnceUptoSaid : Prop := protoOnceUptoRow.holds Try.pinned (OpenSpec.upto protoOnceSpec)

end Rows
end Go.Proofs.Ythkdihpbdaehbaa
