/-
  No cell of these rows narrows 'for every input' (looked for: loops, veiled, ifaces, maps, wideKeys, modest, calm, conditions, laid).
  DERIVED. THE GIVEN ROWS OF THIS SEAT. 12 by the template 'for every input the law returns true; each argument reads behind the call as it read before'; 0 by the template 'total and deterministic' (their statements: YtaainenplcokaaaTotals.lean).
  GIVEN WITH THE SEED: the statements are not yours to turn. If you find one false, say at which input.
  Laid BY PROGRAM, IN A SANDBOX (cutbox-rows.mjs): the forced cells as the released guide's own fill.sh prints them over the translation 0d3e0aefeef8fd00… (all of the seat's roots in one cut). By AI agents, Wed Nov 11 2026. No macro, syntax, notation, axiom, sorry.
-/
import Derived.Test.YtaainenplcokaaaChecked
import GoSem.Claim
import GoSem.ClaimJoined
import GoSem.ClaimMapViews
import Derived.JoinedTies
import Derived.KernelRfl
namespace Go.Proofs.Ytaainenplcokaaa
/- THE CELL 'sum', in the pinned program and in every row, IS THE sha256 OF THE DUMP (.gsa) THAT YtaainenplcokaaaProg.lean LOADS. Nothing in Lean hashes anything: it is a label: what it is worth is what the hold of that sum in a sandbox is worth. -/
noncomputable def Try.pinned : Pinned := { name := "ytaainenplcokaaa", sum := "0d3e0aefeef8fd00792212ea3aa67c5ea39d7e7d10af9f19b023d0533d564ea2", checked := Try.checked }
namespace Rows
def none {H : Type} : Left H := { results := [], args := [] }

/-- 'laws.FnTurned': WHATEVER THE INPUT: true; the input reads as it did. -/
def fnTurnedSpec : ChangeSpec := { name := "fnTurned", fn := fun _ => fun
  | [d] => { results := [.lit (.bool true)], args := [d] }
  | _ => none }
def fnTurnedRow : OpenClaim := { program := "ytaainenplcokaaa", sum := "0d3e0aefeef8fd00792212ea3aa67c5ea39d7e7d10af9f19b023d0533d564ea2", func := "loop.example/g00232/laws.FnTurned", spec := "fnTurned", apart := false }
def FnTurnedSaid : Prop := fnTurnedRow.holds Try.pinned (OpenSpec.ofChange fnTurnedSpec)

/-- ITS FALSE NEIGHBOUR: 'it returns false'. Refute it at one input. -/
def fnTurnedWrong : ChangeSpec := { name := "fnTurned", fn := fun _ => fun
  | [d] => { results := [.lit (.bool false)], args := [d] }
  | _ => none }
def FnTurnedWrongFalsely : Prop := fnTurnedRow.holds Try.pinned (OpenSpec.ofChange fnTurnedWrong)

/-- 'laws.FnExactFileAt': WHATEVER THE INPUT: true; the input reads as it did. -/
def fnExactFileAtSpec : ChangeSpec := { name := "fnExactFileAt", fn := fun _ => fun
  | [d1, d2] => { results := [.lit (.bool true)], args := [d1, d2] }
  | _ => none }
def fnExactFileAtRow : OpenClaim := { program := "ytaainenplcokaaa", sum := "0d3e0aefeef8fd00792212ea3aa67c5ea39d7e7d10af9f19b023d0533d564ea2", func := "loop.example/g00232/laws.FnExactFileAt", spec := "fnExactFileAt", unfollowed := true, recurses := true, apart := false }
def FnExactFileAtSaid : Prop := fnExactFileAtRow.holds Try.pinned (OpenSpec.ofChange fnExactFileAtSpec)

/-- ITS FALSE NEIGHBOUR: 'it returns false'. Refute it at one input. -/
def fnExactFileAtWrong : ChangeSpec := { name := "fnExactFileAt", fn := fun _ => fun
  | [d1, d2] => { results := [.lit (.bool false)], args := [d1, d2] }
  | _ => none }
def FnExactFileAtWrongFalsely : Prop := fnExactFileAtRow.holds Try.pinned (OpenSpec.ofChange fnExactFileAtWrong)

/-- 'laws.FnKeeps': WHATEVER THE INPUT: true; the input reads as it did. -/
def fnKeepsSpec : ChangeSpec := { name := "fnKeeps", fn := fun _ => fun
  | [d] => { results := [.lit (.bool true)], args := [d] }
  | _ => none }
def fnKeepsRow : OpenClaim := { program := "ytaainenplcokaaa", sum := "0d3e0aefeef8fd00792212ea3aa67c5ea39d7e7d10af9f19b023d0533d564ea2", func := "loop.example/g00232/laws.FnKeeps", spec := "fnKeeps", apart := false }
def FnKeepsSaid : Prop := fnKeepsRow.holds Try.pinned (OpenSpec.ofChange fnKeepsSpec)

/-- ITS FALSE NEIGHBOUR: 'it returns false'. Refute it at one input. -/
def fnKeepsWrong : ChangeSpec := { name := "fnKeeps", fn := fun _ => fun
  | [d] => { results := [.lit (.bool false)], args := [d] }
  | _ => none }
def FnKeepsWrongFalsely : Prop := fnKeepsRow.holds Try.pinned (OpenSpec.ofChange fnKeepsWrong)

/-- 'laws.FnFrames': WHATEVER THE INPUT: true; the input reads as it did. -/
def fnFramesSpec : ChangeSpec := { name := "fnFrames", fn := fun _ => fun
  | [d] => { results := [.lit (.bool true)], args := [d] }
  | _ => none }
def fnFramesRow : OpenClaim := { program := "ytaainenplcokaaa", sum := "0d3e0aefeef8fd00792212ea3aa67c5ea39d7e7d10af9f19b023d0533d564ea2", func := "loop.example/g00232/laws.FnFrames", spec := "fnFrames", apart := false }
def FnFramesSaid : Prop := fnFramesRow.holds Try.pinned (OpenSpec.ofChange fnFramesSpec)

/-- ITS FALSE NEIGHBOUR: 'it returns false'. Refute it at one input. -/
def fnFramesWrong : ChangeSpec := { name := "fnFrames", fn := fun _ => fun
  | [d] => { results := [.lit (.bool false)], args := [d] }
  | _ => none }
def FnFramesWrongFalsely : Prop := fnFramesRow.holds Try.pinned (OpenSpec.ofChange fnFramesWrong)

/-- 'laws.FnRings': WHATEVER THE INPUT: true; the input reads as it did. -/
def fnRingsSpec : ChangeSpec := { name := "fnRings", fn := fun _ => fun
  | [d] => { results := [.lit (.bool true)], args := [d] }
  | _ => none }
def fnRingsRow : OpenClaim := { program := "ytaainenplcokaaa", sum := "0d3e0aefeef8fd00792212ea3aa67c5ea39d7e7d10af9f19b023d0533d564ea2", func := "loop.example/g00232/laws.FnRings", spec := "fnRings", apart := false }
def FnRingsSaid : Prop := fnRingsRow.holds Try.pinned (OpenSpec.ofChange fnRingsSpec)

/-- ITS FALSE NEIGHBOUR: 'it returns false'. Refute it at one input. -/
def fnRingsWrong : ChangeSpec := { name := "fnRings", fn := fun _ => fun
  | [d] => { results := [.lit (.bool false)], args := [d] }
  | _ => none }
def FnRingsWrongFalsely : Prop := fnRingsRow.holds Try.pinned (OpenSpec.ofChange fnRingsWrong)

/-- 'laws.FnExactReadEntry': WHATEVER THE INPUT: true; the input reads as it did. -/
def fnExactReadEntrySpec : ChangeSpec := { name := "fnExactReadEntry", fn := fun _ => fun
  | [d] => { results := [.lit (.bool true)], args := [d] }
  | _ => none }
def fnExactReadEntryRow : OpenClaim := { program := "ytaainenplcokaaa", sum := "0d3e0aefeef8fd00792212ea3aa67c5ea39d7e7d10af9f19b023d0533d564ea2", func := "loop.example/g00232/laws.FnExactReadEntry", spec := "fnExactReadEntry", apart := false }
def FnExactReadEntrySaid : Prop := fnExactReadEntryRow.holds Try.pinned (OpenSpec.ofChange fnExactReadEntrySpec)

/-- ITS FALSE NEIGHBOUR: 'it returns false'. Refute it at one input. -/
def fnExactReadEntryWrong : ChangeSpec := { name := "fnExactReadEntry", fn := fun _ => fun
  | [d] => { results := [.lit (.bool false)], args := [d] }
  | _ => none }
def FnExactReadEntryWrongFalsely : Prop := fnExactReadEntryRow.holds Try.pinned (OpenSpec.ofChange fnExactReadEntryWrong)

/-- 'laws.FnExactLoseDisk': WHATEVER THE INPUT: true; the input reads as it did. -/
def fnExactLoseDiskSpec : ChangeSpec := { name := "fnExactLoseDisk", fn := fun _ => fun
  | [d1, d2] => { results := [.lit (.bool true)], args := [d1, d2] }
  | _ => none }
def fnExactLoseDiskRow : OpenClaim := { program := "ytaainenplcokaaa", sum := "0d3e0aefeef8fd00792212ea3aa67c5ea39d7e7d10af9f19b023d0533d564ea2", func := "loop.example/g00232/laws.FnExactLoseDisk", spec := "fnExactLoseDisk", apart := false }
def FnExactLoseDiskSaid : Prop := fnExactLoseDiskRow.holds Try.pinned (OpenSpec.ofChange fnExactLoseDiskSpec)

/-- ITS FALSE NEIGHBOUR: 'it returns false'. Refute it at one input. -/
def fnExactLoseDiskWrong : ChangeSpec := { name := "fnExactLoseDisk", fn := fun _ => fun
  | [d1, d2] => { results := [.lit (.bool false)], args := [d1, d2] }
  | _ => none }
def FnExactLoseDiskWrongFalsely : Prop := fnExactLoseDiskRow.holds Try.pinned (OpenSpec.ofChange fnExactLoseDiskWrong)

/-- 'laws.FnExactLogBehind': WHATEVER THE INPUT: true; the input reads as it did. -/
def fnExactLogBehindSpec : ChangeSpec := { name := "fnExactLogBehind", fn := fun _ => fun
  | [d1, d2, d3] => { results := [.lit (.bool true)], args := [d1, d2, d3] }
  | _ => none }
def fnExactLogBehindRow : OpenClaim := { program := "ytaainenplcokaaa", sum := "0d3e0aefeef8fd00792212ea3aa67c5ea39d7e7d10af9f19b023d0533d564ea2", func := "loop.example/g00232/laws.FnExactLogBehind", spec := "fnExactLogBehind", apart := false }
def FnExactLogBehindSaid : Prop := fnExactLogBehindRow.holds Try.pinned (OpenSpec.ofChange fnExactLogBehindSpec)

/-- ITS FALSE NEIGHBOUR: 'it returns false'. Refute it at one input. -/
def fnExactLogBehindWrong : ChangeSpec := { name := "fnExactLogBehind", fn := fun _ => fun
  | [d1, d2, d3] => { results := [.lit (.bool false)], args := [d1, d2, d3] }
  | _ => none }
def FnExactLogBehindWrongFalsely : Prop := fnExactLogBehindRow.holds Try.pinned (OpenSpec.ofChange fnExactLogBehindWrong)

/-- 'laws.FnExactLogPut': WHATEVER THE INPUT: true; the input reads as it did. -/
def fnExactLogPutSpec : ChangeSpec := { name := "fnExactLogPut", fn := fun _ => fun
  | [d1, d2, d3] => { results := [.lit (.bool true)], args := [d1, d2, d3] }
  | _ => none }
def fnExactLogPutRow : OpenClaim := { program := "ytaainenplcokaaa", sum := "0d3e0aefeef8fd00792212ea3aa67c5ea39d7e7d10af9f19b023d0533d564ea2", func := "loop.example/g00232/laws.FnExactLogPut", spec := "fnExactLogPut", apart := false }
def FnExactLogPutSaid : Prop := fnExactLogPutRow.holds Try.pinned (OpenSpec.ofChange fnExactLogPutSpec)

/-- ITS FALSE NEIGHBOUR: 'it returns false'. Refute it at one input. -/
def fnExactLogPutWrong : ChangeSpec := { name := "fnExactLogPut", fn := fun _ => fun
  | [d1, d2, d3] => { results := [.lit (.bool false)], args := [d1, d2, d3] }
  | _ => none }
def FnExactLogPutWrongFalsely : Prop := fnExactLogPutRow.holds Try.pinned (OpenSpec.ofChange fnExactLogPutWrong)

/-- 'laws.FnExactReadSnap': WHATEVER THE INPUT: true; the input reads as it did. -/
def fnExactReadSnapSpec : ChangeSpec := { name := "fnExactReadSnap", fn := fun _ => fun
  | [d] => { results := [.lit (.bool true)], args := [d] }
  | _ => none }
def fnExactReadSnapRow : OpenClaim := { program := "ytaainenplcokaaa", sum := "0d3e0aefeef8fd00792212ea3aa67c5ea39d7e7d10af9f19b023d0533d564ea2", func := "loop.example/g00232/laws.FnExactReadSnap", spec := "fnExactReadSnap", apart := false }
def FnExactReadSnapSaid : Prop := fnExactReadSnapRow.holds Try.pinned (OpenSpec.ofChange fnExactReadSnapSpec)

/-- ITS FALSE NEIGHBOUR: 'it returns false'. Refute it at one input. -/
def fnExactReadSnapWrong : ChangeSpec := { name := "fnExactReadSnap", fn := fun _ => fun
  | [d] => { results := [.lit (.bool false)], args := [d] }
  | _ => none }
def FnExactReadSnapWrongFalsely : Prop := fnExactReadSnapRow.holds Try.pinned (OpenSpec.ofChange fnExactReadSnapWrong)

/-- 'laws.FnExactJournalText': WHATEVER THE INPUT: true; the input reads as it did. -/
def fnExactJournalTextSpec : ChangeSpec := { name := "fnExactJournalText", fn := fun _ => fun
  | [d] => { results := [.lit (.bool true)], args := [d] }
  | _ => none }
def fnExactJournalTextRow : OpenClaim := { program := "ytaainenplcokaaa", sum := "0d3e0aefeef8fd00792212ea3aa67c5ea39d7e7d10af9f19b023d0533d564ea2", func := "loop.example/g00232/laws.FnExactJournalText", spec := "fnExactJournalText", apart := false }
def FnExactJournalTextSaid : Prop := fnExactJournalTextRow.holds Try.pinned (OpenSpec.ofChange fnExactJournalTextSpec)

/-- ITS FALSE NEIGHBOUR: 'it returns false'. Refute it at one input. -/
def fnExactJournalTextWrong : ChangeSpec := { name := "fnExactJournalText", fn := fun _ => fun
  | [d] => { results := [.lit (.bool false)], args := [d] }
  | _ => none }
def FnExactJournalTextWrongFalsely : Prop := fnExactJournalTextRow.holds Try.pinned (OpenSpec.ofChange fnExactJournalTextWrong)

/-- 'laws.FnExactDoAct': WHATEVER THE INPUT: true; the input reads as it did. -/
def fnExactDoActSpec : ChangeSpec := { name := "fnExactDoAct", fn := fun _ => fun
  | [d1, d2] => { results := [.lit (.bool true)], args := [d1, d2] }
  | _ => none }
def fnExactDoActRow : OpenClaim := { program := "ytaainenplcokaaa", sum := "0d3e0aefeef8fd00792212ea3aa67c5ea39d7e7d10af9f19b023d0533d564ea2", func := "loop.example/g00232/laws.FnExactDoAct", spec := "fnExactDoAct", inPlace := ["slices.overlaps[loop.example/g00232/impl.File]"], unfollowed := true, recurses := true, apart := false }
def FnExactDoActSaid : Prop := fnExactDoActRow.holds Try.pinned (OpenSpec.ofChange fnExactDoActSpec)

/-- ITS FALSE NEIGHBOUR: 'it returns false'. Refute it at one input. -/
def fnExactDoActWrong : ChangeSpec := { name := "fnExactDoAct", fn := fun _ => fun
  | [d1, d2] => { results := [.lit (.bool false)], args := [d1, d2] }
  | _ => none }
def FnExactDoActWrongFalsely : Prop := fnExactDoActRow.holds Try.pinned (OpenSpec.ofChange fnExactDoActWrong)

/- THE SECOND FORM. 'bulk': how many values and letters a reading holds, each counted each time it is reached (what is shared counts as often as it is met; a slice's spare places count too). A statement '..UptoSaid' is the law's where the arguments, and the package variables that the reading takes, are together of bulk at most 1048576: NARROWER than '..Said'. Prove '..Said' where nothing that the law and all that it calls make is longer than what came in: it says more and counts as full. Else prove '..UptoSaid'. A law counts once. -/
mutual
def uptoBulk {H : Type} : DataW H → Nat
  | .lit (.string bytes) => bytes.length + 1
  | .lit _ => 1
  | .nil => 1
  | .ptr d => uptoBulk d + 1
  | .slice elems spare => uptoBulkAll elems + uptoBulkAll spare + 1
  | .agg parts => uptoBulkAll parts + 1
  | .iface _ d => uptoBulk d + 1
  | .map entries => uptoBulkEntries entries + 1
  | .held _ => 1
def uptoBulkAll {H : Type} : List (DataW H) → Nat
  | [] => 0
  | d :: r => uptoBulk d + uptoBulkAll r
def uptoBulkEntries {H : Type} : List (Lit × DataW H) → Nat
  | [] => 0
  | x :: r => uptoBulkEntry x + uptoBulkEntries r
def uptoBulkEntry {H : Type} : Lit × DataW H → Nat
  | (.string bytes, d) => bytes.length + uptoBulk d + 1
  | (_, d) => uptoBulk d + 1
 end
def uptoSmall : (H : Type) → List (DataW H) → Bool := fun _ ds => decide (uptoBulkAll ds ≤ 1048576)
def OpenSpec.upto (s : _root_.Go.ChangeSpec) : _root_.Go.OpenSpec := { _root_.Go.OpenSpec.ofChange s with cond := some uptoSmall }

/-- 'laws.FnTurned', WHERE WHAT IT READS IS OF BULK AT MOST 1048576: true; the input reads as it did. -/
def fnTurnedUptoRow : OpenClaim := { program := "ytaainenplcokaaa", sum := "0d3e0aefeef8fd00792212ea3aa67c5ea39d7e7d10af9f19b023d0533d564ea2", func := "loop.example/g00232/laws.FnTurned", spec := "fnTurned", apart := false, narrowed := true }
def FnTurnedUptoSaid : Prop := fnTurnedUptoRow.holds Try.pinned (OpenSpec.upto fnTurnedSpec)

/-- 'laws.FnExactFileAt', WHERE WHAT IT READS IS OF BULK AT MOST 1048576: true; the input reads as it did. -/
def fnExactFileAtUptoRow : OpenClaim := { program := "ytaainenplcokaaa", sum := "0d3e0aefeef8fd00792212ea3aa67c5ea39d7e7d10af9f19b023d0533d564ea2", func := "loop.example/g00232/laws.FnExactFileAt", spec := "fnExactFileAt", unfollowed := true, recurses := true, apart := false, narrowed := true }
def FnExactFileAtUptoSaid : Prop := fnExactFileAtUptoRow.holds Try.pinned (OpenSpec.upto fnExactFileAtSpec)

/-- 'laws.FnKeeps', WHERE WHAT IT READS IS OF BULK AT MOST 1048576: true; the input reads as it did. -/
def fnKeepsUptoRow : OpenClaim := { program := "ytaainenplcokaaa", sum := "0d3e0aefeef8fd00792212ea3aa67c5ea39d7e7d10af9f19b023d0533d564ea2", func := "loop.example/g00232/laws.FnKeeps", spec := "fnKeeps", apart := false, narrowed := true }
def FnKeepsUptoSaid : Prop := fnKeepsUptoRow.holds Try.pinned (OpenSpec.upto fnKeepsSpec)

/-- 'laws.FnFrames', WHERE WHAT IT READS IS OF BULK AT MOST 1048576: true; the input reads as it did. -/
def fnFramesUptoRow : OpenClaim := { program := "ytaainenplcokaaa", sum := "0d3e0aefeef8fd00792212ea3aa67c5ea39d7e7d10af9f19b023d0533d564ea2", func := "loop.example/g00232/laws.FnFrames", spec := "fnFrames", apart := false, narrowed := true }
def FnFramesUptoSaid : Prop := fnFramesUptoRow.holds Try.pinned (OpenSpec.upto fnFramesSpec)

/-- 'laws.FnRings', WHERE WHAT IT READS IS OF BULK AT MOST 1048576: true; the input reads as it did. -/
def fnRingsUptoRow : OpenClaim := { program := "ytaainenplcokaaa", sum := "0d3e0aefeef8fd00792212ea3aa67c5ea39d7e7d10af9f19b023d0533d564ea2", func := "loop.example/g00232/laws.FnRings", spec := "fnRings", apart := false, narrowed := true }
def FnRingsUptoSaid : Prop := fnRingsUptoRow.holds Try.pinned (OpenSpec.upto fnRingsSpec)

/-- 'laws.FnExactReadEntry', WHERE WHAT IT READS IS OF BULK AT MOST 1048576: true; the input reads as it did. -/
def fnExactReadEntryUptoRow : OpenClaim := { program := "ytaainenplcokaaa", sum := "0d3e0aefeef8fd00792212ea3aa67c5ea39d7e7d10af9f19b023d0533d564ea2", func := "loop.example/g00232/laws.FnExactReadEntry", spec := "fnExactReadEntry", apart := false, narrowed := true }
def FnExactReadEntryUptoSaid : Prop := fnExactReadEntryUptoRow.holds Try.pinned (OpenSpec.upto fnExactReadEntrySpec)

/-- 'laws.FnExactLoseDisk', WHERE WHAT IT READS IS OF BULK AT MOST 1048576: true; the input reads as it did. -/
def fnExactLoseDiskUptoRow : OpenClaim := { program := "ytaainenplcokaaa", sum := "0d3e0aefeef8fd00792212ea3aa67c5ea39d7e7d10af9f19b023d0533d564ea2", func := "loop.example/g00232/laws.FnExactLoseDisk", spec := "fnExactLoseDisk", apart := false, narrowed := true }
def FnExactLoseDiskUptoSaid : Prop := fnExactLoseDiskUptoRow.holds Try.pinned (OpenSpec.upto fnExactLoseDiskSpec)

/-- 'laws.FnExactLogBehind', WHERE WHAT IT READS IS OF BULK AT MOST 1048576: true; the input reads as it did. -/
def fnExactLogBehindUptoRow : OpenClaim := { program := "ytaainenplcokaaa", sum := "0d3e0aefeef8fd00792212ea3aa67c5ea39d7e7d10af9f19b023d0533d564ea2", func := "loop.example/g00232/laws.FnExactLogBehind", spec := "fnExactLogBehind", apart := false, narrowed := true }
def FnExactLogBehindUptoSaid : Prop := fnExactLogBehindUptoRow.holds Try.pinned (OpenSpec.upto fnExactLogBehindSpec)

/-- 'laws.FnExactLogPut', WHERE WHAT IT READS IS OF BULK AT MOST 1048576: true; the input reads as it did. -/
def fnExactLogPutUptoRow : OpenClaim := { program := "ytaainenplcokaaa", sum := "0d3e0aefeef8fd00792212ea3aa67c5ea39d7e7d10af9f19b023d0533d564ea2", func := "loop.example/g00232/laws.FnExactLogPut", spec := "fnExactLogPut", apart := false, narrowed := true }
def FnExactLogPutUptoSaid : Prop := fnExactLogPutUptoRow.holds Try.pinned (OpenSpec.upto fnExactLogPutSpec)

/-- 'laws.FnExactReadSnap', WHERE WHAT IT READS IS OF BULK AT MOST 1048576: true; the input reads as it did. -/
def fnExactReadSnapUptoRow : OpenClaim := { program := "ytaainenplcokaaa", sum := "0d3e0aefeef8fd00792212ea3aa67c5ea39d7e7d10af9f19b023d0533d564ea2", func := "loop.example/g00232/laws.FnExactReadSnap", spec := "fnExactReadSnap", apart := false, narrowed := true }
def FnExactReadSnapUptoSaid : Prop := fnExactReadSnapUptoRow.holds Try.pinned (OpenSpec.upto fnExactReadSnapSpec)

/-- 'laws.FnExactJournalText', WHERE WHAT IT READS IS OF BULK AT MOST 1048576: true; the input reads as it did. -/
def fnExactJournalTextUptoRow : OpenClaim := { program := "ytaainenplcokaaa", sum := "0d3e0aefeef8fd00792212ea3aa67c5ea39d7e7d10af9f19b023d0533d564ea2", func := "loop.example/g00232/laws.FnExactJournalText", spec := "fnExactJournalText", apart := false, narrowed := true }
def FnExactJournalTextUptoSaid : Prop := fnExactJournalTextUptoRow.holds Try.pinned (OpenSpec.upto fnExactJournalTextSpec)

/-- 'laws.FnExactDoAct', WHERE WHAT IT READS IS OF BULK AT MOST 1048576: true; the input reads as it did. -/
def fnExactDoActUptoRow : OpenClaim := { program := "ytaainenplcokaaa", sum := "0d3e0aefeef8fd00792212ea3aa67c5ea39d7e7d10af9f19b023d0533d564ea2", func := "loop.example/g00232/laws.FnExactDoAct", spec := "fnExactDoAct", inPlace := ["slices.overlaps[loop.example/g00232/impl.File]"], unfollowed := true, recurses := true, apart := false, narrowed := true }
def FnExactDoActUptoSaid : Prop := fnExactDoActUptoRow.holds Try.pinned (OpenSpec.upto fnExactDoActSpec)

end Rows
end Go.Proofs.Ytaainenplcokaaa
