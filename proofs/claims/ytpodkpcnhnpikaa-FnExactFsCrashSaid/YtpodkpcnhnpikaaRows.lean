/-
  No cell of these rows narrows 'for every input' (looked for: loops, veiled, ifaces, maps, wideKeys, modest, calm, conditions, laid).
  DERIVED. THE GIVEN ROWS OF THIS SEAT. 18 by the template 'for every input the law returns true; each argument reads behind the call as it read before'; 0 by the template 'total and deterministic' (their statements: YtpodkpcnhnpikaaTotals.lean).
  GIVEN WITH THE SEED: the statements are not yours to turn. If you find one false, say at which input.
  Laid BY PROGRAM, IN A SANDBOX (cutbox-rows.mjs): the forced cells as the released guide's own fill.sh prints them over the translation 06207778fdfaefc7… (all of the seat's roots in one cut). By AI agents, Wed Nov 11 2026. No macro, syntax, notation, axiom, sorry.
-/
import Derived.Test.YtpodkpcnhnpikaaChecked
import GoSem.Claim
import GoSem.ClaimJoined
import GoSem.ClaimMapViews
import Derived.JoinedTies
import Derived.KernelRfl
namespace Go.Proofs.Ytpodkpcnhnpikaa
/- THE CELL 'sum', in the pinned program and in every row, IS THE sha256 OF THE DUMP (.gsa) THAT YtpodkpcnhnpikaaProg.lean LOADS. Nothing in Lean hashes anything: it is a label: what it is worth is what the hold of that sum in a sandbox is worth. -/
noncomputable def Try.pinned : Pinned := { name := "ytpodkpcnhnpikaa", sum := "06207778fdfaefc7b4ec32a923b6f6ec3bcb7dabdb09bfb52fc50a6c505259b4", checked := Try.checked }
namespace Rows
def none {H : Type} : Left H := { results := [], args := [] }

/-- 'laws.FnExactCommandRight': WHATEVER THE INPUT: true; the input reads as it did. -/
def fnExactCommandRightSpec : ChangeSpec := { name := "fnExactCommandRight", fn := fun _ => fun
  | [d] => { results := [.lit (.bool true)], args := [d] }
  | _ => none }
def fnExactCommandRightRow : OpenClaim := { program := "ytpodkpcnhnpikaa", sum := "06207778fdfaefc7b4ec32a923b6f6ec3bcb7dabdb09bfb52fc50a6c505259b4", func := "loop.example/g00386/laws.FnExactCommandRight", spec := "fnExactCommandRight", apart := false }
def FnExactCommandRightSaid : Prop := fnExactCommandRightRow.holds Try.pinned (OpenSpec.ofChange fnExactCommandRightSpec)

/-- ITS FALSE NEIGHBOUR: 'it returns false'. Refute it at one input. -/
def fnExactCommandRightWrong : ChangeSpec := { name := "fnExactCommandRight", fn := fun _ => fun
  | [d] => { results := [.lit (.bool false)], args := [d] }
  | _ => none }
def FnExactCommandRightWrongFalsely : Prop := fnExactCommandRightRow.holds Try.pinned (OpenSpec.ofChange fnExactCommandRightWrong)

/-- 'laws.FnExactFsRight': WHATEVER THE INPUT: true; the input reads as it did. -/
def fnExactFsRightSpec : ChangeSpec := { name := "fnExactFsRight", fn := fun _ => fun
  | [d] => { results := [.lit (.bool true)], args := [d] }
  | _ => none }
def fnExactFsRightRow : OpenClaim := { program := "ytpodkpcnhnpikaa", sum := "06207778fdfaefc7b4ec32a923b6f6ec3bcb7dabdb09bfb52fc50a6c505259b4", func := "loop.example/g00386/laws.FnExactFsRight", spec := "fnExactFsRight", apart := false }
def FnExactFsRightSaid : Prop := fnExactFsRightRow.holds Try.pinned (OpenSpec.ofChange fnExactFsRightSpec)

/-- ITS FALSE NEIGHBOUR: 'it returns false'. Refute it at one input. -/
def fnExactFsRightWrong : ChangeSpec := { name := "fnExactFsRight", fn := fun _ => fun
  | [d] => { results := [.lit (.bool false)], args := [d] }
  | _ => none }
def FnExactFsRightWrongFalsely : Prop := fnExactFsRightRow.holds Try.pinned (OpenSpec.ofChange fnExactFsRightWrong)

/-- 'laws.FnSeal': WHATEVER THE INPUT: true; the input reads as it did. -/
def fnSealSpec : ChangeSpec := { name := "fnSeal", fn := fun _ => fun
  | [d1, d2] => { results := [.lit (.bool true)], args := [d1, d2] }
  | _ => none }
def fnSealRow : OpenClaim := { program := "ytpodkpcnhnpikaa", sum := "06207778fdfaefc7b4ec32a923b6f6ec3bcb7dabdb09bfb52fc50a6c505259b4", func := "loop.example/g00386/laws.FnSeal", spec := "fnSeal", apart := false }
def FnSealSaid : Prop := fnSealRow.holds Try.pinned (OpenSpec.ofChange fnSealSpec)

/-- ITS FALSE NEIGHBOUR: 'it returns false'. Refute it at one input. -/
def fnSealWrong : ChangeSpec := { name := "fnSeal", fn := fun _ => fun
  | [d1, d2] => { results := [.lit (.bool false)], args := [d1, d2] }
  | _ => none }
def FnSealWrongFalsely : Prop := fnSealRow.holds Try.pinned (OpenSpec.ofChange fnSealWrong)

/-- 'laws.FnNums': WHATEVER THE INPUT: true; the input reads as it did. -/
def fnNumsSpec : ChangeSpec := { name := "fnNums", fn := fun _ => fun
  | [d1, d2] => { results := [.lit (.bool true)], args := [d1, d2] }
  | _ => none }
def fnNumsRow : OpenClaim := { program := "ytpodkpcnhnpikaa", sum := "06207778fdfaefc7b4ec32a923b6f6ec3bcb7dabdb09bfb52fc50a6c505259b4", func := "loop.example/g00386/laws.FnNums", spec := "fnNums", apart := false }
def FnNumsSaid : Prop := fnNumsRow.holds Try.pinned (OpenSpec.ofChange fnNumsSpec)

/-- ITS FALSE NEIGHBOUR: 'it returns false'. Refute it at one input. -/
def fnNumsWrong : ChangeSpec := { name := "fnNums", fn := fun _ => fun
  | [d1, d2] => { results := [.lit (.bool false)], args := [d1, d2] }
  | _ => none }
def FnNumsWrongFalsely : Prop := fnNumsRow.holds Try.pinned (OpenSpec.ofChange fnNumsWrong)

/-- 'laws.FnExactFramesOf': WHATEVER THE INPUT: true; the input reads as it did. -/
def fnExactFramesOfSpec : ChangeSpec := { name := "fnExactFramesOf", fn := fun _ => fun
  | [d] => { results := [.lit (.bool true)], args := [d] }
  | _ => none }
def fnExactFramesOfRow : OpenClaim := { program := "ytpodkpcnhnpikaa", sum := "06207778fdfaefc7b4ec32a923b6f6ec3bcb7dabdb09bfb52fc50a6c505259b4", func := "loop.example/g00386/laws.FnExactFramesOf", spec := "fnExactFramesOf", inPlace := ["internal/abi.NoEscape"], apart := false }
def FnExactFramesOfSaid : Prop := fnExactFramesOfRow.holds Try.pinned (OpenSpec.ofChange fnExactFramesOfSpec)

/-- ITS FALSE NEIGHBOUR: 'it returns false'. Refute it at one input. -/
def fnExactFramesOfWrong : ChangeSpec := { name := "fnExactFramesOf", fn := fun _ => fun
  | [d] => { results := [.lit (.bool false)], args := [d] }
  | _ => none }
def FnExactFramesOfWrongFalsely : Prop := fnExactFramesOfRow.holds Try.pinned (OpenSpec.ofChange fnExactFramesOfWrong)

/-- 'laws.FnExactFsNames': WHATEVER THE INPUT: true; the input reads as it did. -/
def fnExactFsNamesSpec : ChangeSpec := { name := "fnExactFsNames", fn := fun _ => fun
  | [d] => { results := [.lit (.bool true)], args := [d] }
  | _ => none }
def fnExactFsNamesRow : OpenClaim := { program := "ytpodkpcnhnpikaa", sum := "06207778fdfaefc7b4ec32a923b6f6ec3bcb7dabdb09bfb52fc50a6c505259b4", func := "loop.example/g00386/laws.FnExactFsNames", spec := "fnExactFsNames", apart := false }
def FnExactFsNamesSaid : Prop := fnExactFsNamesRow.holds Try.pinned (OpenSpec.ofChange fnExactFsNamesSpec)

/-- ITS FALSE NEIGHBOUR: 'it returns false'. Refute it at one input. -/
def fnExactFsNamesWrong : ChangeSpec := { name := "fnExactFsNames", fn := fun _ => fun
  | [d] => { results := [.lit (.bool false)], args := [d] }
  | _ => none }
def FnExactFsNamesWrongFalsely : Prop := fnExactFsNamesRow.holds Try.pinned (OpenSpec.ofChange fnExactFsNamesWrong)

/-- 'laws.FnExactFrameAt': WHATEVER THE INPUT: true; the input reads as it did. -/
def fnExactFrameAtSpec : ChangeSpec := { name := "fnExactFrameAt", fn := fun _ => fun
  | [d1, d2] => { results := [.lit (.bool true)], args := [d1, d2] }
  | _ => none }
def fnExactFrameAtRow : OpenClaim := { program := "ytpodkpcnhnpikaa", sum := "06207778fdfaefc7b4ec32a923b6f6ec3bcb7dabdb09bfb52fc50a6c505259b4", func := "loop.example/g00386/laws.FnExactFrameAt", spec := "fnExactFrameAt", apart := false }
def FnExactFrameAtSaid : Prop := fnExactFrameAtRow.holds Try.pinned (OpenSpec.ofChange fnExactFrameAtSpec)

/-- ITS FALSE NEIGHBOUR: 'it returns false'. Refute it at one input. -/
def fnExactFrameAtWrong : ChangeSpec := { name := "fnExactFrameAt", fn := fun _ => fun
  | [d1, d2] => { results := [.lit (.bool false)], args := [d1, d2] }
  | _ => none }
def FnExactFrameAtWrongFalsely : Prop := fnExactFrameAtRow.holds Try.pinned (OpenSpec.ofChange fnExactFrameAtWrong)

/-- 'laws.FnExactFsRead': WHATEVER THE INPUT: true; the input reads as it did. -/
def fnExactFsReadSpec : ChangeSpec := { name := "fnExactFsRead", fn := fun _ => fun
  | [d1, d2] => { results := [.lit (.bool true)], args := [d1, d2] }
  | _ => none }
def fnExactFsReadRow : OpenClaim := { program := "ytpodkpcnhnpikaa", sum := "06207778fdfaefc7b4ec32a923b6f6ec3bcb7dabdb09bfb52fc50a6c505259b4", func := "loop.example/g00386/laws.FnExactFsRead", spec := "fnExactFsRead", inPlace := ["internal/bytealg.abigen_runtime_cmpstring"], unfollowed := true, recurses := true, apart := false }
def FnExactFsReadSaid : Prop := fnExactFsReadRow.holds Try.pinned (OpenSpec.ofChange fnExactFsReadSpec)

/-- ITS FALSE NEIGHBOUR: 'it returns false'. Refute it at one input. -/
def fnExactFsReadWrong : ChangeSpec := { name := "fnExactFsRead", fn := fun _ => fun
  | [d1, d2] => { results := [.lit (.bool false)], args := [d1, d2] }
  | _ => none }
def FnExactFsReadWrongFalsely : Prop := fnExactFsReadRow.holds Try.pinned (OpenSpec.ofChange fnExactFsReadWrong)

/-- 'laws.FnExactFsCrash': WHATEVER THE INPUT: true; the input reads as it did. -/
def fnExactFsCrashSpec : ChangeSpec := { name := "fnExactFsCrash", fn := fun _ => fun
  | [d1, d2] => { results := [.lit (.bool true)], args := [d1, d2] }
  | _ => none }
def fnExactFsCrashRow : OpenClaim := { program := "ytpodkpcnhnpikaa", sum := "06207778fdfaefc7b4ec32a923b6f6ec3bcb7dabdb09bfb52fc50a6c505259b4", func := "loop.example/g00386/laws.FnExactFsCrash", spec := "fnExactFsCrash", apart := false }
def FnExactFsCrashSaid : Prop := fnExactFsCrashRow.holds Try.pinned (OpenSpec.ofChange fnExactFsCrashSpec)

/-- ITS FALSE NEIGHBOUR: 'it returns false'. Refute it at one input. -/
def fnExactFsCrashWrong : ChangeSpec := { name := "fnExactFsCrash", fn := fun _ => fun
  | [d1, d2] => { results := [.lit (.bool false)], args := [d1, d2] }
  | _ => none }
def FnExactFsCrashWrongFalsely : Prop := fnExactFsCrashRow.holds Try.pinned (OpenSpec.ofChange fnExactFsCrashWrong)

/-- 'laws.FnExactFramesRead': WHATEVER THE INPUT: true; the input reads as it did. -/
def fnExactFramesReadSpec : ChangeSpec := { name := "fnExactFramesRead", fn := fun _ => fun
  | [d] => { results := [.lit (.bool true)], args := [d] }
  | _ => none }
def fnExactFramesReadRow : OpenClaim := { program := "ytpodkpcnhnpikaa", sum := "06207778fdfaefc7b4ec32a923b6f6ec3bcb7dabdb09bfb52fc50a6c505259b4", func := "loop.example/g00386/laws.FnExactFramesRead", spec := "fnExactFramesRead", apart := false }
def FnExactFramesReadSaid : Prop := fnExactFramesReadRow.holds Try.pinned (OpenSpec.ofChange fnExactFramesReadSpec)

/-- ITS FALSE NEIGHBOUR: 'it returns false'. Refute it at one input. -/
def fnExactFramesReadWrong : ChangeSpec := { name := "fnExactFramesRead", fn := fun _ => fun
  | [d] => { results := [.lit (.bool false)], args := [d] }
  | _ => none }
def FnExactFramesReadWrongFalsely : Prop := fnExactFramesReadRow.holds Try.pinned (OpenSpec.ofChange fnExactFramesReadWrong)

/-- 'laws.FnExactFsSync': WHATEVER THE INPUT: true; the input reads as it did. -/
def fnExactFsSyncSpec : ChangeSpec := { name := "fnExactFsSync", fn := fun _ => fun
  | [d1, d2] => { results := [.lit (.bool true)], args := [d1, d2] }
  | _ => none }
def fnExactFsSyncRow : OpenClaim := { program := "ytpodkpcnhnpikaa", sum := "06207778fdfaefc7b4ec32a923b6f6ec3bcb7dabdb09bfb52fc50a6c505259b4", func := "loop.example/g00386/laws.FnExactFsSync", spec := "fnExactFsSync", inPlace := ["internal/bytealg.abigen_runtime_cmpstring"], unfollowed := true, recurses := true, apart := false }
def FnExactFsSyncSaid : Prop := fnExactFsSyncRow.holds Try.pinned (OpenSpec.ofChange fnExactFsSyncSpec)

/-- ITS FALSE NEIGHBOUR: 'it returns false'. Refute it at one input. -/
def fnExactFsSyncWrong : ChangeSpec := { name := "fnExactFsSync", fn := fun _ => fun
  | [d1, d2] => { results := [.lit (.bool false)], args := [d1, d2] }
  | _ => none }
def FnExactFsSyncWrongFalsely : Prop := fnExactFsSyncRow.holds Try.pinned (OpenSpec.ofChange fnExactFsSyncWrong)

/-- 'laws.FnExactFsRemove': WHATEVER THE INPUT: true; the input reads as it did. -/
def fnExactFsRemoveSpec : ChangeSpec := { name := "fnExactFsRemove", fn := fun _ => fun
  | [d1, d2] => { results := [.lit (.bool true)], args := [d1, d2] }
  | _ => none }
def fnExactFsRemoveRow : OpenClaim := { program := "ytpodkpcnhnpikaa", sum := "06207778fdfaefc7b4ec32a923b6f6ec3bcb7dabdb09bfb52fc50a6c505259b4", func := "loop.example/g00386/laws.FnExactFsRemove", spec := "fnExactFsRemove", inPlace := ["internal/bytealg.abigen_runtime_cmpstring"], unfollowed := true, recurses := true, apart := false }
def FnExactFsRemoveSaid : Prop := fnExactFsRemoveRow.holds Try.pinned (OpenSpec.ofChange fnExactFsRemoveSpec)

/-- ITS FALSE NEIGHBOUR: 'it returns false'. Refute it at one input. -/
def fnExactFsRemoveWrong : ChangeSpec := { name := "fnExactFsRemove", fn := fun _ => fun
  | [d1, d2] => { results := [.lit (.bool false)], args := [d1, d2] }
  | _ => none }
def FnExactFsRemoveWrongFalsely : Prop := fnExactFsRemoveRow.holds Try.pinned (OpenSpec.ofChange fnExactFsRemoveWrong)

/-- 'laws.FnExactFsCut': WHATEVER THE INPUT: true; the input reads as it did. -/
def fnExactFsCutSpec : ChangeSpec := { name := "fnExactFsCut", fn := fun _ => fun
  | [d1, d2, d3] => { results := [.lit (.bool true)], args := [d1, d2, d3] }
  | _ => none }
def fnExactFsCutRow : OpenClaim := { program := "ytpodkpcnhnpikaa", sum := "06207778fdfaefc7b4ec32a923b6f6ec3bcb7dabdb09bfb52fc50a6c505259b4", func := "loop.example/g00386/laws.FnExactFsCut", spec := "fnExactFsCut", inPlace := ["internal/bytealg.abigen_runtime_cmpstring"], unfollowed := true, recurses := true, apart := false }
def FnExactFsCutSaid : Prop := fnExactFsCutRow.holds Try.pinned (OpenSpec.ofChange fnExactFsCutSpec)

/-- ITS FALSE NEIGHBOUR: 'it returns false'. Refute it at one input. -/
def fnExactFsCutWrong : ChangeSpec := { name := "fnExactFsCut", fn := fun _ => fun
  | [d1, d2, d3] => { results := [.lit (.bool false)], args := [d1, d2, d3] }
  | _ => none }
def FnExactFsCutWrongFalsely : Prop := fnExactFsCutRow.holds Try.pinned (OpenSpec.ofChange fnExactFsCutWrong)

/-- 'laws.FnExactFsAppend': WHATEVER THE INPUT: true; the input reads as it did. -/
def fnExactFsAppendSpec : ChangeSpec := { name := "fnExactFsAppend", fn := fun _ => fun
  | [d1, d2, d3] => { results := [.lit (.bool true)], args := [d1, d2, d3] }
  | _ => none }
def fnExactFsAppendRow : OpenClaim := { program := "ytpodkpcnhnpikaa", sum := "06207778fdfaefc7b4ec32a923b6f6ec3bcb7dabdb09bfb52fc50a6c505259b4", func := "loop.example/g00386/laws.FnExactFsAppend", spec := "fnExactFsAppend", inPlace := ["internal/bytealg.abigen_runtime_cmpstring", "slices.overlaps[loop.example/g00386/impl.File]"], unfollowed := true, recurses := true, apart := false }
def FnExactFsAppendSaid : Prop := fnExactFsAppendRow.holds Try.pinned (OpenSpec.ofChange fnExactFsAppendSpec)

/-- ITS FALSE NEIGHBOUR: 'it returns false'. Refute it at one input. -/
def fnExactFsAppendWrong : ChangeSpec := { name := "fnExactFsAppend", fn := fun _ => fun
  | [d1, d2, d3] => { results := [.lit (.bool false)], args := [d1, d2, d3] }
  | _ => none }
def FnExactFsAppendWrongFalsely : Prop := fnExactFsAppendRow.holds Try.pinned (OpenSpec.ofChange fnExactFsAppendWrong)

/-- 'laws.FnExactFsRename': WHATEVER THE INPUT: true; the input reads as it did. -/
def fnExactFsRenameSpec : ChangeSpec := { name := "fnExactFsRename", fn := fun _ => fun
  | [d1, d2, d3] => { results := [.lit (.bool true)], args := [d1, d2, d3] }
  | _ => none }
def fnExactFsRenameRow : OpenClaim := { program := "ytpodkpcnhnpikaa", sum := "06207778fdfaefc7b4ec32a923b6f6ec3bcb7dabdb09bfb52fc50a6c505259b4", func := "loop.example/g00386/laws.FnExactFsRename", spec := "fnExactFsRename", inPlace := ["internal/bytealg.abigen_runtime_cmpstring", "slices.overlaps[loop.example/g00386/impl.File]"], unfollowed := true, recurses := true, apart := false }
def FnExactFsRenameSaid : Prop := fnExactFsRenameRow.holds Try.pinned (OpenSpec.ofChange fnExactFsRenameSpec)

/-- ITS FALSE NEIGHBOUR: 'it returns false'. Refute it at one input. -/
def fnExactFsRenameWrong : ChangeSpec := { name := "fnExactFsRename", fn := fun _ => fun
  | [d1, d2, d3] => { results := [.lit (.bool false)], args := [d1, d2, d3] }
  | _ => none }
def FnExactFsRenameWrongFalsely : Prop := fnExactFsRenameRow.holds Try.pinned (OpenSpec.ofChange fnExactFsRenameWrong)

/-- 'laws.FnFsCrash': WHATEVER THE INPUT: true; the input reads as it did. -/
def fnFsCrashSpec : ChangeSpec := { name := "fnFsCrash", fn := fun _ => fun
  | [d1, d2] => { results := [.lit (.bool true)], args := [d1, d2] }
  | _ => none }
def fnFsCrashRow : OpenClaim := { program := "ytpodkpcnhnpikaa", sum := "06207778fdfaefc7b4ec32a923b6f6ec3bcb7dabdb09bfb52fc50a6c505259b4", func := "loop.example/g00386/laws.FnFsCrash", spec := "fnFsCrash", inPlace := ["internal/bytealg.abigen_runtime_cmpstring"], unfollowed := true, recurses := true, apart := false }
def FnFsCrashSaid : Prop := fnFsCrashRow.holds Try.pinned (OpenSpec.ofChange fnFsCrashSpec)

/-- ITS FALSE NEIGHBOUR: 'it returns false'. Refute it at one input. -/
def fnFsCrashWrong : ChangeSpec := { name := "fnFsCrash", fn := fun _ => fun
  | [d1, d2] => { results := [.lit (.bool false)], args := [d1, d2] }
  | _ => none }
def FnFsCrashWrongFalsely : Prop := fnFsCrashRow.holds Try.pinned (OpenSpec.ofChange fnFsCrashWrong)

/-- 'laws.FnFrames': WHATEVER THE INPUT: true; the input reads as it did. -/
def fnFramesSpec : ChangeSpec := { name := "fnFrames", fn := fun _ => fun
  | [d1, d2] => { results := [.lit (.bool true)], args := [d1, d2] }
  | _ => none }
def fnFramesRow : OpenClaim := { program := "ytpodkpcnhnpikaa", sum := "06207778fdfaefc7b4ec32a923b6f6ec3bcb7dabdb09bfb52fc50a6c505259b4", func := "loop.example/g00386/laws.FnFrames", spec := "fnFrames", inPlace := ["internal/abi.NoEscape"], apart := false }
def FnFramesSaid : Prop := fnFramesRow.holds Try.pinned (OpenSpec.ofChange fnFramesSpec)

/-- ITS FALSE NEIGHBOUR: 'it returns false'. Refute it at one input. -/
def fnFramesWrong : ChangeSpec := { name := "fnFrames", fn := fun _ => fun
  | [d1, d2] => { results := [.lit (.bool false)], args := [d1, d2] }
  | _ => none }
def FnFramesWrongFalsely : Prop := fnFramesRow.holds Try.pinned (OpenSpec.ofChange fnFramesWrong)

/-- 'laws.FnFs': WHATEVER THE INPUT: true; the input reads as it did. -/
def fnFsSpec : ChangeSpec := { name := "fnFs", fn := fun _ => fun
  | [d1, d2] => { results := [.lit (.bool true)], args := [d1, d2] }
  | _ => none }
def fnFsRow : OpenClaim := { program := "ytpodkpcnhnpikaa", sum := "06207778fdfaefc7b4ec32a923b6f6ec3bcb7dabdb09bfb52fc50a6c505259b4", func := "loop.example/g00386/laws.FnFs", spec := "fnFs", inPlace := ["internal/bytealg.abigen_runtime_cmpstring", "slices.overlaps[loop.example/g00386/impl.File]"], unfollowed := true, recurses := true, apart := false }
def FnFsSaid : Prop := fnFsRow.holds Try.pinned (OpenSpec.ofChange fnFsSpec)

/-- ITS FALSE NEIGHBOUR: 'it returns false'. Refute it at one input. -/
def fnFsWrong : ChangeSpec := { name := "fnFs", fn := fun _ => fun
  | [d1, d2] => { results := [.lit (.bool false)], args := [d1, d2] }
  | _ => none }
def FnFsWrongFalsely : Prop := fnFsRow.holds Try.pinned (OpenSpec.ofChange fnFsWrong)

/- THE SECOND FORM. 'bulk': how many values and letters a reading holds, each counted each time it is reached (what is shared counts as often as it is met; a slice's spare places count too). A statement '..UptoSaid' is the law's where the arguments, and the package variables that the reading takes, are together of bulk at most 1048576: NARROWER than '..Said'. Prove '..Said' where nothing that the law and all that it calls make is longer than what came in: it says more and counts as full. Else prove '..UptoSaid'. A law counts once. -/
mutual
def uptoBulk {H : Type} : DataW H → Nat
  | .lit (.string bytes) => bytes.length + 1
  | .lit _ => 1
  | .nil => 1
  | .ptr d => uptoBulk d + 1
  | .slice elems spare => uptoBulkAll elems + uptoBulkAll spare + 1
  | .agg parts => uptoBulkAll parts + 1
  | .iface _ d => uptoBulk d + 1
  | .map entries => uptoBulkEntries entries + 1
  | .held _ => 1
def uptoBulkAll {H : Type} : List (DataW H) → Nat
  | [] => 0
  | d :: r => uptoBulk d + uptoBulkAll r
def uptoBulkEntries {H : Type} : List (Lit × DataW H) → Nat
  | [] => 0
  | x :: r => uptoBulkEntry x + uptoBulkEntries r
def uptoBulkEntry {H : Type} : Lit × DataW H → Nat
  | (.string bytes, d) => bytes.length + uptoBulk d + 1
  | (_, d) => uptoBulk d + 1
 end
def uptoSmall : (H : Type) → List (DataW H) → Bool := fun _ ds => decide (uptoBulkAll ds ≤ 1048576)
def OpenSpec.upto (s : _root_.Go.ChangeSpec) : _root_.Go.OpenSpec := { _root_.Go.OpenSpec.ofChange s with cond := some uptoSmall }

/-- 'laws.FnExactCommandRight', WHERE WHAT IT READS IS OF BULK AT MOST 1048576: true; the input reads as it did. -/
def fnExactCommandRightUptoRow : OpenClaim := { program := "ytpodkpcnhnpikaa", sum := "06207778fdfaefc7b4ec32a923b6f6ec3bcb7dabdb09bfb52fc50a6c505259b4", func := "loop.example/g00386/laws.FnExactCommandRight", spec := "fnExactCommandRight", apart := false, narrowed := true }
def FnExactCommandRightUptoSaid : Prop := fnExactCommandRightUptoRow.holds Try.pinned (OpenSpec.upto fnExactCommandRightSpec)

/-- 'laws.FnExactFsRight', WHERE WHAT IT READS IS OF BULK AT MOST 1048576: true; the input reads as it did. -/
def fnExactFsRightUptoRow : OpenClaim := { program := "ytpodkpcnhnpikaa", sum := "06207778fdfaefc7b4ec32a923b6f6ec3bcb7dabdb09bfb52fc50a6c505259b4", func := "loop.example/g00386/laws.FnExactFsRight", spec := "fnExactFsRight", apart := false, narrowed := true }
def FnExactFsRightUptoSaid : Prop := fnExactFsRightUptoRow.holds Try.pinned (OpenSpec.upto fnExactFsRightSpec)

/-- 'laws.FnSeal', WHERE WHAT IT READS IS OF BULK AT MOST 1048576: true; the input reads as it did. -/
def fnSealUptoRow : OpenClaim := { program := "ytpodkpcnhnpikaa", sum := "06207778fdfaefc7b4ec32a923b6f6ec3bcb7dabdb09bfb52fc50a6c505259b4", func := "loop.example/g00386/laws.FnSeal", spec := "fnSeal", apart := false, narrowed := true }
def FnSealUptoSaid : Prop := fnSealUptoRow.holds Try.pinned (OpenSpec.upto fnSealSpec)

/-- 'laws.FnNums', WHERE WHAT IT READS IS OF BULK AT MOST 1048576: true; the input reads as it did. -/
def fnNumsUptoRow : OpenClaim := { program := "ytpodkpcnhnpikaa", sum := "06207778fdfaefc7b4ec32a923b6f6ec3bcb7dabdb09bfb52fc50a6c505259b4", func := "loop.example/g00386/laws.FnNums", spec := "fnNums", apart := false, narrowed := true }
def FnNumsUptoSaid : Prop := fnNumsUptoRow.holds Try.pinned (OpenSpec.upto fnNumsSpec)

/-- 'laws.FnExactFramesOf', WHERE WHAT IT READS IS OF BULK AT MOST 1048576: true; the input reads as it did. -/
def fnExactFramesOfUptoRow : OpenClaim := { program := "ytpodkpcnhnpikaa", sum := "06207778fdfaefc7b4ec32a923b6f6ec3bcb7dabdb09bfb52fc50a6c505259b4", func := "loop.example/g00386/laws.FnExactFramesOf", spec := "fnExactFramesOf", inPlace := ["internal/abi.NoEscape"], apart := false, narrowed := true }
def FnExactFramesOfUptoSaid : Prop := fnExactFramesOfUptoRow.holds Try.pinned (OpenSpec.upto fnExactFramesOfSpec)

/-- 'laws.FnExactFsNames', WHERE WHAT IT READS IS OF BULK AT MOST 1048576: true; the input reads as it did. -/
def fnExactFsNamesUptoRow : OpenClaim := { program := "ytpodkpcnhnpikaa", sum := "06207778fdfaefc7b4ec32a923b6f6ec3bcb7dabdb09bfb52fc50a6c505259b4", func := "loop.example/g00386/laws.FnExactFsNames", spec := "fnExactFsNames", apart := false, narrowed := true }
def FnExactFsNamesUptoSaid : Prop := fnExactFsNamesUptoRow.holds Try.pinned (OpenSpec.upto fnExactFsNamesSpec)

/-- 'laws.FnExactFrameAt', WHERE WHAT IT READS IS OF BULK AT MOST 1048576: true; the input reads as it did. -/
def fnExactFrameAtUptoRow : OpenClaim := { program := "ytpodkpcnhnpikaa", sum := "06207778fdfaefc7b4ec32a923b6f6ec3bcb7dabdb09bfb52fc50a6c505259b4", func := "loop.example/g00386/laws.FnExactFrameAt", spec := "fnExactFrameAt", apart := false, narrowed := true }
def FnExactFrameAtUptoSaid : Prop := fnExactFrameAtUptoRow.holds Try.pinned (OpenSpec.upto fnExactFrameAtSpec)

/-- 'laws.FnExactFsRead', WHERE WHAT IT READS IS OF BULK AT MOST 1048576: true; the input reads as it did. -/
def fnExactFsReadUptoRow : OpenClaim := { program := "ytpodkpcnhnpikaa", sum := "06207778fdfaefc7b4ec32a923b6f6ec3bcb7dabdb09bfb52fc50a6c505259b4", func := "loop.example/g00386/laws.FnExactFsRead", spec := "fnExactFsRead", inPlace := ["internal/bytealg.abigen_runtime_cmpstring"], unfollowed := true, recurses := true, apart := false, narrowed := true }
def FnExactFsReadUptoSaid : Prop := fnExactFsReadUptoRow.holds Try.pinned (OpenSpec.upto fnExactFsReadSpec)

/-- 'laws.FnExactFsCrash', WHERE WHAT IT READS IS OF BULK AT MOST 1048576: true; the input reads as it did. -/
def fnExactFsCrashUptoRow : OpenClaim := { program := "ytpodkpcnhnpikaa", sum := "06207778fdfaefc7b4ec32a923b6f6ec3bcb7dabdb09bfb52fc50a6c505259b4", func := "loop.example/g00386/laws.FnExactFsCrash", spec := "fnExactFsCrash", apart := false, narrowed := true }
def FnExactFsCrashUptoSaid : Prop := fnExactFsCrashUptoRow.holds Try.pinned (OpenSpec.upto fnExactFsCrashSpec)

/-- 'laws.FnExactFramesRead', WHERE WHAT IT READS IS OF BULK AT MOST 1048576: true; the input reads as it did. -/
def fnExactFramesReadUptoRow : OpenClaim := { program := "ytpodkpcnhnpikaa", sum := "06207778fdfaefc7b4ec32a923b6f6ec3bcb7dabdb09bfb52fc50a6c505259b4", func := "loop.example/g00386/laws.FnExactFramesRead", spec := "fnExactFramesRead", apart := false, narrowed := true }
def FnExactFramesReadUptoSaid : Prop := fnExactFramesReadUptoRow.holds Try.pinned (OpenSpec.upto fnExactFramesReadSpec)

/-- 'laws.FnExactFsSync', WHERE WHAT IT READS IS OF BULK AT MOST 1048576: true; the input reads as it did. -/
def fnExactFsSyncUptoRow : OpenClaim := { program := "ytpodkpcnhnpikaa", sum := "06207778fdfaefc7b4ec32a923b6f6ec3bcb7dabdb09bfb52fc50a6c505259b4", func := "loop.example/g00386/laws.FnExactFsSync", spec := "fnExactFsSync", inPlace := ["internal/bytealg.abigen_runtime_cmpstring"], unfollowed := true, recurses := true, apart := false, narrowed := true }
def FnExactFsSyncUptoSaid : Prop := fnExactFsSyncUptoRow.holds Try.pinned (OpenSpec.upto fnExactFsSyncSpec)

/-- 'laws.FnExactFsRemove', WHERE WHAT IT READS IS OF BULK AT MOST 1048576: true; the input reads as it did. -/
def fnExactFsRemoveUptoRow : OpenClaim := { program := "ytpodkpcnhnpikaa", sum := "06207778fdfaefc7b4ec32a923b6f6ec3bcb7dabdb09bfb52fc50a6c505259b4", func := "loop.example/g00386/laws.FnExactFsRemove", spec := "fnExactFsRemove", inPlace := ["internal/bytealg.abigen_runtime_cmpstring"], unfollowed := true, recurses := true, apart := false, narrowed := true }
def FnExactFsRemoveUptoSaid : Prop := fnExactFsRemoveUptoRow.holds Try.pinned (OpenSpec.upto fnExactFsRemoveSpec)

/-- 'laws.FnExactFsCut', WHERE WHAT IT READS IS OF BULK AT MOST 1048576: true; the input reads as it did. -/
def fnExactFsCutUptoRow : OpenClaim := { program := "ytpodkpcnhnpikaa", sum := "06207778fdfaefc7b4ec32a923b6f6ec3bcb7dabdb09bfb52fc50a6c505259b4", func := "loop.example/g00386/laws.FnExactFsCut", spec := "fnExactFsCut", inPlace := ["internal/bytealg.abigen_runtime_cmpstring"], unfollowed := true, recurses := true, apart := false, narrowed := true }
def FnExactFsCutUptoSaid : Prop := fnExactFsCutUptoRow.holds Try.pinned (OpenSpec.upto fnExactFsCutSpec)

/-- 'laws.FnExactFsAppend', WHERE WHAT IT READS IS OF BULK AT MOST 1048576: true; the input reads as it did. -/
def fnExactFsAppendUptoRow : OpenClaim := { program := "ytpodkpcnhnpikaa", sum := "06207778fdfaefc7b4ec32a923b6f6ec3bcb7dabdb09bfb52fc50a6c505259b4", func := "loop.example/g00386/laws.FnExactFsAppend", spec := "fnExactFsAppend", inPlace := ["internal/bytealg.abigen_runtime_cmpstring", "slices.overlaps[loop.example/g00386/impl.File]"], unfollowed := true, recurses := true, apart := false, narrowed := true }
def FnExactFsAppendUptoSaid : Prop := fnExactFsAppendUptoRow.holds Try.pinned (OpenSpec.upto fnExactFsAppendSpec)

/-- 'laws.FnExactFsRename', WHERE WHAT IT READS IS OF BULK AT MOST 1048576: true; the input reads as it did. -/
def fnExactFsRenameUptoRow : OpenClaim := { program := "ytpodkpcnhnpikaa", sum := "06207778fdfaefc7b4ec32a923b6f6ec3bcb7dabdb09bfb52fc50a6c505259b4", func := "loop.example/g00386/laws.FnExactFsRename", spec := "fnExactFsRename", inPlace := ["internal/bytealg.abigen_runtime_cmpstring", "slices.overlaps[loop.example/g00386/impl.File]"], unfollowed := true, recurses := true, apart := false, narrowed := true }
def FnExactFsRenameUptoSaid : Prop := fnExactFsRenameUptoRow.holds Try.pinned (OpenSpec.upto fnExactFsRenameSpec)

/-- 'laws.FnFsCrash', WHERE WHAT IT READS IS OF BULK AT MOST 1048576: true; the input reads as it did. -/
def fnFsCrashUptoRow : OpenClaim := { program := "ytpodkpcnhnpikaa", sum := "06207778fdfaefc7b4ec32a923b6f6ec3bcb7dabdb09bfb52fc50a6c505259b4", func := "loop.example/g00386/laws.FnFsCrash", spec := "fnFsCrash", inPlace := ["internal/bytealg.abigen_runtime_cmpstring"], unfollowed := true, recurses := true, apart := false, narrowed := true }
def FnFsCrashUptoSaid : Prop := fnFsCrashUptoRow.holds Try.pinned (OpenSpec.upto fnFsCrashSpec)

/-- 'laws.FnFrames', WHERE WHAT IT READS IS OF BULK AT MOST 1048576: true; the input reads as it did. -/
def fnFramesUptoRow : OpenClaim := { program := "ytpodkpcnhnpikaa", sum := "06207778fdfaefc7b4ec32a923b6f6ec3bcb7dabdb09bfb52fc50a6c505259b4", func := "loop.example/g00386/laws.FnFrames", spec := "fnFrames", inPlace := ["internal/abi.NoEscape"], apart := false, narrowed := true }
def FnFramesUptoSaid : Prop := fnFramesUptoRow.holds Try.pinned (OpenSpec.upto fnFramesSpec)

/-- 'laws.FnFs', WHERE WHAT IT READS IS OF BULK AT MOST 1048576: true; the input reads as it did. -/
def fnFsUptoRow : OpenClaim := { program := "ytpodkpcnhnpikaa", sum := "06207778fdfaefc7b4ec32a923b6f6ec3bcb7dabdb09bfb52fc50a6c505259b4", func := "loop.example/g00386/laws.FnFs", spec := "fnFs", inPlace := ["internal/bytealg.abigen_runtime_cmpstring", "slices.overlaps[loop.example/g00386/impl.File]"], unfollowed := true, recurses := true, apart := false, narrowed := true }
def FnFsUptoSaid : Prop := fnFsUptoRow.holds Try.pinned (OpenSpec.upto fnFsSpec)

end Rows
end Go.Proofs.Ytpodkpcnhnpikaa
