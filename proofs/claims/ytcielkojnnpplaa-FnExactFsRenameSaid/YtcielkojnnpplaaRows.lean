/-
  No cell of these rows narrows 'for every input' (looked for: loops, veiled, ifaces, maps, wideKeys, modest, calm, conditions, laid).
  DERIVED. THE GIVEN ROWS OF THIS SEAT. 5 by the template 'for every input the law returns true; each argument reads behind the call as it read before'; 0 by the template 'total and deterministic' (their statements: YtcielkojnnpplaaTotals.lean).
  GIVEN WITH THE SEED: the statements are not yours to turn. If you find one false, say at which input.
  Laid BY PROGRAM, IN A SANDBOX (cutbox-rows.mjs): the forced cells as the released guide's own fill.sh prints them over the translation 5bfba1861be27244… (all of the seat's roots in one cut). By AI agents, Wed Nov 11 2026. No macro, syntax, notation, axiom, sorry.
-/
import Derived.Test.YtcielkojnnpplaaChecked
import GoSem.Claim
import GoSem.ClaimJoined
import GoSem.ClaimMapViews
import Derived.JoinedTies
import Derived.KernelRfl
namespace Go.Proofs.Ytcielkojnnpplaa
/- THE CELL 'sum', in the pinned program and in every row, IS THE sha256 OF THE DUMP (.gsa) THAT YtcielkojnnpplaaProg.lean LOADS. Nothing in Lean hashes anything: it is a label: what it is worth is what the hold of that sum in a sandbox is worth. -/
noncomputable def Try.pinned : Pinned := { name := "ytcielkojnnpplaa", sum := "5bfba1861be272445ec5ddfdd63e0e8fe479a06b3777fcfd9a0b850eb5a98c8f", checked := Try.checked }
namespace Rows
def none {H : Type} : Left H := { results := [], args := [] }

/-- 'laws.FnFrames': WHATEVER THE INPUT: true; the input reads as it did. -/
def fnFramesSpec : ChangeSpec := { name := "fnFrames", fn := fun _ => fun
  | [d1, d2] => { results := [.lit (.bool true)], args := [d1, d2] }
  | _ => none }
def fnFramesRow : OpenClaim := { program := "ytcielkojnnpplaa", sum := "5bfba1861be272445ec5ddfdd63e0e8fe479a06b3777fcfd9a0b850eb5a98c8f", func := "loop.example/g00386/laws.FnFrames", spec := "fnFrames", inPlace := ["internal/abi.NoEscape"], apart := false }
def FnFramesSaid : Prop := fnFramesRow.holds Try.pinned (OpenSpec.ofChange fnFramesSpec)

/-- ITS FALSE NEIGHBOUR: 'it returns false'. Refute it at one input. -/
def fnFramesWrong : ChangeSpec := { name := "fnFrames", fn := fun _ => fun
  | [d1, d2] => { results := [.lit (.bool false)], args := [d1, d2] }
  | _ => none }
def FnFramesWrongFalsely : Prop := fnFramesRow.holds Try.pinned (OpenSpec.ofChange fnFramesWrong)

/-- 'laws.FnExactFsAppend': WHATEVER THE INPUT: true; the input reads as it did. -/
def fnExactFsAppendSpec : ChangeSpec := { name := "fnExactFsAppend", fn := fun _ => fun
  | [d1, d2, d3] => { results := [.lit (.bool true)], args := [d1, d2, d3] }
  | _ => none }
def fnExactFsAppendRow : OpenClaim := { program := "ytcielkojnnpplaa", sum := "5bfba1861be272445ec5ddfdd63e0e8fe479a06b3777fcfd9a0b850eb5a98c8f", func := "loop.example/g00386/laws.FnExactFsAppend", spec := "fnExactFsAppend", inPlace := ["internal/bytealg.abigen_runtime_cmpstring", "slices.overlaps[loop.example/g00386/impl.File]"], unfollowed := true, recurses := true, apart := false }
def FnExactFsAppendSaid : Prop := fnExactFsAppendRow.holds Try.pinned (OpenSpec.ofChange fnExactFsAppendSpec)

/-- ITS FALSE NEIGHBOUR: 'it returns false'. Refute it at one input. -/
def fnExactFsAppendWrong : ChangeSpec := { name := "fnExactFsAppend", fn := fun _ => fun
  | [d1, d2, d3] => { results := [.lit (.bool false)], args := [d1, d2, d3] }
  | _ => none }
def FnExactFsAppendWrongFalsely : Prop := fnExactFsAppendRow.holds Try.pinned (OpenSpec.ofChange fnExactFsAppendWrong)

/-- 'laws.FnExactFsRename': WHATEVER THE INPUT: true; the input reads as it did. -/
def fnExactFsRenameSpec : ChangeSpec := { name := "fnExactFsRename", fn := fun _ => fun
  | [d1, d2, d3] => { results := [.lit (.bool true)], args := [d1, d2, d3] }
  | _ => none }
def fnExactFsRenameRow : OpenClaim := { program := "ytcielkojnnpplaa", sum := "5bfba1861be272445ec5ddfdd63e0e8fe479a06b3777fcfd9a0b850eb5a98c8f", func := "loop.example/g00386/laws.FnExactFsRename", spec := "fnExactFsRename", inPlace := ["internal/bytealg.abigen_runtime_cmpstring", "slices.overlaps[loop.example/g00386/impl.File]"], unfollowed := true, recurses := true, apart := false }
def FnExactFsRenameSaid : Prop := fnExactFsRenameRow.holds Try.pinned (OpenSpec.ofChange fnExactFsRenameSpec)

/-- ITS FALSE NEIGHBOUR: 'it returns false'. Refute it at one input. -/
def fnExactFsRenameWrong : ChangeSpec := { name := "fnExactFsRename", fn := fun _ => fun
  | [d1, d2, d3] => { results := [.lit (.bool false)], args := [d1, d2, d3] }
  | _ => none }
def FnExactFsRenameWrongFalsely : Prop := fnExactFsRenameRow.holds Try.pinned (OpenSpec.ofChange fnExactFsRenameWrong)

/-- 'laws.FnFsCrash': WHATEVER THE INPUT: true; the input reads as it did. -/
def fnFsCrashSpec : ChangeSpec := { name := "fnFsCrash", fn := fun _ => fun
  | [d1, d2] => { results := [.lit (.bool true)], args := [d1, d2] }
  | _ => none }
def fnFsCrashRow : OpenClaim := { program := "ytcielkojnnpplaa", sum := "5bfba1861be272445ec5ddfdd63e0e8fe479a06b3777fcfd9a0b850eb5a98c8f", func := "loop.example/g00386/laws.FnFsCrash", spec := "fnFsCrash", inPlace := ["internal/bytealg.abigen_runtime_cmpstring"], unfollowed := true, recurses := true, apart := false }
def FnFsCrashSaid : Prop := fnFsCrashRow.holds Try.pinned (OpenSpec.ofChange fnFsCrashSpec)

/-- ITS FALSE NEIGHBOUR: 'it returns false'. Refute it at one input. -/
def fnFsCrashWrong : ChangeSpec := { name := "fnFsCrash", fn := fun _ => fun
  | [d1, d2] => { results := [.lit (.bool false)], args := [d1, d2] }
  | _ => none }
def FnFsCrashWrongFalsely : Prop := fnFsCrashRow.holds Try.pinned (OpenSpec.ofChange fnFsCrashWrong)

/-- 'laws.FnFs': WHATEVER THE INPUT: true; the input reads as it did. -/
def fnFsSpec : ChangeSpec := { name := "fnFs", fn := fun _ => fun
  | [d1, d2] => { results := [.lit (.bool true)], args := [d1, d2] }
  | _ => none }
def fnFsRow : OpenClaim := { program := "ytcielkojnnpplaa", sum := "5bfba1861be272445ec5ddfdd63e0e8fe479a06b3777fcfd9a0b850eb5a98c8f", func := "loop.example/g00386/laws.FnFs", spec := "fnFs", inPlace := ["internal/bytealg.abigen_runtime_cmpstring", "slices.overlaps[loop.example/g00386/impl.File]"], unfollowed := true, recurses := true, apart := false }
def FnFsSaid : Prop := fnFsRow.holds Try.pinned (OpenSpec.ofChange fnFsSpec)

/-- ITS FALSE NEIGHBOUR: 'it returns false'. Refute it at one input. -/
def fnFsWrong : ChangeSpec := { name := "fnFs", fn := fun _ => fun
  | [d1, d2] => { results := [.lit (.bool false)], args := [d1, d2] }
  | _ => none }
def FnFsWrongFalsely : Prop := fnFsRow.holds Try.pinned (OpenSpec.ofChange fnFsWrong)

/- THE SECOND FORM. 'bulk': how many values and letters a reading holds, each counted each time it is reached (what is shared counts as often as it is met; a slice's spare places count too). A statement '..UptoSaid' is the law's where the arguments, and the package variables that the reading takes, are together of bulk at most 1048576: NARROWER than '..Said'. Prove '..Said' where nothing that the law and all that it calls make is longer than what came in: it says more and counts as full. Else prove '..UptoSaid'. A law counts once. -/
mutual
def uptoBulk {H : Type} : DataW H → Nat
  | .lit (.string bytes) => bytes.length + 1
  | .lit _ => 1
  | .nil => 1
  | .ptr d => uptoBulk d + 1
  | .slice elems spare => uptoBulkAll elems + uptoBulkAll spare + 1
  | .agg parts => uptoBulkAll parts + 1
  | .iface _ d => uptoBulk d + 1
  | .map entries => uptoBulkEntries entries + 1
  | .held _ => 1
def uptoBulkAll {H : Type} : List (DataW H) → Nat
  | [] => 0
  | d :: r => uptoBulk d + uptoBulkAll r
def uptoBulkEntries {H : Type} : List (Lit × DataW H) → Nat
  | [] => 0
  | x :: r => uptoBulkEntry x + uptoBulkEntries r
def uptoBulkEntry {H : Type} : Lit × DataW H → Nat
  | (.string bytes, d) => bytes.length + uptoBulk d + 1
  | (_, d) => uptoBulk d + 1
 end
def uptoSmall : (H : Type) → List (DataW H) → Bool := fun _ ds => decide (uptoBulkAll ds ≤ 1048576)
def OpenSpec.upto (s : _root_.Go.ChangeSpec) : _root_.Go.OpenSpec := { _root_.Go.OpenSpec.ofChange s with cond := some uptoSmall }

/-- 'laws.FnFrames', WHERE WHAT IT READS IS OF BULK AT MOST 1048576: true; the input reads as it did. -/
def fnFramesUptoRow : OpenClaim := { program := "ytcielkojnnpplaa", sum := "5bfba1861be272445ec5ddfdd63e0e8fe479a06b3777fcfd9a0b850eb5a98c8f", func := "loop.example/g00386/laws.FnFrames", spec := "fnFrames", inPlace := ["internal/abi.NoEscape"], apart := false, narrowed := true }
def FnFramesUptoSaid : Prop := fnFramesUptoRow.holds Try.pinned (OpenSpec.upto fnFramesSpec)

/-- 'laws.FnExactFsAppend', WHERE WHAT IT READS IS OF BULK AT MOST 1048576: true; the input reads as it did. -/
def fnExactFsAppendUptoRow : OpenClaim := { program := "ytcielkojnnpplaa", sum := "5bfba1861be272445ec5ddfdd63e0e8fe479a06b3777fcfd9a0b850eb5a98c8f", func := "loop.example/g00386/laws.FnExactFsAppend", spec := "fnExactFsAppend", inPlace := ["internal/bytealg.abigen_runtime_cmpstring", "slices.overlaps[loop.example/g00386/impl.File]"], unfollowed := true, recurses := true, apart := false, narrowed := true }
def FnExactFsAppendUptoSaid : Prop := fnExactFsAppendUptoRow.holds Try.pinned (OpenSpec.upto fnExactFsAppendSpec)

/-- 'laws.FnExactFsRename', WHERE WHAT IT READS IS OF BULK AT MOST 1048576: true; the input reads as it did. -/
def fnExactFsRenameUptoRow : OpenClaim := { program := "ytcielkojnnpplaa", sum := "5bfba1861be272445ec5ddfdd63e0e8fe479a06b3777fcfd9a0b850eb5a98c8f", func := "loop.example/g00386/laws.FnExactFsRename", spec := "fnExactFsRename", inPlace := ["internal/bytealg.abigen_runtime_cmpstring", "slices.overlaps[loop.example/g00386/impl.File]"], unfollowed := true, recurses := true, apart := false, narrowed := true }
def FnExactFsRenameUptoSaid : Prop := fnExactFsRenameUptoRow.holds Try.pinned (OpenSpec.upto fnExactFsRenameSpec)

/-- 'laws.FnFsCrash', WHERE WHAT IT READS IS OF BULK AT MOST 1048576: true; the input reads as it did. -/
def fnFsCrashUptoRow : OpenClaim := { program := "ytcielkojnnpplaa", sum := "5bfba1861be272445ec5ddfdd63e0e8fe479a06b3777fcfd9a0b850eb5a98c8f", func := "loop.example/g00386/laws.FnFsCrash", spec := "fnFsCrash", inPlace := ["internal/bytealg.abigen_runtime_cmpstring"], unfollowed := true, recurses := true, apart := false, narrowed := true }
def FnFsCrashUptoSaid : Prop := fnFsCrashUptoRow.holds Try.pinned (OpenSpec.upto fnFsCrashSpec)

/-- 'laws.FnFs', WHERE WHAT IT READS IS OF BULK AT MOST 1048576: true; the input reads as it did. -/
def fnFsUptoRow : OpenClaim := { program := "ytcielkojnnpplaa", sum := "5bfba1861be272445ec5ddfdd63e0e8fe479a06b3777fcfd9a0b850eb5a98c8f", func := "loop.example/g00386/laws.FnFs", spec := "fnFs", inPlace := ["internal/bytealg.abigen_runtime_cmpstring", "slices.overlaps[loop.example/g00386/impl.File]"], unfollowed := true, recurses := true, apart := false, narrowed := true }
def FnFsUptoSaid : Prop := fnFsUptoRow.holds Try.pinned (OpenSpec.upto fnFsSpec)

end Rows
end Go.Proofs.Ytcielkojnnpplaa
