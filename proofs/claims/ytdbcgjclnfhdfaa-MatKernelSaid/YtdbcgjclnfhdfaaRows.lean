/-
  No cell of these rows narrows 'for every input' (looked for: loops, veiled, ifaces, maps, wideKeys, modest, calm, conditions, laid).
  DERIVED. THE GIVEN ROWS OF THIS SEAT. 9 by the template 'for every input the law returns true; each argument reads behind the call as it read before'; 0 by the template 'total and deterministic' (their statements: YtdbcgjclnfhdfaaTotals.lean).
  GIVEN WITH THE SEED: the statements are not yours to turn. If you find one false, say at which input.
  Laid BY PROGRAM, IN A SANDBOX (cutbox-rows.mjs): the forced cells as the released guide's own fill.sh prints them over the translation b285f5c0e40ae85f… (all of the seat's roots in one cut). By AI agents, Wed Nov 11 2026. No macro, syntax, notation, axiom, sorry.
-/
import Derived.Test.YtdbcgjclnfhdfaaChecked
import GoSem.Claim
import GoSem.ClaimJoined
import GoSem.ClaimMapViews
import Derived.JoinedTies
import Derived.KernelRfl
namespace Go.Proofs.Ytdbcgjclnfhdfaa
/- THE CELL 'sum', in the pinned program and in every row, IS THE sha256 OF THE DUMP (.gsa) THAT YtdbcgjclnfhdfaaProg.lean LOADS. Nothing in Lean hashes anything: it is a label: what it is worth is what the hold of that sum in a sandbox is worth. -/
noncomputable def Try.pinned : Pinned := { name := "ytdbcgjclnfhdfaa", sum := "b285f5c0e40ae85ffb53d407ca4d3c82098921785ec6338392ba6adf3bdcd57b", checked := Try.checked }
namespace Rows
def none {H : Type} : Left H := { results := [], args := [] }

/-- 'visorlaw05.MatLinear': WHATEVER THE INPUT: true; the input reads as it did. -/
def matLinearSpec : ChangeSpec := { name := "matLinear", fn := fun _ => fun
  | [d1, d2, d3, d4] => { results := [.lit (.bool true)], args := [d1, d2, d3, d4] }
  | _ => none }
def matLinearRow : OpenClaim := { program := "ytdbcgjclnfhdfaa", sum := "b285f5c0e40ae85ffb53d407ca4d3c82098921785ec6338392ba6adf3bdcd57b", func := "visor/visorlaw05.MatLinear", spec := "matLinear", apart := false }
def MatLinearSaid : Prop := matLinearRow.holds Try.pinned (OpenSpec.ofChange matLinearSpec)

/-- ITS FALSE NEIGHBOUR: 'it returns false'. Refute it at one input. -/
def matLinearWrong : ChangeSpec := { name := "matLinear", fn := fun _ => fun
  | [d1, d2, d3, d4] => { results := [.lit (.bool false)], args := [d1, d2, d3, d4] }
  | _ => none }
def MatLinearWrongFalsely : Prop := matLinearRow.holds Try.pinned (OpenSpec.ofChange matLinearWrong)

/-- 'visorlaw05.MatTells': WHATEVER THE INPUT: true; the input reads as it did. -/
def matTellsSpec : ChangeSpec := { name := "matTells", fn := fun _ => fun
  | [d1, d2, d3] => { results := [.lit (.bool true)], args := [d1, d2, d3] }
  | _ => none }
def matTellsRow : OpenClaim := { program := "ytdbcgjclnfhdfaa", sum := "b285f5c0e40ae85ffb53d407ca4d3c82098921785ec6338392ba6adf3bdcd57b", func := "visor/visorlaw05.MatTells", spec := "matTells", apart := false }
def MatTellsSaid : Prop := matTellsRow.holds Try.pinned (OpenSpec.ofChange matTellsSpec)

/-- ITS FALSE NEIGHBOUR: 'it returns false'. Refute it at one input. -/
def matTellsWrong : ChangeSpec := { name := "matTells", fn := fun _ => fun
  | [d1, d2, d3] => { results := [.lit (.bool false)], args := [d1, d2, d3] }
  | _ => none }
def MatTellsWrongFalsely : Prop := matTellsRow.holds Try.pinned (OpenSpec.ofChange matTellsWrong)

/-- 'visorlaw05.MatKernel': WHATEVER THE INPUT: true; the input reads as it did. -/
def matKernelSpec : ChangeSpec := { name := "matKernel", fn := fun _ => fun
  | [d1, d2, d3] => { results := [.lit (.bool true)], args := [d1, d2, d3] }
  | _ => none }
def matKernelRow : OpenClaim := { program := "ytdbcgjclnfhdfaa", sum := "b285f5c0e40ae85ffb53d407ca4d3c82098921785ec6338392ba6adf3bdcd57b", func := "visor/visorlaw05.MatKernel", spec := "matKernel", apart := false }
def MatKernelSaid : Prop := matKernelRow.holds Try.pinned (OpenSpec.ofChange matKernelSpec)

/-- ITS FALSE NEIGHBOUR: 'it returns false'. Refute it at one input. -/
def matKernelWrong : ChangeSpec := { name := "matKernel", fn := fun _ => fun
  | [d1, d2, d3] => { results := [.lit (.bool false)], args := [d1, d2, d3] }
  | _ => none }
def MatKernelWrongFalsely : Prop := matKernelRow.holds Try.pinned (OpenSpec.ofChange matKernelWrong)

/-- 'visorlaw13.KeccakTells': WHATEVER THE INPUT: true; the input reads as it did. -/
def keccakTellsSpec : ChangeSpec := { name := "keccakTells", fn := fun _ => fun
  | [d1, d2, d3] => { results := [.lit (.bool true)], args := [d1, d2, d3] }
  | _ => none }
def keccakTellsRow : OpenClaim := { program := "ytdbcgjclnfhdfaa", sum := "b285f5c0e40ae85ffb53d407ca4d3c82098921785ec6338392ba6adf3bdcd57b", func := "visor/visorlaw13.KeccakTells", spec := "keccakTells", apart := false }
def KeccakTellsSaid : Prop := keccakTellsRow.holds Try.pinned (OpenSpec.ofChange keccakTellsSpec)

/-- ITS FALSE NEIGHBOUR: 'it returns false'. Refute it at one input. -/
def keccakTellsWrong : ChangeSpec := { name := "keccakTells", fn := fun _ => fun
  | [d1, d2, d3] => { results := [.lit (.bool false)], args := [d1, d2, d3] }
  | _ => none }
def KeccakTellsWrongFalsely : Prop := keccakTellsRow.holds Try.pinned (OpenSpec.ofChange keccakTellsWrong)

/-- 'visorlaw13.KeccakKeeps': WHATEVER THE INPUT: true; the input reads as it did. -/
def keccakKeepsSpec : ChangeSpec := { name := "keccakKeeps", fn := fun _ => fun
  | [d1, d2] => { results := [.lit (.bool true)], args := [d1, d2] }
  | _ => none }
def keccakKeepsRow : OpenClaim := { program := "ytdbcgjclnfhdfaa", sum := "b285f5c0e40ae85ffb53d407ca4d3c82098921785ec6338392ba6adf3bdcd57b", func := "visor/visorlaw13.KeccakKeeps", spec := "keccakKeeps", apart := false }
def KeccakKeepsSaid : Prop := keccakKeepsRow.holds Try.pinned (OpenSpec.ofChange keccakKeepsSpec)

/-- ITS FALSE NEIGHBOUR: 'it returns false'. Refute it at one input. -/
def keccakKeepsWrong : ChangeSpec := { name := "keccakKeeps", fn := fun _ => fun
  | [d1, d2] => { results := [.lit (.bool false)], args := [d1, d2] }
  | _ => none }
def KeccakKeepsWrongFalsely : Prop := keccakKeepsRow.holds Try.pinned (OpenSpec.ofChange keccakKeepsWrong)

/-- 'visorlaw13.KeccakBack': WHATEVER THE INPUT: true; the input reads as it did. -/
def keccakBackSpec : ChangeSpec := { name := "keccakBack", fn := fun _ => fun
  | [d] => { results := [.lit (.bool true)], args := [d] }
  | _ => none }
def keccakBackRow : OpenClaim := { program := "ytdbcgjclnfhdfaa", sum := "b285f5c0e40ae85ffb53d407ca4d3c82098921785ec6338392ba6adf3bdcd57b", func := "visor/visorlaw13.KeccakBack", spec := "keccakBack", apart := false }
def KeccakBackSaid : Prop := keccakBackRow.holds Try.pinned (OpenSpec.ofChange keccakBackSpec)

/-- ITS FALSE NEIGHBOUR: 'it returns false'. Refute it at one input. -/
def keccakBackWrong : ChangeSpec := { name := "keccakBack", fn := fun _ => fun
  | [d] => { results := [.lit (.bool false)], args := [d] }
  | _ => none }
def KeccakBackWrongFalsely : Prop := keccakBackRow.holds Try.pinned (OpenSpec.ofChange keccakBackWrong)

/-- 'visorlaw14.CodeBack': WHATEVER THE INPUT: true; the input reads as it did. -/
def codeBackSpec : ChangeSpec := { name := "codeBack", fn := fun _ => fun
  | [d1, d2, d3, d4] => { results := [.lit (.bool true)], args := [d1, d2, d3, d4] }
  | _ => none }
def codeBackRow : OpenClaim := { program := "ytdbcgjclnfhdfaa", sum := "b285f5c0e40ae85ffb53d407ca4d3c82098921785ec6338392ba6adf3bdcd57b", func := "visor/visorlaw14.CodeBack", spec := "codeBack", apart := false }
def CodeBackSaid : Prop := codeBackRow.holds Try.pinned (OpenSpec.ofChange codeBackSpec)

/-- ITS FALSE NEIGHBOUR: 'it returns false'. Refute it at one input. -/
def codeBackWrong : ChangeSpec := { name := "codeBack", fn := fun _ => fun
  | [d1, d2, d3, d4] => { results := [.lit (.bool false)], args := [d1, d2, d3, d4] }
  | _ => none }
def CodeBackWrongFalsely : Prop := codeBackRow.holds Try.pinned (OpenSpec.ofChange codeBackWrong)

/-- 'visorlaw14.CodeTells': WHATEVER THE INPUT: true; the input reads as it did. -/
def codeTellsSpec : ChangeSpec := { name := "codeTells", fn := fun _ => fun
  | [d1, d2] => { results := [.lit (.bool true)], args := [d1, d2] }
  | _ => none }
def codeTellsRow : OpenClaim := { program := "ytdbcgjclnfhdfaa", sum := "b285f5c0e40ae85ffb53d407ca4d3c82098921785ec6338392ba6adf3bdcd57b", func := "visor/visorlaw14.CodeTells", spec := "codeTells", recurses := true, apart := false }
def CodeTellsSaid : Prop := codeTellsRow.holds Try.pinned (OpenSpec.ofChange codeTellsSpec)

/-- ITS FALSE NEIGHBOUR: 'it returns false'. Refute it at one input. -/
def codeTellsWrong : ChangeSpec := { name := "codeTells", fn := fun _ => fun
  | [d1, d2] => { results := [.lit (.bool false)], args := [d1, d2] }
  | _ => none }
def CodeTellsWrongFalsely : Prop := codeTellsRow.holds Try.pinned (OpenSpec.ofChange codeTellsWrong)

/-- 'visorlaw14.CodeLists': WHATEVER THE INPUT: true; the input reads as it did. -/
def codeListsSpec : ChangeSpec := { name := "codeLists", fn := fun _ => fun
  | [d1, d2] => { results := [.lit (.bool true)], args := [d1, d2] }
  | _ => none }
def codeListsRow : OpenClaim := { program := "ytdbcgjclnfhdfaa", sum := "b285f5c0e40ae85ffb53d407ca4d3c82098921785ec6338392ba6adf3bdcd57b", func := "visor/visorlaw14.CodeLists", spec := "codeLists", recurses := true, apart := false }
def CodeListsSaid : Prop := codeListsRow.holds Try.pinned (OpenSpec.ofChange codeListsSpec)

/-- ITS FALSE NEIGHBOUR: 'it returns false'. Refute it at one input. -/
def codeListsWrong : ChangeSpec := { name := "codeLists", fn := fun _ => fun
  | [d1, d2] => { results := [.lit (.bool false)], args := [d1, d2] }
  | _ => none }
def CodeListsWrongFalsely : Prop := codeListsRow.holds Try.pinned (OpenSpec.ofChange codeListsWrong)

/- THE SECOND FORM. 'bulk': how many values and letters a reading holds, each counted each time it is reached (what is shared counts as often as it is met; a slice's spare places count too). A statement '..UptoSaid' is the law's where the arguments, and the package variables that the reading takes, are together of bulk at most 1048576: NARROWER than '..Said'. Prove '..Said' where nothing that the law and all that it calls make is longer than what came in: it says more and counts as full. Else prove '..UptoSaid'. A law counts once. -/
mutual
def uptoBulk {H : Type} : DataW H → Nat
  | .lit (.string bytes) => bytes.length + 1
  | .lit _ => 1
  | .nil => 1
  | .ptr d => uptoBulk d + 1
  | .slice elems spare => uptoBulkAll elems + uptoBulkAll spare + 1
  | .agg parts => uptoBulkAll parts + 1
  | .iface _ d => uptoBulk d + 1
  | .map entries => uptoBulkEntries entries + 1
  | .held _ => 1
def uptoBulkAll {H : Type} : List (DataW H) → Nat
  | [] => 0
  | d :: r => uptoBulk d + uptoBulkAll r
def uptoBulkEntries {H : Type} : List (Lit × DataW H) → Nat
  | [] => 0
  | x :: r => uptoBulkEntry x + uptoBulkEntries r
def uptoBulkEntry {H : Type} : Lit × DataW H → Nat
  | (.string bytes, d) => bytes.length + uptoBulk d + 1
  | (_, d) => uptoBulk d + 1
 end
def uptoSmall : (H : Type) → List (DataW H) → Bool := fun _ ds => decide (uptoBulkAll ds ≤ 1048576)
def OpenSpec.upto (s : _root_.Go.ChangeSpec) : _root_.Go.OpenSpec := { _root_.Go.OpenSpec.ofChange s with cond := some uptoSmall }

/-- 'visorlaw05.MatLinear', WHERE WHAT IT READS IS OF BULK AT MOST 1048576: true; the input reads as it did. -/
def matLinearUptoRow : OpenClaim := { program := "ytdbcgjclnfhdfaa", sum := "b285f5c0e40ae85ffb53d407ca4d3c82098921785ec6338392ba6adf3bdcd57b", func := "visor/visorlaw05.MatLinear", spec := "matLinear", apart := false, narrowed := true }
def MatLinearUptoSaid : Prop := matLinearUptoRow.holds Try.pinned (OpenSpec.upto matLinearSpec)

/-- 'visorlaw05.MatTells', WHERE WHAT IT READS IS OF BULK AT MOST 1048576: true; the input reads as it did. -/
def matTellsUptoRow : OpenClaim := { program := "ytdbcgjclnfhdfaa", sum := "b285f5c0e40ae85ffb53d407ca4d3c82098921785ec6338392ba6adf3bdcd57b", func := "visor/visorlaw05.MatTells", spec := "matTells", apart := false, narrowed := true }
def MatTellsUptoSaid : Prop := matTellsUptoRow.holds Try.pinned (OpenSpec.upto matTellsSpec)

/-- 'visorlaw05.MatKernel', WHERE WHAT IT READS IS OF BULK AT MOST 1048576: true; the input reads as it did. -/
def matKernelUptoRow : OpenClaim := { program := "ytdbcgjclnfhdfaa", sum := "b285f5c0e40ae85ffb53d407ca4d3c82098921785ec6338392ba6adf3bdcd57b", func := "visor/visorlaw05.MatKernel", spec := "matKernel", apart := false, narrowed := true }
def MatKernelUptoSaid : Prop := matKernelUptoRow.holds Try.pinned (OpenSpec.upto matKernelSpec)

/-- 'visorlaw13.KeccakTells', WHERE WHAT IT READS IS OF BULK AT MOST 1048576: true; the input reads as it did. -/
def keccakTellsUptoRow : OpenClaim := { program := "ytdbcgjclnfhdfaa", sum := "b285f5c0e40ae85ffb53d407ca4d3c82098921785ec6338392ba6adf3bdcd57b", func := "visor/visorlaw13.KeccakTells", spec := "keccakTells", apart := false, narrowed := true }
def KeccakTellsUptoSaid : Prop := keccakTellsUptoRow.holds Try.pinned (OpenSpec.upto keccakTellsSpec)

/-- 'visorlaw13.KeccakKeeps', WHERE WHAT IT READS IS OF BULK AT MOST 1048576: true; the input reads as it did. -/
def keccakKeepsUptoRow : OpenClaim := { program := "ytdbcgjclnfhdfaa", sum := "b285f5c0e40ae85ffb53d407ca4d3c82098921785ec6338392ba6adf3bdcd57b", func := "visor/visorlaw13.KeccakKeeps", spec := "keccakKeeps", apart := false, narrowed := true }
def KeccakKeepsUptoSaid : Prop := keccakKeepsUptoRow.holds Try.pinned (OpenSpec.upto keccakKeepsSpec)

/-- 'visorlaw13.KeccakBack', WHERE WHAT IT READS IS OF BULK AT MOST 1048576: true; the input reads as it did. -/
def keccakBackUptoRow : OpenClaim := { program := "ytdbcgjclnfhdfaa", sum := "b285f5c0e40ae85ffb53d407ca4d3c82098921785ec6338392ba6adf3bdcd57b", func := "visor/visorlaw13.KeccakBack", spec := "keccakBack", apart := false, narrowed := true }
def KeccakBackUptoSaid : Prop := keccakBackUptoRow.holds Try.pinned (OpenSpec.upto keccakBackSpec)

/-- 'visorlaw14.CodeBack', WHERE WHAT IT READS IS OF BULK AT MOST 1048576: true; the input reads as it did. -/
def codeBackUptoRow : OpenClaim := { program := "ytdbcgjclnfhdfaa", sum := "b285f5c0e40ae85ffb53d407ca4d3c82098921785ec6338392ba6adf3bdcd57b", func := "visor/visorlaw14.CodeBack", spec := "codeBack", apart := false, narrowed := true }
def CodeBackUptoSaid : Prop := codeBackUptoRow.holds Try.pinned (OpenSpec.upto codeBackSpec)

/-- 'visorlaw14.CodeTells', WHERE WHAT IT READS IS OF BULK AT MOST 1048576: true; the input reads as it did. -/
def codeTellsUptoRow : OpenClaim := { program := "ytdbcgjclnfhdfaa", sum := "b285f5c0e40ae85ffb53d407ca4d3c82098921785ec6338392ba6adf3bdcd57b", func := "visor/visorlaw14.CodeTells", spec := "codeTells", recurses := true, apart := false, narrowed := true }
def CodeTellsUptoSaid : Prop := codeTellsUptoRow.holds Try.pinned (OpenSpec.upto codeTellsSpec)

/-- 'visorlaw14.CodeLists', WHERE WHAT IT READS IS OF BULK AT MOST 1048576: true; the input reads as it did. -/
def codeListsUptoRow : OpenClaim := { program := "ytdbcgjclnfhdfaa", sum := "b285f5c0e40ae85ffb53d407ca4d3c82098921785ec6338392ba6adf3bdcd57b", func := "visor/visorlaw14.CodeLists", spec := "codeLists", recurses := true, apart := false, narrowed := true }
def CodeListsUptoSaid : Prop := codeListsUptoRow.holds Try.pinned (OpenSpec.upto codeListsSpec)

end Rows
end Go.Proofs.Ytdbcgjclnfhdfaa
