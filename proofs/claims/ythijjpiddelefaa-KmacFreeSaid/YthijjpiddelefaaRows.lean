/-
  No cell of these rows narrows 'for every input' (looked for: loops, veiled, ifaces, maps, wideKeys, modest, calm, conditions, laid).
  DERIVED. THE GIVEN ROWS OF THIS SEAT. 9 by the template 'for every input the law returns true; each argument reads behind the call as it read before'; 0 by the template 'total and deterministic' (their statements: YthijjpiddelefaaTotals.lean).
  GIVEN WITH THE SEED: the statements are not yours to turn. If you find one false, say at which input.
  Laid BY PROGRAM, IN A SANDBOX (cutbox-rows.mjs): the forced cells as the released guide's own fill.sh prints them over the translation 9d2bac501c7b687f… (all of the seat's roots in one cut). By AI agents, Wed Nov 11 2026. No macro, syntax, notation, axiom, sorry.
-/
import Derived.Test.YthijjpiddelefaaChecked
import GoSem.Claim
import GoSem.ClaimJoined
import GoSem.ClaimMapViews
import Derived.JoinedTies
import Derived.KernelRfl
namespace Go.Proofs.Ythijjpiddelefaa
/- THE CELL 'sum', in the pinned program and in every row, IS THE sha256 OF THE DUMP (.gsa) THAT YthijjpiddelefaaProg.lean LOADS. Nothing in Lean hashes anything: it is a label: what it is worth is what the hold of that sum in a sandbox is worth. -/
noncomputable def Try.pinned : Pinned := { name := "ythijjpiddelefaa", sum := "9d2bac501c7b687fdcf538f5867bbe1b1bcc29cdb3902305f9d9633c16ad5b72", checked := Try.checked }
namespace Rows
def none {H : Type} : Left H := { results := [], args := [] }

/-- 'visorlaw14.CodeBack': WHATEVER THE INPUT: true; the input reads as it did. -/
def codeBackSpec : ChangeSpec := { name := "codeBack", fn := fun _ => fun
  | [d1, d2, d3, d4] => { results := [.lit (.bool true)], args := [d1, d2, d3, d4] }
  | _ => none }
def codeBackRow : OpenClaim := { program := "ythijjpiddelefaa", sum := "9d2bac501c7b687fdcf538f5867bbe1b1bcc29cdb3902305f9d9633c16ad5b72", func := "visor/visorlaw14.CodeBack", spec := "codeBack", apart := false }
def CodeBackSaid : Prop := codeBackRow.holds Try.pinned (OpenSpec.ofChange codeBackSpec)

/-- ITS FALSE NEIGHBOUR: 'it returns false'. Refute it at one input. -/
def codeBackWrong : ChangeSpec := { name := "codeBack", fn := fun _ => fun
  | [d1, d2, d3, d4] => { results := [.lit (.bool false)], args := [d1, d2, d3, d4] }
  | _ => none }
def CodeBackWrongFalsely : Prop := codeBackRow.holds Try.pinned (OpenSpec.ofChange codeBackWrong)

/-- 'visorlaw14.CodeTells': WHATEVER THE INPUT: true; the input reads as it did. -/
def codeTellsSpec : ChangeSpec := { name := "codeTells", fn := fun _ => fun
  | [d1, d2] => { results := [.lit (.bool true)], args := [d1, d2] }
  | _ => none }
def codeTellsRow : OpenClaim := { program := "ythijjpiddelefaa", sum := "9d2bac501c7b687fdcf538f5867bbe1b1bcc29cdb3902305f9d9633c16ad5b72", func := "visor/visorlaw14.CodeTells", spec := "codeTells", recurses := true, apart := false }
def CodeTellsSaid : Prop := codeTellsRow.holds Try.pinned (OpenSpec.ofChange codeTellsSpec)

/-- ITS FALSE NEIGHBOUR: 'it returns false'. Refute it at one input. -/
def codeTellsWrong : ChangeSpec := { name := "codeTells", fn := fun _ => fun
  | [d1, d2] => { results := [.lit (.bool false)], args := [d1, d2] }
  | _ => none }
def CodeTellsWrongFalsely : Prop := codeTellsRow.holds Try.pinned (OpenSpec.ofChange codeTellsWrong)

/-- 'visorlaw14.CodeLists': WHATEVER THE INPUT: true; the input reads as it did. -/
def codeListsSpec : ChangeSpec := { name := "codeLists", fn := fun _ => fun
  | [d1, d2] => { results := [.lit (.bool true)], args := [d1, d2] }
  | _ => none }
def codeListsRow : OpenClaim := { program := "ythijjpiddelefaa", sum := "9d2bac501c7b687fdcf538f5867bbe1b1bcc29cdb3902305f9d9633c16ad5b72", func := "visor/visorlaw14.CodeLists", spec := "codeLists", recurses := true, apart := false }
def CodeListsSaid : Prop := codeListsRow.holds Try.pinned (OpenSpec.ofChange codeListsSpec)

/-- ITS FALSE NEIGHBOUR: 'it returns false'. Refute it at one input. -/
def codeListsWrong : ChangeSpec := { name := "codeLists", fn := fun _ => fun
  | [d1, d2] => { results := [.lit (.bool false)], args := [d1, d2] }
  | _ => none }
def CodeListsWrongFalsely : Prop := codeListsRow.holds Try.pinned (OpenSpec.ofChange codeListsWrong)

/-- 'visorlaw15.SpongeTells': WHATEVER THE INPUT: true; the input reads as it did. -/
def spongeTellsSpec : ChangeSpec := { name := "spongeTells", fn := fun _ => fun
  | [d1, d2, d3, d4] => { results := [.lit (.bool true)], args := [d1, d2, d3, d4] }
  | _ => none }
def spongeTellsRow : OpenClaim := { program := "ythijjpiddelefaa", sum := "9d2bac501c7b687fdcf538f5867bbe1b1bcc29cdb3902305f9d9633c16ad5b72", func := "visor/visorlaw15.SpongeTells", spec := "spongeTells", unfollowed := true, recurses := true, apart := false }
def SpongeTellsSaid : Prop := spongeTellsRow.holds Try.pinned (OpenSpec.ofChange spongeTellsSpec)

/-- ITS FALSE NEIGHBOUR: 'it returns false'. Refute it at one input. -/
def spongeTellsWrong : ChangeSpec := { name := "spongeTells", fn := fun _ => fun
  | [d1, d2, d3, d4] => { results := [.lit (.bool false)], args := [d1, d2, d3, d4] }
  | _ => none }
def SpongeTellsWrongFalsely : Prop := spongeTellsRow.holds Try.pinned (OpenSpec.ofChange spongeTellsWrong)

/-- 'visorlaw15.SpongeGrows': WHATEVER THE INPUT: true; the input reads as it did. -/
def spongeGrowsSpec : ChangeSpec := { name := "spongeGrows", fn := fun _ => fun
  | [d1, d2, d3, d4] => { results := [.lit (.bool true)], args := [d1, d2, d3, d4] }
  | _ => none }
def spongeGrowsRow : OpenClaim := { program := "ythijjpiddelefaa", sum := "9d2bac501c7b687fdcf538f5867bbe1b1bcc29cdb3902305f9d9633c16ad5b72", func := "visor/visorlaw15.SpongeGrows", spec := "spongeGrows", unfollowed := true, recurses := true, apart := false }
def SpongeGrowsSaid : Prop := spongeGrowsRow.holds Try.pinned (OpenSpec.ofChange spongeGrowsSpec)

/-- ITS FALSE NEIGHBOUR: 'it returns false'. Refute it at one input. -/
def spongeGrowsWrong : ChangeSpec := { name := "spongeGrows", fn := fun _ => fun
  | [d1, d2, d3, d4] => { results := [.lit (.bool false)], args := [d1, d2, d3, d4] }
  | _ => none }
def SpongeGrowsWrongFalsely : Prop := spongeGrowsRow.holds Try.pinned (OpenSpec.ofChange spongeGrowsWrong)

/-- 'visorlaw15.SpongeHashes': WHATEVER THE INPUT: true; the input reads as it did. -/
def spongeHashesSpec : ChangeSpec := { name := "spongeHashes", fn := fun _ => fun
  | [d1, d2, d3] => { results := [.lit (.bool true)], args := [d1, d2, d3] }
  | _ => none }
def spongeHashesRow : OpenClaim := { program := "ythijjpiddelefaa", sum := "9d2bac501c7b687fdcf538f5867bbe1b1bcc29cdb3902305f9d9633c16ad5b72", func := "visor/visorlaw15.SpongeHashes", spec := "spongeHashes", unfollowed := true, recurses := true, apart := false }
def SpongeHashesSaid : Prop := spongeHashesRow.holds Try.pinned (OpenSpec.ofChange spongeHashesSpec)

/-- ITS FALSE NEIGHBOUR: 'it returns false'. Refute it at one input. -/
def spongeHashesWrong : ChangeSpec := { name := "spongeHashes", fn := fun _ => fun
  | [d1, d2, d3] => { results := [.lit (.bool false)], args := [d1, d2, d3] }
  | _ => none }
def SpongeHashesWrongFalsely : Prop := spongeHashesRow.holds Try.pinned (OpenSpec.ofChange spongeHashesWrong)

/-- 'visorlaw47.CostGrows': WHATEVER THE INPUT: true; the input reads as it did. -/
def costGrowsSpec : ChangeSpec := { name := "costGrows", fn := fun _ => fun
  | [d1, d2, d3] => { results := [.lit (.bool true)], args := [d1, d2, d3] }
  | _ => none }
def costGrowsRow : OpenClaim := { program := "ythijjpiddelefaa", sum := "9d2bac501c7b687fdcf538f5867bbe1b1bcc29cdb3902305f9d9633c16ad5b72", func := "visor/visorlaw47.CostGrows", spec := "costGrows", unfollowed := true, recurses := true, apart := false }
def CostGrowsSaid : Prop := costGrowsRow.holds Try.pinned (OpenSpec.ofChange costGrowsSpec)

/-- ITS FALSE NEIGHBOUR: 'it returns false'. Refute it at one input. -/
def costGrowsWrong : ChangeSpec := { name := "costGrows", fn := fun _ => fun
  | [d1, d2, d3] => { results := [.lit (.bool false)], args := [d1, d2, d3] }
  | _ => none }
def CostGrowsWrongFalsely : Prop := costGrowsRow.holds Try.pinned (OpenSpec.ofChange costGrowsWrong)

/-- 'visorlaw16.KmacTells': WHATEVER THE INPUT: true; the input reads as it did. -/
def kmacTellsSpec : ChangeSpec := { name := "kmacTells", fn := fun _ => fun
  | [d1, d2] => { results := [.lit (.bool true)], args := [d1, d2] }
  | _ => none }
def kmacTellsRow : OpenClaim := { program := "ythijjpiddelefaa", sum := "9d2bac501c7b687fdcf538f5867bbe1b1bcc29cdb3902305f9d9633c16ad5b72", func := "visor/visorlaw16.KmacTells", spec := "kmacTells", unfollowed := true, recurses := true, apart := false }
def KmacTellsSaid : Prop := kmacTellsRow.holds Try.pinned (OpenSpec.ofChange kmacTellsSpec)

/-- ITS FALSE NEIGHBOUR: 'it returns false'. Refute it at one input. -/
def kmacTellsWrong : ChangeSpec := { name := "kmacTells", fn := fun _ => fun
  | [d1, d2] => { results := [.lit (.bool false)], args := [d1, d2] }
  | _ => none }
def KmacTellsWrongFalsely : Prop := kmacTellsRow.holds Try.pinned (OpenSpec.ofChange kmacTellsWrong)

/-- 'visorlaw16.KmacFree': WHATEVER THE INPUT: true; the input reads as it did. -/
def kmacFreeSpec : ChangeSpec := { name := "kmacFree", fn := fun _ => fun
  | [d1, d2, d3, d4] => { results := [.lit (.bool true)], args := [d1, d2, d3, d4] }
  | _ => none }
def kmacFreeRow : OpenClaim := { program := "ythijjpiddelefaa", sum := "9d2bac501c7b687fdcf538f5867bbe1b1bcc29cdb3902305f9d9633c16ad5b72", func := "visor/visorlaw16.KmacFree", spec := "kmacFree", unfollowed := true, recurses := true, apart := false }
def KmacFreeSaid : Prop := kmacFreeRow.holds Try.pinned (OpenSpec.ofChange kmacFreeSpec)

/-- ITS FALSE NEIGHBOUR: 'it returns false'. Refute it at one input. -/
def kmacFreeWrong : ChangeSpec := { name := "kmacFree", fn := fun _ => fun
  | [d1, d2, d3, d4] => { results := [.lit (.bool false)], args := [d1, d2, d3, d4] }
  | _ => none }
def KmacFreeWrongFalsely : Prop := kmacFreeRow.holds Try.pinned (OpenSpec.ofChange kmacFreeWrong)

/- THE SECOND FORM. 'bulk': how many values and letters a reading holds, each counted each time it is reached (what is shared counts as often as it is met; a slice's spare places count too). A statement '..UptoSaid' is the law's where the arguments, and the package variables that the reading takes, are together of bulk at most 1048576: NARROWER than '..Said'. Prove '..Said' where nothing that the law and all that it calls make is longer than what came in: it says more and counts as full. Else prove '..UptoSaid'. A law counts once. -/
mutual
def uptoBulk {H : Type} : DataW H → Nat
  | .lit (.string bytes) => bytes.length + 1
  | .lit _ => 1
  | .nil => 1
  | .ptr d => uptoBulk d + 1
  | .slice elems spare => uptoBulkAll elems + uptoBulkAll spare + 1
  | .agg parts => uptoBulkAll parts + 1
  | .iface _ d => uptoBulk d + 1
  | .map entries => uptoBulkEntries entries + 1
  | .held _ => 1
def uptoBulkAll {H : Type} : List (DataW H) → Nat
  | [] => 0
  | d :: r => uptoBulk d + uptoBulkAll r
def uptoBulkEntries {H : Type} : List (Lit × DataW H) → Nat
  | [] => 0
  | x :: r => uptoBulkEntry x + uptoBulkEntries r
def uptoBulkEntry {H : Type} : Lit × DataW H → Nat
  | (.string bytes, d) => bytes.length + uptoBulk d + 1
  | (_, d) => uptoBulk d + 1
 end
def uptoSmall : (H : Type) → List (DataW H) → Bool := fun _ ds => decide (uptoBulkAll ds ≤ 1048576)
def OpenSpec.upto (s : _root_.Go.ChangeSpec) : _root_.Go.OpenSpec := { _root_.Go.OpenSpec.ofChange s with cond := some uptoSmall }

/-- 'visorlaw14.CodeBack', WHERE WHAT IT READS IS OF BULK AT MOST 1048576: true; the input reads as it did. -/
def codeBackUptoRow : OpenClaim := { program := "ythijjpiddelefaa", sum := "9d2bac501c7b687fdcf538f5867bbe1b1bcc29cdb3902305f9d9633c16ad5b72", func := "visor/visorlaw14.CodeBack", spec := "codeBack", apart := false, narrowed := true }
def CodeBackUptoSaid : Prop := codeBackUptoRow.holds Try.pinned (OpenSpec.upto codeBackSpec)

/-- 'visorlaw14.CodeTells', WHERE WHAT IT READS IS OF BULK AT MOST 1048576: true; the input reads as it did. -/
def codeTellsUptoRow : OpenClaim := { program := "ythijjpiddelefaa", sum := "9d2bac501c7b687fdcf538f5867bbe1b1bcc29cdb3902305f9d9633c16ad5b72", func := "visor/visorlaw14.CodeTells", spec := "codeTells", recurses := true, apart := false, narrowed := true }
def CodeTellsUptoSaid : Prop := codeTellsUptoRow.holds Try.pinned (OpenSpec.upto codeTellsSpec)

/-- 'visorlaw14.CodeLists', WHERE WHAT IT READS IS OF BULK AT MOST 1048576: true; the input reads as it did. -/
def codeListsUptoRow : OpenClaim := { program := "ythijjpiddelefaa", sum := "9d2bac501c7b687fdcf538f5867bbe1b1bcc29cdb3902305f9d9633c16ad5b72", func := "visor/visorlaw14.CodeLists", spec := "codeLists", recurses := true, apart := false, narrowed := true }
def CodeListsUptoSaid : Prop := codeListsUptoRow.holds Try.pinned (OpenSpec.upto codeListsSpec)

/-- 'visorlaw15.SpongeTells', WHERE WHAT IT READS IS OF BULK AT MOST 1048576: true; the input reads as it did. -/
def spongeTellsUptoRow : OpenClaim := { program := "ythijjpiddelefaa", sum := "9d2bac501c7b687fdcf538f5867bbe1b1bcc29cdb3902305f9d9633c16ad5b72", func := "visor/visorlaw15.SpongeTells", spec := "spongeTells", unfollowed := true, recurses := true, apart := false, narrowed := true }
def SpongeTellsUptoSaid : Prop := spongeTellsUptoRow.holds Try.pinned (OpenSpec.upto spongeTellsSpec)

/-- 'visorlaw15.SpongeGrows', WHERE WHAT IT READS IS OF BULK AT MOST 1048576: true; the input reads as it did. -/
def spongeGrowsUptoRow : OpenClaim := { program := "ythijjpiddelefaa", sum := "9d2bac501c7b687fdcf538f5867bbe1b1bcc29cdb3902305f9d9633c16ad5b72", func := "visor/visorlaw15.SpongeGrows", spec := "spongeGrows", unfollowed := true, recurses := true, apart := false, narrowed := true }
def SpongeGrowsUptoSaid : Prop := spongeGrowsUptoRow.holds Try.pinned (OpenSpec.upto spongeGrowsSpec)

/-- 'visorlaw15.SpongeHashes', WHERE WHAT IT READS IS OF BULK AT MOST 1048576: true; the input reads as it did. -/
def spongeHashesUptoRow : OpenClaim := { program := "ythijjpiddelefaa", sum := "9d2bac501c7b687fdcf538f5867bbe1b1bcc29cdb3902305f9d9633c16ad5b72", func := "visor/visorlaw15.SpongeHashes", spec := "spongeHashes", unfollowed := true, recurses := true, apart := false, narrowed := true }
def SpongeHashesUptoSaid : Prop := spongeHashesUptoRow.holds Try.pinned (OpenSpec.upto spongeHashesSpec)

/-- 'visorlaw47.CostGrows', WHERE WHAT IT READS IS OF BULK AT MOST 1048576: true; the input reads as it did. -/
def costGrowsUptoRow : OpenClaim := { program := "ythijjpiddelefaa", sum := "9d2bac501c7b687fdcf538f5867bbe1b1bcc29cdb3902305f9d9633c16ad5b72", func := "visor/visorlaw47.CostGrows", spec := "costGrows", unfollowed := true, recurses := true, apart := false, narrowed := true }
def CostGrowsUptoSaid : Prop := costGrowsUptoRow.holds Try.pinned (OpenSpec.upto costGrowsSpec)

/-- 'visorlaw16.KmacTells', WHERE WHAT IT READS IS OF BULK AT MOST 1048576: true; the input reads as it did. -/
def kmacTellsUptoRow : OpenClaim := { program := "ythijjpiddelefaa", sum := "9d2bac501c7b687fdcf538f5867bbe1b1bcc29cdb3902305f9d9633c16ad5b72", func := "visor/visorlaw16.KmacTells", spec := "kmacTells", unfollowed := true, recurses := true, apart := false, narrowed := true }
def KmacTellsUptoSaid : Prop := kmacTellsUptoRow.holds Try.pinned (OpenSpec.upto kmacTellsSpec)

/-- 'visorlaw16.KmacFree', WHERE WHAT IT READS IS OF BULK AT MOST 1048576: true; the input reads as it did. -/
def kmacFreeUptoRow : OpenClaim := { program := "ythijjpiddelefaa", sum := "9d2bac501c7b687fdcf538f5867bbe1b1bcc29cdb3902305f9d9633c16ad5b72", func := "visor/visorlaw16.KmacFree", spec := "kmacFree", unfollowed := true, recurses := true, apart := false, narrowed := true }
def KmacFreeUptoSaid : Prop := kmacFreeUptoRow.holds Try.pinned (OpenSpec.upto kmacFreeSpec)

end Rows
end Go.Proofs.Ythijjpiddelefaa
