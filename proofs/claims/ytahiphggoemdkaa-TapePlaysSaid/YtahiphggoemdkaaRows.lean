/-
  No cell of these rows narrows 'for every input' (looked for: loops, veiled, ifaces, maps, wideKeys, modest, calm, conditions, laid).
  DERIVED. THE GIVEN ROWS OF THIS SEAT. 11 by the template 'for every input the law returns true; each argument reads behind the call as it read before'; 0 by the template 'total and deterministic' (their statements: YtahiphggoemdkaaTotals.lean).
  GIVEN WITH THE SEED: the statements are not yours to turn. If you find one false, say at which input.
  Laid BY PROGRAM, IN A SANDBOX (cutbox-rows.mjs): the forced cells as the released guide's own fill.sh prints them over the translation 7f68a3bc30ecd86c… (all of the seat's roots in one cut). By AI agents, Wed Nov 11 2026. No macro, syntax, notation, axiom, sorry.
-/
import Derived.Test.YtahiphggoemdkaaChecked
import GoSem.Claim
import GoSem.ClaimJoined
import GoSem.ClaimMapViews
import Derived.JoinedTies
import Derived.KernelRfl
namespace Go.Proofs.Ytahiphggoemdkaa
/- THE CELL 'sum', in the pinned program and in every row, IS THE sha256 OF THE DUMP (.gsa) THAT YtahiphggoemdkaaProg.lean LOADS. Nothing in Lean hashes anything: it is a label: what it is worth is what the hold of that sum in a sandbox is worth. -/
noncomputable def Try.pinned : Pinned := { name := "ytahiphggoemdkaa", sum := "7f68a3bc30ecd86c1d188bc41d2ccbedf5572dc1fad40c890c7ac43f70044f2b", checked := Try.checked }
namespace Rows
def none {H : Type} : Left H := { results := [], args := [] }

/-- 'visorlaw01.OctetBytes': WHATEVER THE INPUT: true; the input reads as it did. -/
def octetBytesSpec : ChangeSpec := { name := "octetBytes", fn := fun _ => fun
  | [d1, d2] => { results := [.lit (.bool true)], args := [d1, d2] }
  | _ => none }
def octetBytesRow : OpenClaim := { program := "ytahiphggoemdkaa", sum := "7f68a3bc30ecd86c1d188bc41d2ccbedf5572dc1fad40c890c7ac43f70044f2b", func := "visor/visorlaw01.OctetBytes", spec := "octetBytes", apart := false }
def OctetBytesSaid : Prop := octetBytesRow.holds Try.pinned (OpenSpec.ofChange octetBytesSpec)

/-- ITS FALSE NEIGHBOUR: 'it returns false'. Refute it at one input. -/
def octetBytesWrong : ChangeSpec := { name := "octetBytes", fn := fun _ => fun
  | [d1, d2] => { results := [.lit (.bool false)], args := [d1, d2] }
  | _ => none }
def OctetBytesWrongFalsely : Prop := octetBytesRow.holds Try.pinned (OpenSpec.ofChange octetBytesWrong)

/-- 'visorlaw01.OctetTells': WHATEVER THE INPUT: true; the input reads as it did. -/
def octetTellsSpec : ChangeSpec := { name := "octetTells", fn := fun _ => fun
  | [d1, d2, d3] => { results := [.lit (.bool true)], args := [d1, d2, d3] }
  | _ => none }
def octetTellsRow : OpenClaim := { program := "ytahiphggoemdkaa", sum := "7f68a3bc30ecd86c1d188bc41d2ccbedf5572dc1fad40c890c7ac43f70044f2b", func := "visor/visorlaw01.OctetTells", spec := "octetTells", apart := false }
def OctetTellsSaid : Prop := octetTellsRow.holds Try.pinned (OpenSpec.ofChange octetTellsSpec)

/-- ITS FALSE NEIGHBOUR: 'it returns false'. Refute it at one input. -/
def octetTellsWrong : ChangeSpec := { name := "octetTells", fn := fun _ => fun
  | [d1, d2, d3] => { results := [.lit (.bool false)], args := [d1, d2, d3] }
  | _ => none }
def OctetTellsWrongFalsely : Prop := octetTellsRow.holds Try.pinned (OpenSpec.ofChange octetTellsWrong)

/-- 'visorlaw01.OctetBack': WHATEVER THE INPUT: true; the input reads as it did. -/
def octetBackSpec : ChangeSpec := { name := "octetBack", fn := fun _ => fun
  | [d1, d2, d3, d4] => { results := [.lit (.bool true)], args := [d1, d2, d3, d4] }
  | _ => none }
def octetBackRow : OpenClaim := { program := "ytahiphggoemdkaa", sum := "7f68a3bc30ecd86c1d188bc41d2ccbedf5572dc1fad40c890c7ac43f70044f2b", func := "visor/visorlaw01.OctetBack", spec := "octetBack", apart := false }
def OctetBackSaid : Prop := octetBackRow.holds Try.pinned (OpenSpec.ofChange octetBackSpec)

/-- ITS FALSE NEIGHBOUR: 'it returns false'. Refute it at one input. -/
def octetBackWrong : ChangeSpec := { name := "octetBack", fn := fun _ => fun
  | [d1, d2, d3, d4] => { results := [.lit (.bool false)], args := [d1, d2, d3, d4] }
  | _ => none }
def OctetBackWrongFalsely : Prop := octetBackRow.holds Try.pinned (OpenSpec.ofChange octetBackWrong)

/-- 'visorlaw03.GfTells': WHATEVER THE INPUT: true; the input reads as it did. -/
def gfTellsSpec : ChangeSpec := { name := "gfTells", fn := fun _ => fun
  | [d1, d2, d3] => { results := [.lit (.bool true)], args := [d1, d2, d3] }
  | _ => none }
def gfTellsRow : OpenClaim := { program := "ytahiphggoemdkaa", sum := "7f68a3bc30ecd86c1d188bc41d2ccbedf5572dc1fad40c890c7ac43f70044f2b", func := "visor/visorlaw03.GfTells", spec := "gfTells", apart := false }
def GfTellsSaid : Prop := gfTellsRow.holds Try.pinned (OpenSpec.ofChange gfTellsSpec)

/-- ITS FALSE NEIGHBOUR: 'it returns false'. Refute it at one input. -/
def gfTellsWrong : ChangeSpec := { name := "gfTells", fn := fun _ => fun
  | [d1, d2, d3] => { results := [.lit (.bool false)], args := [d1, d2, d3] }
  | _ => none }
def GfTellsWrongFalsely : Prop := gfTellsRow.holds Try.pinned (OpenSpec.ofChange gfTellsWrong)

/-- 'visorlaw03.GfField': WHATEVER THE INPUT: true; the input reads as it did. -/
def gfFieldSpec : ChangeSpec := { name := "gfField", fn := fun _ => fun
  | [d1, d2, d3] => { results := [.lit (.bool true)], args := [d1, d2, d3] }
  | _ => none }
def gfFieldRow : OpenClaim := { program := "ytahiphggoemdkaa", sum := "7f68a3bc30ecd86c1d188bc41d2ccbedf5572dc1fad40c890c7ac43f70044f2b", func := "visor/visorlaw03.GfField", spec := "gfField", apart := false }
def GfFieldSaid : Prop := gfFieldRow.holds Try.pinned (OpenSpec.ofChange gfFieldSpec)

/-- ITS FALSE NEIGHBOUR: 'it returns false'. Refute it at one input. -/
def gfFieldWrong : ChangeSpec := { name := "gfField", fn := fun _ => fun
  | [d1, d2, d3] => { results := [.lit (.bool false)], args := [d1, d2, d3] }
  | _ => none }
def GfFieldWrongFalsely : Prop := gfFieldRow.holds Try.pinned (OpenSpec.ofChange gfFieldWrong)

/-- 'visorlaw03.GfLogs': WHATEVER THE INPUT: true; the input reads as it did. -/
def gfLogsSpec : ChangeSpec := { name := "gfLogs", fn := fun _ => fun
  | [d1, d2, d3] => { results := [.lit (.bool true)], args := [d1, d2, d3] }
  | _ => none }
def gfLogsRow : OpenClaim := { program := "ytahiphggoemdkaa", sum := "7f68a3bc30ecd86c1d188bc41d2ccbedf5572dc1fad40c890c7ac43f70044f2b", func := "visor/visorlaw03.GfLogs", spec := "gfLogs", apart := false }
def GfLogsSaid : Prop := gfLogsRow.holds Try.pinned (OpenSpec.ofChange gfLogsSpec)

/-- ITS FALSE NEIGHBOUR: 'it returns false'. Refute it at one input. -/
def gfLogsWrong : ChangeSpec := { name := "gfLogs", fn := fun _ => fun
  | [d1, d2, d3] => { results := [.lit (.bool false)], args := [d1, d2, d3] }
  | _ => none }
def GfLogsWrongFalsely : Prop := gfLogsRow.holds Try.pinned (OpenSpec.ofChange gfLogsWrong)

/-- 'visorlaw04.NibHalves': WHATEVER THE INPUT: true; the input reads as it did. -/
def nibHalvesSpec : ChangeSpec := { name := "nibHalves", fn := fun _ => fun
  | [d] => { results := [.lit (.bool true)], args := [d] }
  | _ => none }
def nibHalvesRow : OpenClaim := { program := "ytahiphggoemdkaa", sum := "7f68a3bc30ecd86c1d188bc41d2ccbedf5572dc1fad40c890c7ac43f70044f2b", func := "visor/visorlaw04.NibHalves", spec := "nibHalves", unfollowed := true, recurses := true, apart := false }
def NibHalvesSaid : Prop := nibHalvesRow.holds Try.pinned (OpenSpec.ofChange nibHalvesSpec)

/-- ITS FALSE NEIGHBOUR: 'it returns false'. Refute it at one input. -/
def nibHalvesWrong : ChangeSpec := { name := "nibHalves", fn := fun _ => fun
  | [d] => { results := [.lit (.bool false)], args := [d] }
  | _ => none }
def NibHalvesWrongFalsely : Prop := nibHalvesRow.holds Try.pinned (OpenSpec.ofChange nibHalvesWrong)

/-- 'visorlaw04.NibTells': WHATEVER THE INPUT: true; the input reads as it did. -/
def nibTellsSpec : ChangeSpec := { name := "nibTells", fn := fun _ => fun
  | [d1, d2, d3] => { results := [.lit (.bool true)], args := [d1, d2, d3] }
  | _ => none }
def nibTellsRow : OpenClaim := { program := "ytahiphggoemdkaa", sum := "7f68a3bc30ecd86c1d188bc41d2ccbedf5572dc1fad40c890c7ac43f70044f2b", func := "visor/visorlaw04.NibTells", spec := "nibTells", unfollowed := true, recurses := true, apart := false }
def NibTellsSaid : Prop := nibTellsRow.holds Try.pinned (OpenSpec.ofChange nibTellsSpec)

/-- ITS FALSE NEIGHBOUR: 'it returns false'. Refute it at one input. -/
def nibTellsWrong : ChangeSpec := { name := "nibTells", fn := fun _ => fun
  | [d1, d2, d3] => { results := [.lit (.bool false)], args := [d1, d2, d3] }
  | _ => none }
def NibTellsWrongFalsely : Prop := nibTellsRow.holds Try.pinned (OpenSpec.ofChange nibTellsWrong)

/-- 'visorlaw04.NibField': WHATEVER THE INPUT: true; the input reads as it did. -/
def nibFieldSpec : ChangeSpec := { name := "nibField", fn := fun _ => fun
  | [d1, d2, d3] => { results := [.lit (.bool true)], args := [d1, d2, d3] }
  | _ => none }
def nibFieldRow : OpenClaim := { program := "ytahiphggoemdkaa", sum := "7f68a3bc30ecd86c1d188bc41d2ccbedf5572dc1fad40c890c7ac43f70044f2b", func := "visor/visorlaw04.NibField", spec := "nibField", unfollowed := true, recurses := true, apart := false }
def NibFieldSaid : Prop := nibFieldRow.holds Try.pinned (OpenSpec.ofChange nibFieldSpec)

/-- ITS FALSE NEIGHBOUR: 'it returns false'. Refute it at one input. -/
def nibFieldWrong : ChangeSpec := { name := "nibField", fn := fun _ => fun
  | [d1, d2, d3] => { results := [.lit (.bool false)], args := [d1, d2, d3] }
  | _ => none }
def NibFieldWrongFalsely : Prop := nibFieldRow.holds Try.pinned (OpenSpec.ofChange nibFieldWrong)

/-- 'visorlaw02.TapeOnce': WHATEVER THE INPUT: true; the input reads as it did. -/
def tapeOnceSpec : ChangeSpec := { name := "tapeOnce", fn := fun _ => fun
  | [d1, d2] => { results := [.lit (.bool true)], args := [d1, d2] }
  | _ => none }
def tapeOnceRow : OpenClaim := { program := "ytahiphggoemdkaa", sum := "7f68a3bc30ecd86c1d188bc41d2ccbedf5572dc1fad40c890c7ac43f70044f2b", func := "visor/visorlaw02.TapeOnce", spec := "tapeOnce", inPlace := ["sync/atomic.LoadInt64", "sync/atomic.AddInt64"], apart := false }
def TapeOnceSaid : Prop := tapeOnceRow.holds Try.pinned (OpenSpec.ofChange tapeOnceSpec)

/-- ITS FALSE NEIGHBOUR: 'it returns false'. Refute it at one input. -/
def tapeOnceWrong : ChangeSpec := { name := "tapeOnce", fn := fun _ => fun
  | [d1, d2] => { results := [.lit (.bool false)], args := [d1, d2] }
  | _ => none }
def TapeOnceWrongFalsely : Prop := tapeOnceRow.holds Try.pinned (OpenSpec.ofChange tapeOnceWrong)

/-- 'visorlaw02.TapePlays': WHATEVER THE INPUT: true; the input reads as it did. -/
def tapePlaysSpec : ChangeSpec := { name := "tapePlays", fn := fun _ => fun
  | [d1, d2] => { results := [.lit (.bool true)], args := [d1, d2] }
  | _ => none }
def tapePlaysRow : OpenClaim := { program := "ytahiphggoemdkaa", sum := "7f68a3bc30ecd86c1d188bc41d2ccbedf5572dc1fad40c890c7ac43f70044f2b", func := "visor/visorlaw02.TapePlays", spec := "tapePlays", inPlace := ["sync/atomic.LoadInt64", "sync/atomic.AddInt64", "sync/atomic.StoreInt64"], apart := false }
def TapePlaysSaid : Prop := tapePlaysRow.holds Try.pinned (OpenSpec.ofChange tapePlaysSpec)

/-- ITS FALSE NEIGHBOUR: 'it returns false'. Refute it at one input. -/
def tapePlaysWrong : ChangeSpec := { name := "tapePlays", fn := fun _ => fun
  | [d1, d2] => { results := [.lit (.bool false)], args := [d1, d2] }
  | _ => none }
def TapePlaysWrongFalsely : Prop := tapePlaysRow.holds Try.pinned (OpenSpec.ofChange tapePlaysWrong)

/- THE SECOND FORM. 'bulk': how many values and letters a reading holds, each counted each time it is reached (what is shared counts as often as it is met; a slice's spare places count too). A statement '..UptoSaid' is the law's where the arguments, and the package variables that the reading takes, are together of bulk at most 1048576: NARROWER than '..Said'. Prove '..Said' where nothing that the law and all that it calls make is longer than what came in: it says more and counts as full. Else prove '..UptoSaid'. A law counts once. -/
mutual
def uptoBulk {H : Type} : DataW H → Nat
  | .lit (.string bytes) => bytes.length + 1
  | .lit _ => 1
  | .nil => 1
  | .ptr d => uptoBulk d + 1
  | .slice elems spare => uptoBulkAll elems + uptoBulkAll spare + 1
  | .agg parts => uptoBulkAll parts + 1
  | .iface _ d => uptoBulk d + 1
  | .map entries => uptoBulkEntries entries + 1
  | .held _ => 1
def uptoBulkAll {H : Type} : List (DataW H) → Nat
  | [] => 0
  | d :: r => uptoBulk d + uptoBulkAll r
def uptoBulkEntries {H : Type} : List (Lit × DataW H) → Nat
  | [] => 0
  | x :: r => uptoBulkEntry x + uptoBulkEntries r
def uptoBulkEntry {H : Type} : Lit × DataW H → Nat
  | (.string bytes, d) => bytes.length + uptoBulk d + 1
  | (_, d) => uptoBulk d + 1
 end
def uptoSmall : (H : Type) → List (DataW H) → Bool := fun _ ds => decide (uptoBulkAll ds ≤ 1048576)
def OpenSpec.upto (s : _root_.Go.ChangeSpec) : _root_.Go.OpenSpec := { _root_.Go.OpenSpec.ofChange s with cond := some uptoSmall }

/-- 'visorlaw01.OctetBytes', WHERE WHAT IT READS IS OF BULK AT MOST 1048576: true; the input reads as it did. -/
def octetBytesUptoRow : OpenClaim := { program := "ytahiphggoemdkaa", sum := "7f68a3bc30ecd86c1d188bc41d2ccbedf5572dc1fad40c890c7ac43f70044f2b", func := "visor/visorlaw01.OctetBytes", spec := "octetBytes", apart := false, narrowed := true }
def OctetBytesUptoSaid : Prop := octetBytesUptoRow.holds Try.pinned (OpenSpec.upto octetBytesSpec)

/-- 'visorlaw01.OctetTells', WHERE WHAT IT READS IS OF BULK AT MOST 1048576: true; the input reads as it did. -/
def octetTellsUptoRow : OpenClaim := { program := "ytahiphggoemdkaa", sum := "7f68a3bc30ecd86c1d188bc41d2ccbedf5572dc1fad40c890c7ac43f70044f2b", func := "visor/visorlaw01.OctetTells", spec := "octetTells", apart := false, narrowed := true }
def OctetTellsUptoSaid : Prop := octetTellsUptoRow.holds Try.pinned (OpenSpec.upto octetTellsSpec)

/-- 'visorlaw01.OctetBack', WHERE WHAT IT READS IS OF BULK AT MOST 1048576: true; the input reads as it did. -/
def octetBackUptoRow : OpenClaim := { program := "ytahiphggoemdkaa", sum := "7f68a3bc30ecd86c1d188bc41d2ccbedf5572dc1fad40c890c7ac43f70044f2b", func := "visor/visorlaw01.OctetBack", spec := "octetBack", apart := false, narrowed := true }
def OctetBackUptoSaid : Prop := octetBackUptoRow.holds Try.pinned (OpenSpec.upto octetBackSpec)

/-- 'visorlaw03.GfTells', WHERE WHAT IT READS IS OF BULK AT MOST 1048576: true; the input reads as it did. -/
def gfTellsUptoRow : OpenClaim := { program := "ytahiphggoemdkaa", sum := "7f68a3bc30ecd86c1d188bc41d2ccbedf5572dc1fad40c890c7ac43f70044f2b", func := "visor/visorlaw03.GfTells", spec := "gfTells", apart := false, narrowed := true }
def GfTellsUptoSaid : Prop := gfTellsUptoRow.holds Try.pinned (OpenSpec.upto gfTellsSpec)

/-- 'visorlaw03.GfField', WHERE WHAT IT READS IS OF BULK AT MOST 1048576: true; the input reads as it did. -/
def gfFieldUptoRow : OpenClaim := { program := "ytahiphggoemdkaa", sum := "7f68a3bc30ecd86c1d188bc41d2ccbedf5572dc1fad40c890c7ac43f70044f2b", func := "visor/visorlaw03.GfField", spec := "gfField", apart := false, narrowed := true }
def GfFieldUptoSaid : Prop := gfFieldUptoRow.holds Try.pinned (OpenSpec.upto gfFieldSpec)

/-- 'visorlaw03.GfLogs', WHERE WHAT IT READS IS OF BULK AT MOST 1048576: true; the input reads as it did. -/
def gfLogsUptoRow : OpenClaim := { program := "ytahiphggoemdkaa", sum := "7f68a3bc30ecd86c1d188bc41d2ccbedf5572dc1fad40c890c7ac43f70044f2b", func := "visor/visorlaw03.GfLogs", spec := "gfLogs", apart := false, narrowed := true }
def GfLogsUptoSaid : Prop := gfLogsUptoRow.holds Try.pinned (OpenSpec.upto gfLogsSpec)

/-- 'visorlaw04.NibHalves', WHERE WHAT IT READS IS OF BULK AT MOST 1048576: true; the input reads as it did. -/
def nibHalvesUptoRow : OpenClaim := { program := "ytahiphggoemdkaa", sum := "7f68a3bc30ecd86c1d188bc41d2ccbedf5572dc1fad40c890c7ac43f70044f2b", func := "visor/visorlaw04.NibHalves", spec := "nibHalves", unfollowed := true, recurses := true, apart := false, narrowed := true }
def NibHalvesUptoSaid : Prop := nibHalvesUptoRow.holds Try.pinned (OpenSpec.upto nibHalvesSpec)

/-- 'visorlaw04.NibTells', WHERE WHAT IT READS IS OF BULK AT MOST 1048576: true; the input reads as it did. -/
def nibTellsUptoRow : OpenClaim := { program := "ytahiphggoemdkaa", sum := "7f68a3bc30ecd86c1d188bc41d2ccbedf5572dc1fad40c890c7ac43f70044f2b", func := "visor/visorlaw04.NibTells", spec := "nibTells", unfollowed := true, recurses := true, apart := false, narrowed := true }
def NibTellsUptoSaid : Prop := nibTellsUptoRow.holds Try.pinned (OpenSpec.upto nibTellsSpec)

/-- 'visorlaw04.NibField', WHERE WHAT IT READS IS OF BULK AT MOST 1048576: true; the input reads as it did. -/
def nibFieldUptoRow : OpenClaim := { program := "ytahiphggoemdkaa", sum := "7f68a3bc30ecd86c1d188bc41d2ccbedf5572dc1fad40c890c7ac43f70044f2b", func := "visor/visorlaw04.NibField", spec := "nibField", unfollowed := true, recurses := true, apart := false, narrowed := true }
def NibFieldUptoSaid : Prop := nibFieldUptoRow.holds Try.pinned (OpenSpec.upto nibFieldSpec)

/-- 'visorlaw02.TapeOnce', WHERE WHAT IT READS IS OF BULK AT MOST 1048576: true; the input reads as it did. -/
def tapeOnceUptoRow : OpenClaim := { program := "ytahiphggoemdkaa", sum := "7f68a3bc30ecd86c1d188bc41d2ccbedf5572dc1fad40c890c7ac43f70044f2b", func := "visor/visorlaw02.TapeOnce", spec := "tapeOnce", inPlace := ["sync/atomic.LoadInt64", "sync/atomic.AddInt64"], apart := false, narrowed := true }
def TapeOnceUptoSaid : Prop := tapeOnceUptoRow.holds Try.pinned (OpenSpec.upto tapeOnceSpec)

/-- 'visorlaw02.TapePlays', WHERE WHAT IT READS IS OF BULK AT MOST 1048576: true; the input reads as it did. -/
def tapePlaysUptoRow : OpenClaim := { program := "ytahiphggoemdkaa", sum := "7f68a3bc30ecd86c1d188bc41d2ccbedf5572dc1fad40c890c7ac43f70044f2b", func := "visor/visorlaw02.TapePlays", spec := "tapePlays", inPlace := ["sync/atomic.LoadInt64", "sync/atomic.AddInt64", "sync/atomic.StoreInt64"], apart := false, narrowed := true }
def TapePlaysUptoSaid : Prop := tapePlaysUptoRow.holds Try.pinned (OpenSpec.upto tapePlaysSpec)

end Rows
end Go.Proofs.Ytahiphggoemdkaa
