/-
  What a call hands back, where it at most draws, and where it leaves what was there. Plain definitions.
-/
import Derived.Test.YtpdikfmdnlhllaaProg
import Derived.Test.YtpdikfmdnlhllaaWWords
namespace Go.Proofs.Ytpdikfmdnlhllaa.Gives
open Go.RowKit Go.Proofs.YtpdikfmdnlhllaaW.PrintWords
/-- A call of f at these arguments hands back v, and at most draws. -/
def Gives (f : FuncId) (args : Array Value) (v : Value) : Prop := ∀ w, Calls Try.prog f args w fun e w' => e = .returned v ∧ Drawn0 w w'
/-- .. and leaves what was there. -/
def GivesB (f : FuncId) (args : Array Value) (v : Value) : Prop := ∀ w, Calls Try.prog f args w fun e w' => e = .returned v ∧ Below w.heap.size w w'
theorem Gives.q {f : FuncId} {args : Array Value} {v : Value} (h : Gives f args v) (w : World) : Calls Try.prog f args w fun e w' => e = .returned v ∧ Drawn0 w w' := h w
theorem GivesB.q {f : FuncId} {args : Array Value} {v : Value} (h : GivesB f args v) (w : World) : Calls Try.prog f args w fun e w' => e = .returned v ∧ Below w.heap.size w w' := h w
theorem Gives.b {f : FuncId} {args : Array Value} {v : Value} (h : Gives f args v) : GivesB f args v := fun w => (h w).mono fun _ _ ⟨a, b⟩ => ⟨a, b.below⟩
end Go.Proofs.Ytpdikfmdnlhllaa.Gives
