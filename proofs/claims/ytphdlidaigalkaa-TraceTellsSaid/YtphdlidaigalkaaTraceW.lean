/-
  The law TraceTells in the form that its row asks for. No condition.
-/
import Derived.Test.YtphdlidaigalkaaTraceL
import Derived.Test.YtphdlidaigalkaaTraceArg
namespace Go.Proofs.Ytphdlidaigalkaa.TraceW
open Go.RowKit Go.Proofs.Ytphdlidaigalkaa.PTt Go.Proofs.YtphdlidaigalkaaW.PrintWords TraceL TraceArg
theorem tells_walk (v : Value) (w : World) (h : IsTrace w v) : Calls Try.prog 3 #[v] w fun e w' => e = .returned (.bool true) ∧ Below w.heap.size w w' := by
  obtain ⟨n, A1, c1, l1, A2, c2, l2, rfl, h1, h2, h3, h4, h5, h6⟩ := h
  exact tells_c n A1 c1 l1 A2 c2 l2 w h1 h2 h3 h4 h5 h6
end Go.Proofs.Ytphdlidaigalkaa.TraceW
