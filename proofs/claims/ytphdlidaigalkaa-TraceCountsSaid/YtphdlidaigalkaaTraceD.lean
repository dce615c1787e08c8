/-
  The law TraceCounts in the form that its row asks for. No condition.
-/
import Derived.Test.YtphdlidaigalkaaTraceC
import Derived.Test.YtphdlidaigalkaaTraceArg
namespace Go.Proofs.Ytphdlidaigalkaa.TraceD
open Go.RowKit Go.Proofs.Ytphdlidaigalkaa.PTt Go.Proofs.YtphdlidaigalkaaW.PrintWords TraceC TraceArg
theorem counts_walk (v v' : Value) (w : World) (h : IsTrace w v) (h' : IsTrace w v') : Calls Try.prog 4 #[v, v'] w fun e w' => e = .returned (.bool true) ∧ Below w.heap.size w w' := by
  obtain ⟨n, A1, c1, l1, A2, c2, l2, rfl, h1, h2, h3, h4, h5, h6⟩ := h
  obtain ⟨m, B1, d1, k1, B2, d2, k2, rfl, g1, g2, g3, g4, g5, g6⟩ := h'
  exact counts_c n A1 c1 l1 A2 c2 l2 m B1 d1 k1 B2 d2 k2 w h1 h2 h3 h4 h5 h6 g1 g2 g3 g4 g5 g6
end Go.Proofs.Ytphdlidaigalkaa.TraceD
