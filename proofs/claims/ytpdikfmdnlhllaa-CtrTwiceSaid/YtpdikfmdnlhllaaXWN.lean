-- Of the printed words: what this claim's proof uses.
import Derived.Test.YtpdikfmdnlhllaaXWShare
import Derived.Test.YtpdikfmdnlhllaaXWZeros
/-! ### 47. N: a row of the call's own whose elements share (what they lead to is only read) -/
namespace Go.Proofs.YtpdikfmdnlhllaaW.PrintWords
open Go.RowKit
namespace Kd
section
variable {α : Type} {d : Kd α} {e base n cc g : Nat} {ok ok' okp S : Nat → Prop} {w w1 W W1 : World} {A : Option Addr} {u v v1 : Value} {xs : List α} {x : α} {c : List Value}
end
end Kd
end Go.Proofs.YtpdikfmdnlhllaaW.PrintWords
