/- Words on rows, blocks and worlds that the walks of this claim use. -/
import Derived.Test.YtfijnlbkflmkbaaWN
/-! ### 52. A row that stays read whatever happens to a block (a set of blocks) doesn't lie there -/
namespace Go.Proofs.YtfijnlbkflmkbaaW.PrintWords
open Go.RowKit
namespace Kd
section
variable {α : Type} {d : Kd α} {W : World} {g n : Nat} {S ok : Nat → Prop} {A : Option Addr} {ad : Addr} {xs : List α}
end
end Kd
end Go.Proofs.YtfijnlbkflmkbaaW.PrintWords
