/- The program's NewDesk returns what the reference's returns. -/
import Derived.Test.YtnlhhbnoccobmaaFx4
namespace Go.Proofs.Ytnlhhbnoccobmaa.Pure
open Go.RowKit Go.Proofs.Ytnlhhbnoccobmaa.F
theorem FnExactNewDesk : laws_FnExactNewDesk.f = some true := rfl
end Go.Proofs.Ytnlhhbnoccobmaa.Pure
