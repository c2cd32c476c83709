import Derived.Test.YtpnehgajhpejjaaDoorKOpens
import Derived.Test.YtpnehgajhpejjaaDoorK13
namespace Go.Proofs.YtpnehgajhpejjaaDoor.K
open Go.RowKit Go.Proofs.YtpnehgajhpejjaaDoorW.PrintWords
def pledgelaw04_KeyBack.Pure : Prop := ∀ (x0 : Int) (x1 : Int), WK3 x0 → WK3 x1 → ∃ k : Nat, pledgelaw04_KeyBack.f k x0 x1 = some true
end Go.Proofs.YtpnehgajhpejjaaDoor.K
