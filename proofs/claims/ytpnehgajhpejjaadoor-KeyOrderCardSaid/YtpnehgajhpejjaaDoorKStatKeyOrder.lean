import Derived.Test.YtpnehgajhpejjaaDoorKOpens
import Derived.Test.YtpnehgajhpejjaaDoorK5
namespace Go.Proofs.YtpnehgajhpejjaaDoor.K
open Go.RowKit Go.Proofs.YtpnehgajhpejjaaDoorW.PrintWords
def pledgelaw04_KeyOrder.Pure : Prop := ∀ (x0 : S23) (x1 : S23) (x2 : S23), WK23 x0 → WK23 x1 → WK23 x2 → ∃ k : Nat, pledgelaw04_KeyOrder.f k x0.f0 x0.f1 x0.f2 x1.f0 x1.f1 x1.f2 x2.f0 x2.f1 x2.f2 = some true
end Go.Proofs.YtpnehgajhpejjaaDoor.K
