import Derived.Test.YtpnehgajhpejjaaDoorKOpens
import Derived.Test.YtpnehgajhpejjaaDoorK9
namespace Go.Proofs.YtpnehgajhpejjaaDoor.K
open Go.RowKit Go.Proofs.YtpnehgajhpejjaaDoorW.PrintWords
def pledgelaw04_KeyGood.Pure : Prop := ∀ (x0 : Int) (x1 : Int) (x2 : S23), WK3 x0 → WK3 x1 → WK23 x2 → ∃ k : Nat, pledgelaw04_KeyGood.f k x0 x1 x2.f0 x2.f1 x2.f2 = some true
end Go.Proofs.YtpnehgajhpejjaaDoor.K
