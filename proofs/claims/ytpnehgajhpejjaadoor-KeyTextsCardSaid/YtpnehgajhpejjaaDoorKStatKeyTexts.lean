import Derived.Test.YtpnehgajhpejjaaDoorKOpens
import Derived.Test.YtpnehgajhpejjaaDoorK12
namespace Go.Proofs.YtpnehgajhpejjaaDoor.K
open Go.RowKit Go.Proofs.YtpnehgajhpejjaaDoorW.PrintWords
def pledgelaw04_KeyTexts.Pure : Prop := ∀ (x0 : S23) (x1 : ByteArray), WK23 x0 → WK9 x1 → ∃ k : Nat, pledgelaw04_KeyTexts.f k x0.f0 x0.f1 x0.f2 x1 = some true
end Go.Proofs.YtpnehgajhpejjaaDoor.K
