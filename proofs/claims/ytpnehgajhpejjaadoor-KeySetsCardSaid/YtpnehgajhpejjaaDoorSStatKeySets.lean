import Derived.Test.YtpnehgajhpejjaaDoorSOpens
import Derived.Test.YtpnehgajhpejjaaDoorS7
namespace Go.Proofs.YtpnehgajhpejjaaDoor.S
open Go.RowKit Go.Proofs.YtpnehgajhpejjaaDoorW.PrintWords
def pledgelaw04_KeySets.Pure : Prop := ∀ (x0 : List (S23)), WS29 x0 → ∃ k : Nat, pledgelaw04_KeySets.f k x0 = some true
end Go.Proofs.YtpnehgajhpejjaaDoor.S
