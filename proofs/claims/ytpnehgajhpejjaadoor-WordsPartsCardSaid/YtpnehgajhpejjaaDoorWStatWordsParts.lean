import Derived.Test.YtpnehgajhpejjaaDoorWOpens
import Derived.Test.YtpnehgajhpejjaaDoorWParts
namespace Go.Proofs.YtpnehgajhpejjaaDoor.W
open Go.RowKit Go.Proofs.YtpnehgajhpejjaaDoorW.PrintWords
def pledgelaw39_WordsParts.Pure : Prop := ∀ (x0 : ByteArray) (x1 : ByteArray), WW9 x0 → WW9 x1 → ∃ k : Nat, pledgelaw39_WordsParts.f k x0 x1 = some true
end Go.Proofs.YtpnehgajhpejjaaDoor.W
