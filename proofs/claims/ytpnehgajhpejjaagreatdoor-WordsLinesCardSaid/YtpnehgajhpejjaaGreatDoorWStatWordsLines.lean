import Derived.Test.YtpnehgajhpejjaaGreatDoorWOpens
import Derived.Test.YtpnehgajhpejjaaGreatDoorWLines
namespace Go.Proofs.YtpnehgajhpejjaaGreatDoor.W
open Go.RowKit Go.Proofs.YtpnehgajhpejjaaGreatDoorW.PrintWords
def pledgelaw39_WordsLines.Pure : Prop := ∀ (x0 : S25) (x1 : ByteArray), WW25 x0 → WW9 x1 → ∃ k : Nat, pledgelaw39_WordsLines.f k x0.f0 x0.f1 x0.f2 x0.f3 x0.f4 x1 = some true
end Go.Proofs.YtpnehgajhpejjaaGreatDoor.W
