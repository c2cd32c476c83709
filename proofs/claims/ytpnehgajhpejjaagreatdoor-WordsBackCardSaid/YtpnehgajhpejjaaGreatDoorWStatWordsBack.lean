import Derived.Test.YtpnehgajhpejjaaGreatDoorWOpens
import Derived.Test.YtpnehgajhpejjaaGreatDoorWBack
namespace Go.Proofs.YtpnehgajhpejjaaGreatDoor.W
open Go.RowKit Go.Proofs.YtpnehgajhpejjaaGreatDoorW.PrintWords
def pledgelaw39_WordsBack.Pure : Prop := ∀ (x0 : List (S25)) (x1 : ByteArray), WW27 x0 → WW9 x1 → ∃ k : Nat, pledgelaw39_WordsBack.f k x0 x1 = some true
end Go.Proofs.YtpnehgajhpejjaaGreatDoor.W
