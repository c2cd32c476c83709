import Derived.Test.YtpnehgajhpejjaaGreatDoorSq
import Derived.Test.YtpnehgajhpejjaaGreatDoorW0
import Derived.Test.YtpnehgajhpejjaaGreatDoorW2
import Derived.Test.YtpnehgajhpejjaaGreatDoorW11
import Derived.Test.YtpnehgajhpejjaaGreatDoorW22
import Derived.Test.YtpnehgajhpejjaaGreatDoorW23
namespace Go.Proofs.YtpnehgajhpejjaaGreatDoor.W
open Go.RowKit Go.Proofs.YtpnehgajhpejjaaGreatDoorW.PrintWords Go.Proofs.YtpnehgajhpejjaaGreatDoorW.PrintLast Go.Proofs.YtpnehgajhpejjaaGreatDoorW.PrintMore
attribute [local go_sem] max2_int min2_int max_two min_two max_three min_three max_four min_four
set_option linter.unusedVariables false
set_option linter.unusedSimpArgs false
/-! ### pledgelaw39_WordsTexts: function 4 -/
-- NOT PRINTED: function 3 (pledgelaw39_WordsLines)
-- NOT PRINTED: function 5 (pledgelaw39_WordsBack)
end Go.Proofs.YtpnehgajhpejjaaGreatDoor.W
