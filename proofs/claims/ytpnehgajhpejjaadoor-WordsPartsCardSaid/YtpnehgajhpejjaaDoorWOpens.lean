import Derived.Test.YtpnehgajhpejjaaDoorOpen
import Derived.Test.YtpnehgajhpejjaaDoorW0
/- From the form's reading of the laws' arguments to the printed kinds. -/
namespace Go.Proofs.YtpnehgajhpejjaaDoor.W
open Go.RowKit Go.Proofs.YtpnehgajhpejjaaDoorW.PrintWords
set_option linter.unusedVariables false
def WW9 (s : ByteArray) : Prop := s.size ≤ maxLen
theorem opens9 : Opens Tryd.prog 9 Kd.string WW9 := opens_string Tryd.underlying9 (by kernel_rfl)
end Go.Proofs.YtpnehgajhpejjaaDoor.W
