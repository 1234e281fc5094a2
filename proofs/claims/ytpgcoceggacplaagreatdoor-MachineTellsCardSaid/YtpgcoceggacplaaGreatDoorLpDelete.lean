/- slices.Delete of one element; clear. -/
import Derived.Test.YtpgcoceggacplaaGreatDoorLpInsert2
set_option linter.unusedVariables false
set_option linter.unusedSimpArgs false
set_option maxRecDepth 20000
namespace Go.Proofs.YtpgcoceggacplaaGreatDoor
open Go.RowKit Go.Lp

end Go.Proofs.YtpgcoceggacplaaGreatDoor
