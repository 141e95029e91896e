/- How the arguments of this seat's laws are opened, to the bottom: written by a program of this session. -/
import Derived.Test.YtbdfidnldaghbaaGreatDoorOpen
import Derived.Test.YtbdfidnldaghbaaGreatDoorQx0
set_option linter.unusedVariables false
set_option linter.unusedSimpArgs false
namespace Go.Proofs.YtbdfidnldaghbaaGreatDoor.Q
open Go Go.RowKit Go.Proofs.YtbdfidnldaghbaaGreatDoorW.PrintWords Go.Proofs.YtbdfidnldaghbaaGreatDoorW.PrintLast Go.Proofs.YtbdfidnldaghbaaGreatDoorW.PrintMore Go.Proofs.YtbdfidnldaghbaaGreatDoor.Lib
end Go.Proofs.YtbdfidnldaghbaaGreatDoor.Q
