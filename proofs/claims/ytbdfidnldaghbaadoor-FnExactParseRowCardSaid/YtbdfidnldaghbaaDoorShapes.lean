/- How the arguments of this seat's laws are opened, to the bottom: written by a program of this session. -/
import Derived.Test.YtbdfidnldaghbaaDoorOpen
import Derived.Test.YtbdfidnldaghbaaDoorQx0
set_option linter.unusedVariables false
set_option linter.unusedSimpArgs false
namespace Go.Proofs.YtbdfidnldaghbaaDoor.Q
open Go Go.RowKit Go.Proofs.YtbdfidnldaghbaaDoorW.PrintWords Go.Proofs.YtbdfidnldaghbaaDoorW.PrintLast Go.Proofs.YtbdfidnldaghbaaDoorW.PrintMore Go.Proofs.YtbdfidnldaghbaaDoor.Lib
end Go.Proofs.YtbdfidnldaghbaaDoor.Q
