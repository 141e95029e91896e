/- How the arguments of this seat's laws are opened, to the bottom: written by a program of this session. -/
import Derived.Test.YtbdfidnldaghbaaOpen
import Derived.Test.YtbdfidnldaghbaaQx0
set_option linter.unusedVariables false
set_option linter.unusedSimpArgs false
namespace Go.Proofs.Ytbdfidnldaghbaa.Q
open Go Go.RowKit Go.Proofs.YtbdfidnldaghbaaW.PrintWords Go.Proofs.YtbdfidnldaghbaaW.PrintLast Go.Proofs.YtbdfidnldaghbaaW.PrintMore Go.Proofs.Ytbdfidnldaghbaa.Lib
end Go.Proofs.Ytbdfidnldaghbaa.Q
