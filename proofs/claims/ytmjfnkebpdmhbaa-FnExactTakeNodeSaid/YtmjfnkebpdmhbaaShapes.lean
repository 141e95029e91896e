/- How the arguments of this seat's laws are opened, to the bottom: written by a program of this session. -/
import Derived.Test.YtmjfnkebpdmhbaaOpen
import Derived.Test.YtmjfnkebpdmhbaaQx0
set_option linter.unusedVariables false
set_option linter.unusedSimpArgs false
namespace Go.Proofs.Ytmjfnkebpdmhbaa.Q
open Go Go.RowKit Go.Proofs.YtmjfnkebpdmhbaaW.PrintWords Go.Proofs.YtmjfnkebpdmhbaaW.PrintLast Go.Proofs.YtmjfnkebpdmhbaaW.PrintMore Go.Proofs.Ytmjfnkebpdmhbaa.Lib
end Go.Proofs.Ytmjfnkebpdmhbaa.Q
