/- Laid by this session's own program (wip/drive.py) out of the translation: functions of the Go code as plain Lean functions, proofs that the code comes to them, a law's row (for every input it returns true, and its arguments read as before); no condition. Lean checks it. -/
import Derived.Test.YtklgecdklngekaaGreatDoorQx0
import Derived.Test.YtklgecdklngekaaGreatDoorQx1
import Derived.Test.YtklgecdklngekaaGreatDoorQx2
import Derived.Test.YtklgecdklngekaaGreatDoorQx3
import Derived.Test.YtklgecdklngekaaGreatDoorQx4
import Derived.Test.YtklgecdklngekaaGreatDoorQx5
import Derived.Test.YtklgecdklngekaaGreatDoorQx6
import Derived.Test.YtklgecdklngekaaGreatDoorQx7
import Derived.Test.YtklgecdklngekaaGreatDoorQx8
import Derived.Test.YtklgecdklngekaaGreatDoorQx9
import Derived.Test.YtklgecdklngekaaGreatDoorQx10
namespace Go.Proofs.YtklgecdklngekaaGreatDoor.Q
open Go.RowKit Go.Proofs.YtklgecdklngekaaGreatDoorW.PrintWords Go.Proofs.YtklgecdklngekaaGreatDoorW.PrintLast Go.Proofs.YtklgecdklngekaaGreatDoorW.PrintMore
attribute [local go_sem] max2_int min2_int max_two min_two max_three min_three max_four min_four   -- for this text's walks alone
set_option linter.unusedVariables false
set_option linter.unusedSimpArgs false
end Go.Proofs.YtklgecdklngekaaGreatDoor.Q
