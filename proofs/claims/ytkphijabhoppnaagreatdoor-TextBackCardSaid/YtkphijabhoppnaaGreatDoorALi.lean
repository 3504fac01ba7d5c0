/- The reference's text of an instruction: the print tool's walk, with one region's bound said twice. -/
import Derived.Test.YtkphijabhoppnaaGreatDoorAPTextProgramsx0
import Derived.Test.YtkphijabhoppnaaGreatDoorAPTextProgramsx13
import Derived.Test.YtkphijabhoppnaaGreatDoorAPTextProgramsx14
import Derived.Test.YtkphijabhoppnaaGreatDoorALx
import Derived.Test.YtkphijabhoppnaaGreatDoorAPTextProgramsx16
namespace Go.Proofs.YtkphijabhoppnaaGreatDoor.PTextPrograms
open Go.RowKit Go.Proofs.YtkphijabhoppnaaGreatDoorW.PrintWords Go.Proofs.YtkphijabhoppnaaGreatDoorW.PrintLast Go.Proofs.YtkphijabhoppnaaGreatDoorW.PrintMore
attribute [local go_sem] max2_int min2_int max_two min_two max_three min_three max_four min_four   -- for this text's walks alone
set_option linter.unusedVariables false
set_option linter.unusedSimpArgs false
end Go.Proofs.YtkphijabhoppnaaGreatDoor.PTextPrograms
