/- The reference's line read: the print tool's walk on top of Lj. -/
import Derived.Test.YtkphijabhoppnaaGreatDoorAPTextProgramsx0
import Derived.Test.YtkphijabhoppnaaGreatDoorALj
namespace Go.Proofs.YtkphijabhoppnaaGreatDoor.PTextPrograms
open Go.RowKit Go.Proofs.YtkphijabhoppnaaGreatDoorW.PrintWords Go.Proofs.YtkphijabhoppnaaGreatDoorW.PrintLast Go.Proofs.YtkphijabhoppnaaGreatDoorW.PrintMore
attribute [local go_sem] max2_int min2_int max_two min_two max_three min_three max_four min_four   -- for this text's walks alone
set_option linter.unusedVariables false
set_option linter.unusedSimpArgs false
end Go.Proofs.YtkphijabhoppnaaGreatDoor.PTextPrograms
