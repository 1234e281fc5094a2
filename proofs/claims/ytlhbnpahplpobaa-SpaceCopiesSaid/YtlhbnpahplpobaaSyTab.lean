/- Sizes of the types of this program. No condition. -/
import Derived.Test.YtlhbnpahplpobaaChecked
import Derived.Test.YtlhbnpahplpobaaSyWrap
set_option linter.unusedVariables false
set_option linter.unusedSimpArgs false
namespace Go.Proofs.Ytlhbnpahplpobaa
open Go.RowKit Go.Lp Go.Sy
theorem tk2 : tyk Try.prog 2 = some (false, 1) := by kernel_rfl
theorem tk3 : tyk Try.prog 3 = some (false, 1) := by kernel_rfl
theorem tk4 : tyk Try.prog 4 = some (false, 1) := by kernel_rfl
theorem tk5 : tyk Try.prog 5 = some (false, 1) := by kernel_rfl
theorem tk6 : tyk Try.prog 6 = some (false, 1) := by kernel_rfl
theorem tk7 : tyk Try.prog 7 = some (true, 4) := by kernel_rfl
theorem tk8 : tyk Try.prog 8 = some (true, 4) := by kernel_rfl
theorem tk9 : tyk Try.prog 9 = some (false, 1) := by kernel_rfl
theorem tk10 : tyk Try.prog 10 = some (false, 1) := by kernel_rfl
theorem tk11 : tyk Try.prog 11 = some (false, 1) := by kernel_rfl
theorem tk12 : tyk Try.prog 12 = some (false, 1) := by kernel_rfl
theorem tk13 : tyk Try.prog 13 = some (true, 2) := by kernel_rfl
theorem tk14 : tyk Try.prog 14 = some (true, 2) := by kernel_rfl
theorem tk15 : tyk Try.prog 15 = some (false, 1) := by kernel_rfl
theorem tk16 : tyk Try.prog 16 = some (false, 1) := by kernel_rfl
theorem tk17 : tyk Try.prog 17 = some (false, 1) := by kernel_rfl
theorem tk18 : tyk Try.prog 18 = some (true, 1) := by kernel_rfl
theorem tk19 : tyk Try.prog 19 = some (true, 1) := by kernel_rfl
theorem tk20 : tyk Try.prog 20 = some (false, 1) := by kernel_rfl
theorem tk21 : tyk Try.prog 21 = some (false, 1) := by kernel_rfl
theorem tk22 : tyk Try.prog 22 = some (false, 1) := by kernel_rfl
theorem tk23 : tyk Try.prog 23 = some (true, 5) := by kernel_rfl
theorem tk24 : tyk Try.prog 24 = some (true, 5) := by kernel_rfl
theorem tk25 : tyk Try.prog 25 = some (true, 10) := by kernel_rfl
theorem tk26 : tyk Try.prog 26 = some (true, 10) := by kernel_rfl
theorem tk29 : tyk Try.prog 29 = some (false, 1) := by kernel_rfl
theorem tk32 : tyk Try.prog 32 = some (false, 1) := by kernel_rfl
theorem tk42 : tyk Try.prog 42 = some (false, 1) := by kernel_rfl
theorem tk47 : tyk Try.prog 47 = some (false, 1) := by kernel_rfl
theorem tk54 : tyk Try.prog 54 = some (false, 1) := by kernel_rfl
theorem tk55 : tyk Try.prog 55 = some (true, 6) := by kernel_rfl
theorem tk56 : tyk Try.prog 56 = some (true, 6) := by kernel_rfl
theorem tk65 : tyk Try.prog 65 = some (true, 2) := by kernel_rfl
theorem tk66 : tyk Try.prog 66 = some (true, 2) := by kernel_rfl
theorem tk67 : tyk Try.prog 67 = some (false, 1) := by kernel_rfl
theorem tk68 : tyk Try.prog 68 = some (false, 1) := by kernel_rfl
theorem tk69 : tyk Try.prog 69 = some (true, 1) := by kernel_rfl
theorem tk70 : tyk Try.prog 70 = some (true, 1) := by kernel_rfl
theorem tk79 : tyk Try.prog 79 = some (false, 1) := by kernel_rfl
theorem tk92 : tyk Try.prog 92 = some (true, 4) := by kernel_rfl
theorem tk93 : tyk Try.prog 93 = some (true, 4) := by kernel_rfl
theorem tk94 : tyk Try.prog 94 = some (true, 0) := by kernel_rfl
theorem tk95 : tyk Try.prog 95 = some (true, 0) := by kernel_rfl
theorem tk96 : tyk Try.prog 96 = some (true, 0) := by kernel_rfl
theorem tk98 : tyk Try.prog 98 = some (false, 1) := by kernel_rfl
theorem tk99 : tyk Try.prog 99 = some (false, 1) := by kernel_rfl
theorem tk100 : tyk Try.prog 100 = some (false, 1) := by kernel_rfl
theorem tk102 : tyk Try.prog 102 = some (false, 1) := by kernel_rfl
theorem tk103 : tyk Try.prog 103 = some (false, 1) := by kernel_rfl
theorem tk104 : tyk Try.prog 104 = some (false, 1) := by kernel_rfl
theorem tk105 : tyk Try.prog 105 = some (true, 11) := by kernel_rfl
theorem tk106 : tyk Try.prog 106 = some (true, 11) := by kernel_rfl
theorem tk107 : tyk Try.prog 107 = some (false, 1) := by kernel_rfl
theorem el22 : elB Try.prog 22 26 10 = true := by kernel_rfl
theorem el47 : elB Try.prog 47 24 5 = true := by kernel_rfl
theorem el54 : elB Try.prog 54 5 1 = true := by kernel_rfl
theorem el67 : elB Try.prog 67 66 2 = true := by kernel_rfl
theorem el68 : elB Try.prog 68 56 6 = true := by kernel_rfl
end Go.Proofs.Ytlhbnpahplpobaa
