/- Sizes of the types of this program. No condition. -/
import Derived.Test.YtpgcoceggacplaaGreatDoorChecked
import Derived.Test.YtpgcoceggacplaaGreatDoorSyWrap
set_option linter.unusedVariables false
set_option linter.unusedSimpArgs false
set_option maxRecDepth 20000
namespace Go.Proofs.YtpgcoceggacplaaGreatDoor
open Go.RowKit Go.Lp Go.Sy
def I64 (n : Int) : Prop := -9223372036854775808 ≤ n ∧ n ≤ 9223372036854775807
theorem tk2 : tyk Tryz.prog 2 = some (false, 1) := by kernel_rfl
theorem tk3 : tyk Tryz.prog 3 = some (false, 1) := by kernel_rfl
theorem tk4 : tyk Tryz.prog 4 = some (false, 1) := by kernel_rfl
theorem tk5 : tyk Tryz.prog 5 = some (false, 1) := by kernel_rfl
theorem tk6 : tyk Tryz.prog 6 = some (false, 1) := by kernel_rfl
theorem tk7 : tyk Tryz.prog 7 = some (true, 4) := by kernel_rfl
theorem tk8 : tyk Tryz.prog 8 = some (true, 4) := by kernel_rfl
theorem tk9 : tyk Tryz.prog 9 = some (false, 1) := by kernel_rfl
theorem tk10 : tyk Tryz.prog 10 = some (false, 1) := by kernel_rfl
theorem tk11 : tyk Tryz.prog 11 = some (false, 1) := by kernel_rfl
theorem tk12 : tyk Tryz.prog 12 = some (false, 1) := by kernel_rfl
theorem tk13 : tyk Tryz.prog 13 = some (true, 2) := by kernel_rfl
theorem tk14 : tyk Tryz.prog 14 = some (true, 2) := by kernel_rfl
theorem tk15 : tyk Tryz.prog 15 = some (false, 1) := by kernel_rfl
theorem tk16 : tyk Tryz.prog 16 = some (false, 1) := by kernel_rfl
theorem tk17 : tyk Tryz.prog 17 = some (false, 1) := by kernel_rfl
theorem tk18 : tyk Tryz.prog 18 = some (true, 1) := by kernel_rfl
theorem tk19 : tyk Tryz.prog 19 = some (true, 1) := by kernel_rfl
theorem tk20 : tyk Tryz.prog 20 = some (false, 1) := by kernel_rfl
theorem tk21 : tyk Tryz.prog 21 = some (false, 1) := by kernel_rfl
theorem tk22 : tyk Tryz.prog 22 = some (false, 1) := by kernel_rfl
theorem tk23 : tyk Tryz.prog 23 = some (true, 5) := by kernel_rfl
theorem tk24 : tyk Tryz.prog 24 = some (true, 5) := by kernel_rfl
theorem tk27 : tyk Tryz.prog 27 = some (false, 1) := by kernel_rfl
theorem tk29 : tyk Tryz.prog 29 = some (false, 1) := by kernel_rfl
theorem tk31 : tyk Tryz.prog 31 = some (true, 16) := by kernel_rfl
theorem tk32 : tyk Tryz.prog 32 = some (true, 17) := by kernel_rfl
theorem tk33 : tyk Tryz.prog 33 = some (true, 17) := by kernel_rfl
theorem tk35 : tyk Tryz.prog 35 = some (true, 2) := by kernel_rfl
theorem tk36 : tyk Tryz.prog 36 = some (true, 2) := by kernel_rfl
theorem tk40 : tyk Tryz.prog 40 = some (false, 1) := by kernel_rfl
theorem tk45 : tyk Tryz.prog 45 = some (true, 5) := by kernel_rfl
theorem tk46 : tyk Tryz.prog 46 = some (true, 5) := by kernel_rfl
theorem tk54 : tyk Tryz.prog 54 = some (false, 1) := by kernel_rfl
theorem tk57 : tyk Tryz.prog 57 = some (true, 5) := by kernel_rfl
theorem tk58 : tyk Tryz.prog 58 = some (true, 5) := by kernel_rfl
theorem tk63 : tyk Tryz.prog 63 = some (false, 1) := by kernel_rfl
theorem tk64 : tyk Tryz.prog 64 = some (true, 43) := by kernel_rfl
theorem tk65 : tyk Tryz.prog 65 = some (true, 43) := by kernel_rfl
theorem tk67 : tyk Tryz.prog 67 = some (true, 31) := by kernel_rfl
theorem tk77 : tyk Tryz.prog 77 = some (false, 1) := by kernel_rfl
theorem tk78 : tyk Tryz.prog 78 = some (false, 1) := by kernel_rfl
theorem tk79 : tyk Tryz.prog 79 = some (true, 2) := by kernel_rfl
theorem tk80 : tyk Tryz.prog 80 = some (true, 2) := by kernel_rfl
theorem tk81 : tyk Tryz.prog 81 = some (false, 1) := by kernel_rfl
theorem tk82 : tyk Tryz.prog 82 = some (true, 6) := by kernel_rfl
theorem tk83 : tyk Tryz.prog 83 = some (true, 6) := by kernel_rfl
theorem tk88 : tyk Tryz.prog 88 = some (true, 2) := by kernel_rfl
theorem tk89 : tyk Tryz.prog 89 = some (true, 16) := by kernel_rfl
theorem tk91 : tyk Tryz.prog 91 = some (true, 4) := by kernel_rfl
theorem tk92 : tyk Tryz.prog 92 = some (true, 4) := by kernel_rfl
theorem tk93 : tyk Tryz.prog 93 = some (true, 124) := by kernel_rfl
theorem tk96 : tyk Tryz.prog 96 = some (false, 1) := by kernel_rfl
theorem tk97 : tyk Tryz.prog 97 = some (true, 1) := by kernel_rfl
theorem tk98 : tyk Tryz.prog 98 = some (true, 1) := by kernel_rfl
theorem tk105 : tyk Tryz.prog 105 = some (false, 1) := by kernel_rfl
theorem tk115 : tyk Tryz.prog 115 = some (false, 1) := by kernel_rfl
theorem tk116 : tyk Tryz.prog 116 = some (false, 1) := by kernel_rfl
theorem tk118 : tyk Tryz.prog 118 = some (false, 1) := by kernel_rfl
theorem tk136 : tyk Tryz.prog 136 = some (false, 1) := by kernel_rfl
theorem tk144 : tyk Tryz.prog 144 = some (false, 1) := by kernel_rfl
theorem tk147 : tyk Tryz.prog 147 = some (false, 1) := by kernel_rfl
theorem tk152 : tyk Tryz.prog 152 = some (false, 1) := by kernel_rfl
theorem tk156 : tyk Tryz.prog 156 = some (true, 4) := by kernel_rfl
theorem tk157 : tyk Tryz.prog 157 = some (true, 4) := by kernel_rfl
theorem tk158 : tyk Tryz.prog 158 = some (true, 0) := by kernel_rfl
theorem tk159 : tyk Tryz.prog 159 = some (true, 0) := by kernel_rfl
theorem tk160 : tyk Tryz.prog 160 = some (true, 0) := by kernel_rfl
theorem tk161 : tyk Tryz.prog 161 = some (false, 1) := by kernel_rfl
theorem tk162 : tyk Tryz.prog 162 = some (false, 1) := by kernel_rfl
theorem tk164 : tyk Tryz.prog 164 = some (false, 1) := by kernel_rfl
theorem tk165 : tyk Tryz.prog 165 = some (false, 1) := by kernel_rfl
theorem tk166 : tyk Tryz.prog 166 = some (false, 1) := by kernel_rfl
theorem tk167 : tyk Tryz.prog 167 = some (true, 11) := by kernel_rfl
theorem tk168 : tyk Tryz.prog 168 = some (true, 11) := by kernel_rfl
theorem tk170 : tyk Tryz.prog 170 = some (false, 1) := by kernel_rfl
theorem el22 : elB Tryz.prog 22 3 1 = true := by kernel_rfl
theorem el54 : elB Tryz.prog 54 46 5 = true := by kernel_rfl
theorem el77 : elB Tryz.prog 77 58 5 = true := by kernel_rfl
theorem el78 : elB Tryz.prog 78 9 1 = true := by kernel_rfl
theorem el81 : elB Tryz.prog 81 5 1 = true := by kernel_rfl
theorem el96 : elB Tryz.prog 96 83 6 = true := by kernel_rfl
end Go.Proofs.YtpgcoceggacplaaGreatDoor
