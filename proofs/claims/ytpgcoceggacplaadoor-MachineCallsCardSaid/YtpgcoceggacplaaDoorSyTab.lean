/- Sizes of the types of this program. No condition. -/
import Derived.Test.YtpgcoceggacplaaDoorChecked
import Derived.Test.YtpgcoceggacplaaDoorSyWrap
set_option linter.unusedVariables false
set_option linter.unusedSimpArgs false
set_option maxRecDepth 20000
namespace Go.Proofs.YtpgcoceggacplaaDoor
open Go.RowKit Go.Lp Go.Sy
def I64 (n : Int) : Prop := -9223372036854775808 ≤ n ∧ n ≤ 9223372036854775807
theorem tk2 : tyk Tryd.prog 2 = some (false, 1) := by kernel_rfl
theorem tk3 : tyk Tryd.prog 3 = some (false, 1) := by kernel_rfl
theorem tk4 : tyk Tryd.prog 4 = some (false, 1) := by kernel_rfl
theorem tk5 : tyk Tryd.prog 5 = some (false, 1) := by kernel_rfl
theorem tk6 : tyk Tryd.prog 6 = some (false, 1) := by kernel_rfl
theorem tk7 : tyk Tryd.prog 7 = some (true, 4) := by kernel_rfl
theorem tk8 : tyk Tryd.prog 8 = some (true, 4) := by kernel_rfl
theorem tk9 : tyk Tryd.prog 9 = some (false, 1) := by kernel_rfl
theorem tk10 : tyk Tryd.prog 10 = some (false, 1) := by kernel_rfl
theorem tk11 : tyk Tryd.prog 11 = some (false, 1) := by kernel_rfl
theorem tk12 : tyk Tryd.prog 12 = some (false, 1) := by kernel_rfl
theorem tk13 : tyk Tryd.prog 13 = some (true, 2) := by kernel_rfl
theorem tk14 : tyk Tryd.prog 14 = some (true, 2) := by kernel_rfl
theorem tk15 : tyk Tryd.prog 15 = some (false, 1) := by kernel_rfl
theorem tk16 : tyk Tryd.prog 16 = some (false, 1) := by kernel_rfl
theorem tk17 : tyk Tryd.prog 17 = some (false, 1) := by kernel_rfl
theorem tk18 : tyk Tryd.prog 18 = some (true, 1) := by kernel_rfl
theorem tk19 : tyk Tryd.prog 19 = some (true, 1) := by kernel_rfl
theorem tk20 : tyk Tryd.prog 20 = some (false, 1) := by kernel_rfl
theorem tk21 : tyk Tryd.prog 21 = some (false, 1) := by kernel_rfl
theorem tk22 : tyk Tryd.prog 22 = some (false, 1) := by kernel_rfl
theorem tk23 : tyk Tryd.prog 23 = some (true, 5) := by kernel_rfl
theorem tk24 : tyk Tryd.prog 24 = some (true, 5) := by kernel_rfl
theorem tk27 : tyk Tryd.prog 27 = some (false, 1) := by kernel_rfl
theorem tk30 : tyk Tryd.prog 30 = some (true, 16) := by kernel_rfl
theorem tk31 : tyk Tryd.prog 31 = some (true, 17) := by kernel_rfl
theorem tk32 : tyk Tryd.prog 32 = some (true, 17) := by kernel_rfl
theorem tk33 : tyk Tryd.prog 33 = some (true, 2) := by kernel_rfl
theorem tk34 : tyk Tryd.prog 34 = some (true, 2) := by kernel_rfl
theorem tk38 : tyk Tryd.prog 38 = some (true, 5) := by kernel_rfl
theorem tk39 : tyk Tryd.prog 39 = some (true, 5) := by kernel_rfl
theorem tk40 : tyk Tryd.prog 40 = some (false, 1) := by kernel_rfl
theorem tk42 : tyk Tryd.prog 42 = some (false, 1) := by kernel_rfl
theorem tk49 : tyk Tryd.prog 49 = some (true, 5) := by kernel_rfl
theorem tk50 : tyk Tryd.prog 50 = some (true, 5) := by kernel_rfl
theorem tk56 : tyk Tryd.prog 56 = some (false, 1) := by kernel_rfl
theorem tk57 : tyk Tryd.prog 57 = some (true, 43) := by kernel_rfl
theorem tk58 : tyk Tryd.prog 58 = some (true, 43) := by kernel_rfl
theorem tk60 : tyk Tryd.prog 60 = some (true, 31) := by kernel_rfl
theorem tk64 : tyk Tryd.prog 64 = some (false, 1) := by kernel_rfl
theorem tk65 : tyk Tryd.prog 65 = some (true, 6) := by kernel_rfl
theorem tk66 : tyk Tryd.prog 66 = some (true, 6) := by kernel_rfl
theorem tk71 : tyk Tryd.prog 71 = some (false, 1) := by kernel_rfl
theorem tk72 : tyk Tryd.prog 72 = some (true, 1) := by kernel_rfl
theorem tk73 : tyk Tryd.prog 73 = some (true, 1) := by kernel_rfl
theorem tk84 : tyk Tryd.prog 84 = some (false, 1) := by kernel_rfl
theorem tk92 : tyk Tryd.prog 92 = some (false, 1) := by kernel_rfl
theorem tk102 : tyk Tryd.prog 102 = some (false, 1) := by kernel_rfl
theorem tk104 : tyk Tryd.prog 104 = some (false, 1) := by kernel_rfl
theorem tk106 : tyk Tryd.prog 106 = some (true, 4) := by kernel_rfl
theorem tk107 : tyk Tryd.prog 107 = some (true, 4) := by kernel_rfl
theorem tk108 : tyk Tryd.prog 108 = some (true, 124) := by kernel_rfl
theorem tk112 : tyk Tryd.prog 112 = some (true, 4) := by kernel_rfl
theorem tk113 : tyk Tryd.prog 113 = some (true, 4) := by kernel_rfl
theorem tk114 : tyk Tryd.prog 114 = some (true, 0) := by kernel_rfl
theorem tk115 : tyk Tryd.prog 115 = some (true, 0) := by kernel_rfl
theorem tk116 : tyk Tryd.prog 116 = some (true, 0) := by kernel_rfl
theorem tk117 : tyk Tryd.prog 117 = some (false, 1) := by kernel_rfl
theorem tk118 : tyk Tryd.prog 118 = some (false, 1) := by kernel_rfl
theorem tk119 : tyk Tryd.prog 119 = some (false, 1) := by kernel_rfl
theorem tk121 : tyk Tryd.prog 121 = some (false, 1) := by kernel_rfl
theorem tk122 : tyk Tryd.prog 122 = some (false, 1) := by kernel_rfl
theorem tk123 : tyk Tryd.prog 123 = some (false, 1) := by kernel_rfl
theorem tk124 : tyk Tryd.prog 124 = some (true, 11) := by kernel_rfl
theorem tk125 : tyk Tryd.prog 125 = some (true, 11) := by kernel_rfl
theorem tk127 : tyk Tryd.prog 127 = some (false, 1) := by kernel_rfl
theorem el22 : elB Tryd.prog 22 3 1 = true := by kernel_rfl
theorem el40 : elB Tryd.prog 40 39 5 = true := by kernel_rfl
theorem el64 : elB Tryd.prog 64 5 1 = true := by kernel_rfl
theorem el71 : elB Tryd.prog 71 66 6 = true := by kernel_rfl
end Go.Proofs.YtpgcoceggacplaaDoor
