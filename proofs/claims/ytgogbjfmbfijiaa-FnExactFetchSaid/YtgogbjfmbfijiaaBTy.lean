/- What the types of this translation are. -/
import Derived.Test.YtgogbjfmbfijiaaBZzN
import Derived.Test.YtgogbjfmbfijiaaProg
/-! What the types of this translation are. -/
namespace Go.Av
open Go.Proofs
namespace Ty
theorem ldA3 : ldA Try.prog 3 = false := by kernel_rfl
theorem ldS3 : ldS Try.prog 3 = true := by kernel_rfl
theorem nz3 : nzT Try.prog 3 = [none] := by kernel_rfl
theorem sz3 : szT Try.prog 3 = some 1 := by kernel_rfl
theorem szn3 : szN Try.prog 3 = 1 := by kernel_rfl
theorem int3 : intKd Try.prog 3 = some .i64 := by kernel_rfl
theorem int5 : intKd Try.prog 5 = some .u8 := by kernel_rfl
theorem ldA9 : ldA Try.prog 9 = false := by kernel_rfl
theorem ldS9 : ldS Try.prog 9 = true := by kernel_rfl
theorem nz9 : nzT Try.prog 9 = [none] := by kernel_rfl
theorem sz9 : szT Try.prog 9 = some 1 := by kernel_rfl
theorem szn9 : szN Try.prog 9 = 1 := by kernel_rfl
theorem str9 : isStr Try.prog 9 = true := by kernel_rfl
theorem sl40 : slT Try.prog 40 = some 4 := by kernel_rfl
theorem slz40 : slSz Try.prog 40 = 4 := by kernel_rfl
theorem ldA40 : ldA Try.prog 40 = false := by kernel_rfl
theorem ldS40 : ldS Try.prog 40 = true := by kernel_rfl
theorem nz40 : nzT Try.prog 40 = [some 4] := by kernel_rfl
theorem sz40 : szT Try.prog 40 = some 1 := by kernel_rfl
theorem szn40 : szN Try.prog 40 = 1 := by kernel_rfl
theorem ldA42 : ldA Try.prog 42 = true := by kernel_rfl
theorem nz42 : nzT Try.prog 42 = [none, none, some 4] := by kernel_rfl
theorem sz42 : szT Try.prog 42 = some 3 := by kernel_rfl
theorem szn42 : szN Try.prog 42 = 3 := by kernel_rfl
theorem fo42_0 : fdO Try.prog 42 0 = 0 := by kernel_rfl
theorem fn42_0 : fdN Try.prog 42 0 = 1 := by kernel_rfl
theorem fk42_0 : fdOk Try.prog 42 0 = true := by kernel_rfl
theorem fs42_0 : fdS Try.prog 42 0 = true := by kernel_rfl
theorem fo42_1 : fdO Try.prog 42 1 = 1 := by kernel_rfl
theorem fn42_1 : fdN Try.prog 42 1 = 1 := by kernel_rfl
theorem fk42_1 : fdOk Try.prog 42 1 = true := by kernel_rfl
theorem fs42_1 : fdS Try.prog 42 1 = true := by kernel_rfl
theorem fo42_2 : fdO Try.prog 42 2 = 2 := by kernel_rfl
theorem fn42_2 : fdN Try.prog 42 2 = 1 := by kernel_rfl
theorem fk42_2 : fdOk Try.prog 42 2 = true := by kernel_rfl
theorem fs42_2 : fdS Try.prog 42 2 = true := by kernel_rfl
theorem sl44 : slT Try.prog 44 = some 4 := by kernel_rfl
theorem slz44 : slSz Try.prog 44 = 4 := by kernel_rfl
theorem zok44 : zOk Try.prog 44 = true := by kernel_rfl
theorem by44 : byN Try.prog 44 = 40 := by kernel_rfl
theorem zs44 : zsN Try.prog 44 = [.string ⟨#[]⟩, .int .i64 0, .int .i64 0, .int .i64 0] := by kernel_rfl
theorem ldA44 : ldA Try.prog 44 = false := by kernel_rfl
theorem ldS44 : ldS Try.prog 44 = true := by kernel_rfl
theorem nz44 : nzT Try.prog 44 = [some 4] := by kernel_rfl
theorem nze44 : nzE Try.prog 44 = [none, none, none, none] := by kernel_rfl
theorem sz44 : szT Try.prog 44 = some 1 := by kernel_rfl
theorem szn44 : szN Try.prog 44 = 1 := by kernel_rfl
theorem ag46 : agT Try.prog 46 = some true := by kernel_rfl
theorem ldA46 : ldA Try.prog 46 = true := by kernel_rfl
theorem nz46 : nzT Try.prog 46 = [none, none, some 4] := by kernel_rfl
theorem sz46 : szT Try.prog 46 = some 3 := by kernel_rfl
theorem szn46 : szN Try.prog 46 = 3 := by kernel_rfl
theorem zv46 : zvT Try.prog 46 = some [.int .i64 0, .int .i64 0, .slice none 0 0] := by kernel_rfl
theorem bd46 : bdOk Try.prog 46 = true := by kernel_rfl
theorem pl46_0 : plT Try.prog 46 0 = some (0, 1) := by kernel_rfl
theorem pl46_1 : plT Try.prog 46 1 = some (1, 1) := by kernel_rfl
theorem pl46_2 : plT Try.prog 46 2 = some (2, 1) := by kernel_rfl
theorem fo46_0 : fdO Try.prog 46 0 = 0 := by kernel_rfl
theorem fn46_0 : fdN Try.prog 46 0 = 1 := by kernel_rfl
theorem fk46_0 : fdOk Try.prog 46 0 = true := by kernel_rfl
theorem fs46_0 : fdS Try.prog 46 0 = true := by kernel_rfl
theorem fo46_1 : fdO Try.prog 46 1 = 1 := by kernel_rfl
theorem fn46_1 : fdN Try.prog 46 1 = 1 := by kernel_rfl
theorem fk46_1 : fdOk Try.prog 46 1 = true := by kernel_rfl
theorem fs46_1 : fdS Try.prog 46 1 = true := by kernel_rfl
theorem fo46_2 : fdO Try.prog 46 2 = 2 := by kernel_rfl
theorem fn46_2 : fdN Try.prog 46 2 = 1 := by kernel_rfl
theorem fk46_2 : fdOk Try.prog 46 2 = true := by kernel_rfl
theorem fs46_2 : fdS Try.prog 46 2 = true := by kernel_rfl
theorem sl47 : slT Try.prog 47 = some 1 := by kernel_rfl
theorem slz47 : slSz Try.prog 47 = 1 := by kernel_rfl
theorem zok47 : zOk Try.prog 47 = true := by kernel_rfl
theorem by47 : byN Try.prog 47 = 16 := by kernel_rfl
theorem zs47 : zsN Try.prog 47 = [.string ⟨#[]⟩] := by kernel_rfl
theorem nze47 : nzE Try.prog 47 = [none] := by kernel_rfl
theorem ag87 : agT Try.prog 87 = some true := by kernel_rfl
theorem ldA87 : ldA Try.prog 87 = true := by kernel_rfl
theorem nz87 : nzT Try.prog 87 = [none, none, none, none] := by kernel_rfl
theorem sz87 : szT Try.prog 87 = some 4 := by kernel_rfl
theorem szn87 : szN Try.prog 87 = 4 := by kernel_rfl
theorem zv87 : zvT Try.prog 87 = some [.string ⟨#[]⟩, .int .i64 0, .int .i64 0, .int .i64 0] := by kernel_rfl
theorem bd87 : bdOk Try.prog 87 = true := by kernel_rfl
theorem pl87_0 : plT Try.prog 87 0 = some (0, 1) := by kernel_rfl
theorem pl87_1 : plT Try.prog 87 1 = some (1, 1) := by kernel_rfl
theorem pl87_2 : plT Try.prog 87 2 = some (2, 1) := by kernel_rfl
theorem pl87_3 : plT Try.prog 87 3 = some (3, 1) := by kernel_rfl
theorem fo87_0 : fdO Try.prog 87 0 = 0 := by kernel_rfl
theorem fn87_0 : fdN Try.prog 87 0 = 1 := by kernel_rfl
theorem fk87_0 : fdOk Try.prog 87 0 = true := by kernel_rfl
theorem fs87_0 : fdS Try.prog 87 0 = true := by kernel_rfl
theorem fo87_1 : fdO Try.prog 87 1 = 1 := by kernel_rfl
theorem fn87_1 : fdN Try.prog 87 1 = 1 := by kernel_rfl
theorem fk87_1 : fdOk Try.prog 87 1 = true := by kernel_rfl
theorem fs87_1 : fdS Try.prog 87 1 = true := by kernel_rfl
theorem fo87_2 : fdO Try.prog 87 2 = 2 := by kernel_rfl
theorem fn87_2 : fdN Try.prog 87 2 = 1 := by kernel_rfl
theorem fk87_2 : fdOk Try.prog 87 2 = true := by kernel_rfl
theorem fs87_2 : fdS Try.prog 87 2 = true := by kernel_rfl
theorem fo87_3 : fdO Try.prog 87 3 = 3 := by kernel_rfl
theorem fn87_3 : fdN Try.prog 87 3 = 1 := by kernel_rfl
theorem fk87_3 : fdOk Try.prog 87 3 = true := by kernel_rfl
theorem fs87_3 : fdS Try.prog 87 3 = true := by kernel_rfl
theorem int98 : intKd Try.prog 98 = some .u64 := by kernel_rfl
theorem sl100 : slT Try.prog 100 = some 1 := by kernel_rfl
theorem slz100 : slSz Try.prog 100 = 1 := by kernel_rfl
theorem zok100 : zOk Try.prog 100 = true := by kernel_rfl
theorem by100 : byN Try.prog 100 = 1 := by kernel_rfl
theorem zs100 : zsN Try.prog 100 = [.int .u8 0] := by kernel_rfl
theorem nze100 : nzE Try.prog 100 = [none] := by kernel_rfl
theorem u8100 : u8sl Try.prog 100 = true := by kernel_rfl
theorem ldA102 : ldA Try.prog 102 = true := by kernel_rfl
theorem nz102 : nzT Try.prog 102 = [none, none, none, none] := by kernel_rfl
theorem sz102 : szT Try.prog 102 = some 4 := by kernel_rfl
theorem szn102 : szN Try.prog 102 = 4 := by kernel_rfl
theorem fo102_0 : fdO Try.prog 102 0 = 0 := by kernel_rfl
theorem fn102_0 : fdN Try.prog 102 0 = 1 := by kernel_rfl
theorem fk102_0 : fdOk Try.prog 102 0 = true := by kernel_rfl
theorem fs102_0 : fdS Try.prog 102 0 = true := by kernel_rfl
theorem fo102_1 : fdO Try.prog 102 1 = 1 := by kernel_rfl
theorem fn102_1 : fdN Try.prog 102 1 = 1 := by kernel_rfl
theorem fk102_1 : fdOk Try.prog 102 1 = true := by kernel_rfl
theorem fs102_1 : fdS Try.prog 102 1 = true := by kernel_rfl
theorem fo102_2 : fdO Try.prog 102 2 = 2 := by kernel_rfl
theorem fn102_2 : fdN Try.prog 102 2 = 1 := by kernel_rfl
theorem fk102_2 : fdOk Try.prog 102 2 = true := by kernel_rfl
theorem fs102_2 : fdS Try.prog 102 2 = true := by kernel_rfl
theorem fo102_3 : fdO Try.prog 102 3 = 3 := by kernel_rfl
theorem fn102_3 : fdN Try.prog 102 3 = 1 := by kernel_rfl
theorem fk102_3 : fdOk Try.prog 102 3 = true := by kernel_rfl
theorem fs102_3 : fdS Try.prog 102 3 = true := by kernel_rfl
end Ty
end Go.Av
