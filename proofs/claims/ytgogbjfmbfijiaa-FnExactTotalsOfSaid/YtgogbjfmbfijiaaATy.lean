/- What the types of this translation are. -/
import Derived.Test.YtgogbjfmbfijiaaAZzN
import Derived.Test.YtgogbjfmbfijiaaProg
/-! What the types of this translation are. -/
namespace Go.Av
open Go.Proofs
namespace Ty
theorem ldA3 : ldA Try.prog 3 = false := by kernel_rfl
theorem ldS3 : ldS Try.prog 3 = true := by kernel_rfl
theorem nz3 : nzT Try.prog 3 = [none] := by kernel_rfl
theorem sz3 : szT Try.prog 3 = some 1 := by kernel_rfl
theorem szn3 : szN Try.prog 3 = 1 := by kernel_rfl
theorem int3 : intKd Try.prog 3 = some .i64 := by kernel_rfl
theorem bl4 : isBl Try.prog 4 = true := by kernel_rfl
theorem int5 : intKd Try.prog 5 = some .u8 := by kernel_rfl
theorem ldA9 : ldA Try.prog 9 = false := by kernel_rfl
theorem ldS9 : ldS Try.prog 9 = true := by kernel_rfl
theorem nz9 : nzT Try.prog 9 = [none] := by kernel_rfl
theorem sz9 : szT Try.prog 9 = some 1 := by kernel_rfl
theorem szn9 : szN Try.prog 9 = 1 := by kernel_rfl
theorem str9 : isStr Try.prog 9 = true := by kernel_rfl
theorem sl22 : slT Try.prog 22 = some 1 := by kernel_rfl
theorem slz22 : slSz Try.prog 22 = 1 := by kernel_rfl
theorem zok22 : zOk Try.prog 22 = true := by kernel_rfl
theorem by22 : byN Try.prog 22 = 8 := by kernel_rfl
theorem zs22 : zsN Try.prog 22 = [.int .i64 0] := by kernel_rfl
theorem nze22 : nzE Try.prog 22 = [none] := by kernel_rfl
theorem sl28 : slT Try.prog 28 = some 4 := by kernel_rfl
theorem slz28 : slSz Try.prog 28 = 4 := by kernel_rfl
theorem sl30 : slT Try.prog 30 = some 4 := by kernel_rfl
theorem slz30 : slSz Try.prog 30 = 4 := by kernel_rfl
theorem zok30 : zOk Try.prog 30 = true := by kernel_rfl
theorem by30 : byN Try.prog 30 = 40 := by kernel_rfl
theorem zs30 : zsN Try.prog 30 = [.string ⟨#[]⟩, .int .i64 0, .int .i64 0, .int .i64 0] := by kernel_rfl
theorem nze30 : nzE Try.prog 30 = [none, none, none, none] := by kernel_rfl
theorem sl33 : slT Try.prog 33 = some 4 := by kernel_rfl
theorem slz33 : slSz Try.prog 33 = 4 := by kernel_rfl
theorem zok33 : zOk Try.prog 33 = true := by kernel_rfl
theorem by33 : byN Try.prog 33 = 40 := by kernel_rfl
theorem zs33 : zsN Try.prog 33 = [.string ⟨#[]⟩, .int .i64 0, .int .i64 0, .int .i64 0] := by kernel_rfl
theorem ldA33 : ldA Try.prog 33 = false := by kernel_rfl
theorem ldS33 : ldS Try.prog 33 = true := by kernel_rfl
theorem nz33 : nzT Try.prog 33 = [some 4] := by kernel_rfl
theorem nze33 : nzE Try.prog 33 = [none, none, none, none] := by kernel_rfl
theorem sz33 : szT Try.prog 33 = some 1 := by kernel_rfl
theorem szn33 : szN Try.prog 33 = 1 := by kernel_rfl
theorem sl47 : slT Try.prog 47 = some 1 := by kernel_rfl
theorem slz47 : slSz Try.prog 47 = 1 := by kernel_rfl
theorem zok47 : zOk Try.prog 47 = true := by kernel_rfl
theorem by47 : byN Try.prog 47 = 16 := by kernel_rfl
theorem zs47 : zsN Try.prog 47 = [.string ⟨#[]⟩] := by kernel_rfl
theorem nze47 : nzE Try.prog 47 = [none] := by kernel_rfl
theorem ldA65 : ldA Try.prog 65 = true := by kernel_rfl
theorem nz65 : nzT Try.prog 65 = [none, none, none, none] := by kernel_rfl
theorem sz65 : szT Try.prog 65 = some 4 := by kernel_rfl
theorem szn65 : szN Try.prog 65 = 4 := by kernel_rfl
theorem fo65_0 : fdO Try.prog 65 0 = 0 := by kernel_rfl
theorem fn65_0 : fdN Try.prog 65 0 = 1 := by kernel_rfl
theorem fk65_0 : fdOk Try.prog 65 0 = true := by kernel_rfl
theorem fs65_0 : fdS Try.prog 65 0 = true := by kernel_rfl
theorem fo65_1 : fdO Try.prog 65 1 = 1 := by kernel_rfl
theorem fn65_1 : fdN Try.prog 65 1 = 1 := by kernel_rfl
theorem fk65_1 : fdOk Try.prog 65 1 = true := by kernel_rfl
theorem fs65_1 : fdS Try.prog 65 1 = true := by kernel_rfl
theorem fo65_2 : fdO Try.prog 65 2 = 2 := by kernel_rfl
theorem fn65_2 : fdN Try.prog 65 2 = 1 := by kernel_rfl
theorem fk65_2 : fdOk Try.prog 65 2 = true := by kernel_rfl
theorem fs65_2 : fdS Try.prog 65 2 = true := by kernel_rfl
theorem fo65_3 : fdO Try.prog 65 3 = 3 := by kernel_rfl
theorem fn65_3 : fdN Try.prog 65 3 = 1 := by kernel_rfl
theorem fk65_3 : fdOk Try.prog 65 3 = true := by kernel_rfl
theorem fs65_3 : fdS Try.prog 65 3 = true := by kernel_rfl
theorem ag67 : agT Try.prog 67 = some true := by kernel_rfl
theorem ldA67 : ldA Try.prog 67 = true := by kernel_rfl
theorem nz67 : nzT Try.prog 67 = [none, none, none, none] := by kernel_rfl
theorem sz67 : szT Try.prog 67 = some 4 := by kernel_rfl
theorem szn67 : szN Try.prog 67 = 4 := by kernel_rfl
theorem zv67 : zvT Try.prog 67 = some [.string ⟨#[]⟩, .int .i64 0, .int .i64 0, .int .i64 0] := by kernel_rfl
theorem fo67_0 : fdO Try.prog 67 0 = 0 := by kernel_rfl
theorem fn67_0 : fdN Try.prog 67 0 = 1 := by kernel_rfl
theorem fk67_0 : fdOk Try.prog 67 0 = true := by kernel_rfl
theorem fs67_0 : fdS Try.prog 67 0 = true := by kernel_rfl
theorem fo67_1 : fdO Try.prog 67 1 = 1 := by kernel_rfl
theorem fn67_1 : fdN Try.prog 67 1 = 1 := by kernel_rfl
theorem fk67_1 : fdOk Try.prog 67 1 = true := by kernel_rfl
theorem fs67_1 : fdS Try.prog 67 1 = true := by kernel_rfl
theorem fo67_2 : fdO Try.prog 67 2 = 2 := by kernel_rfl
theorem fn67_2 : fdN Try.prog 67 2 = 1 := by kernel_rfl
theorem fk67_2 : fdOk Try.prog 67 2 = true := by kernel_rfl
theorem fs67_2 : fdS Try.prog 67 2 = true := by kernel_rfl
theorem fo67_3 : fdO Try.prog 67 3 = 3 := by kernel_rfl
theorem fn67_3 : fdN Try.prog 67 3 = 1 := by kernel_rfl
theorem fk67_3 : fdOk Try.prog 67 3 = true := by kernel_rfl
theorem fs67_3 : fdS Try.prog 67 3 = true := by kernel_rfl
theorem ldA71 : ldA Try.prog 71 = true := by kernel_rfl
theorem nz71 : nzT Try.prog 71 = [none, none, none, none] := by kernel_rfl
theorem sz71 : szT Try.prog 71 = some 4 := by kernel_rfl
theorem szn71 : szN Try.prog 71 = 4 := by kernel_rfl
theorem zv71 : zvT Try.prog 71 = some [.string ⟨#[]⟩, .int .i64 0, .int .i64 0, .int .i64 0] := by kernel_rfl
theorem bd71 : bdOk Try.prog 71 = true := by kernel_rfl
theorem pl71_0 : plT Try.prog 71 0 = some (0, 1) := by kernel_rfl
theorem fo71_0 : fdO Try.prog 71 0 = 0 := by kernel_rfl
theorem fn71_0 : fdN Try.prog 71 0 = 1 := by kernel_rfl
theorem fk71_0 : fdOk Try.prog 71 0 = true := by kernel_rfl
theorem fs71_0 : fdS Try.prog 71 0 = true := by kernel_rfl
theorem fo71_1 : fdO Try.prog 71 1 = 1 := by kernel_rfl
theorem fn71_1 : fdN Try.prog 71 1 = 1 := by kernel_rfl
theorem fk71_1 : fdOk Try.prog 71 1 = true := by kernel_rfl
theorem fs71_1 : fdS Try.prog 71 1 = true := by kernel_rfl
theorem fo71_2 : fdO Try.prog 71 2 = 2 := by kernel_rfl
theorem fn71_2 : fdN Try.prog 71 2 = 1 := by kernel_rfl
theorem fk71_2 : fdOk Try.prog 71 2 = true := by kernel_rfl
theorem fs71_2 : fdS Try.prog 71 2 = true := by kernel_rfl
theorem fo71_3 : fdO Try.prog 71 3 = 3 := by kernel_rfl
theorem fn71_3 : fdN Try.prog 71 3 = 1 := by kernel_rfl
theorem fk71_3 : fdOk Try.prog 71 3 = true := by kernel_rfl
theorem fs71_3 : fdS Try.prog 71 3 = true := by kernel_rfl
theorem int98 : intKd Try.prog 98 = some .u64 := by kernel_rfl
theorem sl100 : slT Try.prog 100 = some 1 := by kernel_rfl
theorem slz100 : slSz Try.prog 100 = 1 := by kernel_rfl
theorem zok100 : zOk Try.prog 100 = true := by kernel_rfl
theorem by100 : byN Try.prog 100 = 1 := by kernel_rfl
theorem zs100 : zsN Try.prog 100 = [.int .u8 0] := by kernel_rfl
theorem nze100 : nzE Try.prog 100 = [none] := by kernel_rfl
theorem u8100 : u8sl Try.prog 100 = true := by kernel_rfl
end Ty
end Go.Av
