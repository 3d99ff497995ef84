/- What the types of this translation are. -/
import Derived.Test.YtbldpkglmjajlaaBZzN
import Derived.Test.YtbldpkglmjajlaaProg
/-! What the types of this translation are. -/
namespace Go.Av
open Go.Proofs
namespace Ty
theorem ldA3 : ldA Try.prog 3 = false := by kernel_rfl
theorem ldS3 : ldS Try.prog 3 = true := by kernel_rfl
theorem nz3 : nzT Try.prog 3 = [none] := by kernel_rfl
theorem sz3 : szT Try.prog 3 = some 1 := by kernel_rfl
theorem szn3 : szN Try.prog 3 = 1 := by kernel_rfl
theorem int3 : intKd Try.prog 3 = some .i64 := by kernel_rfl
theorem bl4 : isBl Try.prog 4 = true := by kernel_rfl
theorem int5 : intKd Try.prog 5 = some .u8 := by kernel_rfl
theorem ldA9 : ldA Try.prog 9 = false := by kernel_rfl
theorem ldS9 : ldS Try.prog 9 = true := by kernel_rfl
theorem nz9 : nzT Try.prog 9 = [none] := by kernel_rfl
theorem sz9 : szT Try.prog 9 = some 1 := by kernel_rfl
theorem szn9 : szN Try.prog 9 = 1 := by kernel_rfl
theorem str9 : isStr Try.prog 9 = true := by kernel_rfl
theorem sl22 : slT Try.prog 22 = some 3 := by kernel_rfl
theorem slz22 : slSz Try.prog 22 = 3 := by kernel_rfl
theorem sl24 : slT Try.prog 24 = some 1 := by kernel_rfl
theorem slz24 : slSz Try.prog 24 = 1 := by kernel_rfl
theorem zok24 : zOk Try.prog 24 = true := by kernel_rfl
theorem by24 : byN Try.prog 24 = 16 := by kernel_rfl
theorem zs24 : zsN Try.prog 24 = [.string ⟨#[]⟩] := by kernel_rfl
theorem ldA24 : ldA Try.prog 24 = false := by kernel_rfl
theorem ldS24 : ldS Try.prog 24 = true := by kernel_rfl
theorem nz24 : nzT Try.prog 24 = [some 1] := by kernel_rfl
theorem nze24 : nzE Try.prog 24 = [none] := by kernel_rfl
theorem sz24 : szT Try.prog 24 = some 1 := by kernel_rfl
theorem szn24 : szN Try.prog 24 = 1 := by kernel_rfl
theorem sl27 : slT Try.prog 27 = some 3 := by kernel_rfl
theorem slz27 : slSz Try.prog 27 = 3 := by kernel_rfl
theorem zok27 : zOk Try.prog 27 = true := by kernel_rfl
theorem by27 : byN Try.prog 27 = 32 := by kernel_rfl
theorem zs27 : zsN Try.prog 27 = [.string ⟨#[]⟩, .int .i64 0, .int .i64 0] := by kernel_rfl
theorem nze27 : nzE Try.prog 27 = [none, none, none] := by kernel_rfl
theorem sl34 : slT Try.prog 34 = some 2 := by kernel_rfl
theorem slz34 : slSz Try.prog 34 = 2 := by kernel_rfl
theorem zok34 : zOk Try.prog 34 = true := by kernel_rfl
theorem by34 : byN Try.prog 34 = 32 := by kernel_rfl
theorem zs34 : zsN Try.prog 34 = [.slice none 0 0, .int .i64 0] := by kernel_rfl
theorem nze34 : nzE Try.prog 34 = [some 1, none] := by kernel_rfl
theorem ldA42 : ldA Try.prog 42 = true := by kernel_rfl
theorem nz42 : nzT Try.prog 42 = [none, none, none] := by kernel_rfl
theorem sz42 : szT Try.prog 42 = some 3 := by kernel_rfl
theorem szn42 : szN Try.prog 42 = 3 := by kernel_rfl
theorem fo42_0 : fdO Try.prog 42 0 = 0 := by kernel_rfl
theorem fn42_0 : fdN Try.prog 42 0 = 1 := by kernel_rfl
theorem fk42_0 : fdOk Try.prog 42 0 = true := by kernel_rfl
theorem fs42_0 : fdS Try.prog 42 0 = true := by kernel_rfl
theorem fo42_1 : fdO Try.prog 42 1 = 1 := by kernel_rfl
theorem fn42_1 : fdN Try.prog 42 1 = 1 := by kernel_rfl
theorem fk42_1 : fdOk Try.prog 42 1 = true := by kernel_rfl
theorem fs42_1 : fdS Try.prog 42 1 = true := by kernel_rfl
theorem fo42_2 : fdO Try.prog 42 2 = 2 := by kernel_rfl
theorem fn42_2 : fdN Try.prog 42 2 = 1 := by kernel_rfl
theorem fk42_2 : fdOk Try.prog 42 2 = true := by kernel_rfl
theorem fs42_2 : fdS Try.prog 42 2 = true := by kernel_rfl
theorem ag45 : agT Try.prog 45 = some true := by kernel_rfl
theorem ldA45 : ldA Try.prog 45 = true := by kernel_rfl
theorem nz45 : nzT Try.prog 45 = [none, none, none] := by kernel_rfl
theorem sz45 : szT Try.prog 45 = some 3 := by kernel_rfl
theorem szn45 : szN Try.prog 45 = 3 := by kernel_rfl
theorem zv45 : zvT Try.prog 45 = some [.string ⟨#[]⟩, .int .i64 0, .int .i64 0] := by kernel_rfl
theorem fo45_0 : fdO Try.prog 45 0 = 0 := by kernel_rfl
theorem fn45_0 : fdN Try.prog 45 0 = 1 := by kernel_rfl
theorem fk45_0 : fdOk Try.prog 45 0 = true := by kernel_rfl
theorem fs45_0 : fdS Try.prog 45 0 = true := by kernel_rfl
theorem fo45_1 : fdO Try.prog 45 1 = 1 := by kernel_rfl
theorem fn45_1 : fdN Try.prog 45 1 = 1 := by kernel_rfl
theorem fk45_1 : fdOk Try.prog 45 1 = true := by kernel_rfl
theorem fs45_1 : fdS Try.prog 45 1 = true := by kernel_rfl
theorem fo45_2 : fdO Try.prog 45 2 = 2 := by kernel_rfl
theorem fn45_2 : fdN Try.prog 45 2 = 1 := by kernel_rfl
theorem fk45_2 : fdOk Try.prog 45 2 = true := by kernel_rfl
theorem fs45_2 : fdS Try.prog 45 2 = true := by kernel_rfl
theorem int56 : intKd Try.prog 56 = some .u64 := by kernel_rfl
theorem ag58 : agT Try.prog 58 = some true := by kernel_rfl
theorem ldA58 : ldA Try.prog 58 = true := by kernel_rfl
theorem nz58 : nzT Try.prog 58 = [some 1, none] := by kernel_rfl
theorem sz58 : szT Try.prog 58 = some 2 := by kernel_rfl
theorem szn58 : szN Try.prog 58 = 2 := by kernel_rfl
theorem zv58 : zvT Try.prog 58 = some [.slice none 0 0, .int .i64 0] := by kernel_rfl
theorem bd58 : bdOk Try.prog 58 = true := by kernel_rfl
theorem fo58_0 : fdO Try.prog 58 0 = 0 := by kernel_rfl
theorem fn58_0 : fdN Try.prog 58 0 = 1 := by kernel_rfl
theorem fk58_0 : fdOk Try.prog 58 0 = true := by kernel_rfl
theorem fs58_0 : fdS Try.prog 58 0 = true := by kernel_rfl
theorem fo58_1 : fdO Try.prog 58 1 = 1 := by kernel_rfl
theorem fn58_1 : fdN Try.prog 58 1 = 1 := by kernel_rfl
theorem fk58_1 : fdOk Try.prog 58 1 = true := by kernel_rfl
theorem fs58_1 : fdS Try.prog 58 1 = true := by kernel_rfl
theorem sl63 : slT Try.prog 63 = some 1 := by kernel_rfl
theorem slz63 : slSz Try.prog 63 = 1 := by kernel_rfl
theorem zok63 : zOk Try.prog 63 = true := by kernel_rfl
theorem by63 : byN Try.prog 63 = 8 := by kernel_rfl
theorem zs63 : zsN Try.prog 63 = [.int .i64 0] := by kernel_rfl
theorem nze63 : nzE Try.prog 63 = [none] := by kernel_rfl
theorem sl64 : slT Try.prog 64 = some 1 := by kernel_rfl
theorem slz64 : slSz Try.prog 64 = 1 := by kernel_rfl
theorem zok64 : zOk Try.prog 64 = true := by kernel_rfl
theorem by64 : byN Try.prog 64 = 1 := by kernel_rfl
theorem zs64 : zsN Try.prog 64 = [.int .u8 0] := by kernel_rfl
theorem nze64 : nzE Try.prog 64 = [none] := by kernel_rfl
theorem u864 : u8sl Try.prog 64 = true := by kernel_rfl
theorem int66 : intKd Try.prog 66 = some .u32 := by kernel_rfl
theorem int68 : intKd Try.prog 68 = some .u64 := by kernel_rfl
end Ty
end Go.Av
