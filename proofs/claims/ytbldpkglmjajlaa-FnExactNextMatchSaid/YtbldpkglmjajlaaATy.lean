/- What the types of this translation are. -/
import Derived.Test.YtbldpkglmjajlaaAZzN
import Derived.Test.YtbldpkglmjajlaaProg
/-! What the types of this translation are. -/
namespace Go.Av
open Go.Proofs
namespace Ty
theorem ag2 : agT Try.prog 2 = some false := by kernel_rfl
theorem ldA2 : ldA Try.prog 2 = false := by kernel_rfl
theorem ldS2 : ldS Try.prog 2 = true := by kernel_rfl
theorem nz2 : nzT Try.prog 2 = [none] := by kernel_rfl
theorem sz2 : szT Try.prog 2 = some 1 := by kernel_rfl
theorem szn2 : szN Try.prog 2 = 1 := by kernel_rfl
theorem zv2 : zvT Try.prog 2 = some [.int .i64 0] := by kernel_rfl
theorem int2 : intKd Try.prog 2 = some .i64 := by kernel_rfl
theorem ag3 : agT Try.prog 3 = some false := by kernel_rfl
theorem ldA3 : ldA Try.prog 3 = false := by kernel_rfl
theorem ldS3 : ldS Try.prog 3 = true := by kernel_rfl
theorem nz3 : nzT Try.prog 3 = [none] := by kernel_rfl
theorem sz3 : szT Try.prog 3 = some 1 := by kernel_rfl
theorem szn3 : szN Try.prog 3 = 1 := by kernel_rfl
theorem zv3 : zvT Try.prog 3 = some [.int .i64 0] := by kernel_rfl
theorem int3 : intKd Try.prog 3 = some .i64 := by kernel_rfl
theorem ag4 : agT Try.prog 4 = some false := by kernel_rfl
theorem ldA4 : ldA Try.prog 4 = false := by kernel_rfl
theorem ldS4 : ldS Try.prog 4 = true := by kernel_rfl
theorem nz4 : nzT Try.prog 4 = [none] := by kernel_rfl
theorem sz4 : szT Try.prog 4 = some 1 := by kernel_rfl
theorem szn4 : szN Try.prog 4 = 1 := by kernel_rfl
theorem zv4 : zvT Try.prog 4 = some [.bool false] := by kernel_rfl
theorem bl4 : isBl Try.prog 4 = true := by kernel_rfl
theorem ag5 : agT Try.prog 5 = some false := by kernel_rfl
theorem ldA5 : ldA Try.prog 5 = false := by kernel_rfl
theorem ldS5 : ldS Try.prog 5 = true := by kernel_rfl
theorem nz5 : nzT Try.prog 5 = [none] := by kernel_rfl
theorem sz5 : szT Try.prog 5 = some 1 := by kernel_rfl
theorem szn5 : szN Try.prog 5 = 1 := by kernel_rfl
theorem zv5 : zvT Try.prog 5 = some [.int .u8 0] := by kernel_rfl
theorem int5 : intKd Try.prog 5 = some .u8 := by kernel_rfl
theorem ag6 : agT Try.prog 6 = some false := by kernel_rfl
theorem ldA6 : ldA Try.prog 6 = false := by kernel_rfl
theorem ldS6 : ldS Try.prog 6 = true := by kernel_rfl
theorem nz6 : nzT Try.prog 6 = [none] := by kernel_rfl
theorem sz6 : szT Try.prog 6 = some 1 := by kernel_rfl
theorem szn6 : szN Try.prog 6 = 1 := by kernel_rfl
theorem zv6 : zvT Try.prog 6 = some [.int .u8 0] := by kernel_rfl
theorem int6 : intKd Try.prog 6 = some .u8 := by kernel_rfl
theorem ag7 : agT Try.prog 7 = some true := by kernel_rfl
theorem ldA7 : ldA Try.prog 7 = true := by kernel_rfl
theorem nz7 : nzT Try.prog 7 = [none, none, none, none] := by kernel_rfl
theorem sz7 : szT Try.prog 7 = some 4 := by kernel_rfl
theorem szn7 : szN Try.prog 7 = 4 := by kernel_rfl
theorem zv7 : zvT Try.prog 7 = some [.int .i64 0, .int .i64 0, .bool false, .int .u8 0] := by kernel_rfl
theorem bd7 : bdOk Try.prog 7 = true := by kernel_rfl
theorem pl7_0 : plT Try.prog 7 0 = some (0, 1) := by kernel_rfl
theorem pl7_1 : plT Try.prog 7 1 = some (1, 1) := by kernel_rfl
theorem pl7_2 : plT Try.prog 7 2 = some (2, 1) := by kernel_rfl
theorem pl7_3 : plT Try.prog 7 3 = some (3, 1) := by kernel_rfl
theorem fo7_0 : fdO Try.prog 7 0 = 0 := by kernel_rfl
theorem fn7_0 : fdN Try.prog 7 0 = 1 := by kernel_rfl
theorem fk7_0 : fdOk Try.prog 7 0 = true := by kernel_rfl
theorem fs7_0 : fdS Try.prog 7 0 = true := by kernel_rfl
theorem fo7_1 : fdO Try.prog 7 1 = 1 := by kernel_rfl
theorem fn7_1 : fdN Try.prog 7 1 = 1 := by kernel_rfl
theorem fk7_1 : fdOk Try.prog 7 1 = true := by kernel_rfl
theorem fs7_1 : fdS Try.prog 7 1 = true := by kernel_rfl
theorem fo7_2 : fdO Try.prog 7 2 = 2 := by kernel_rfl
theorem fn7_2 : fdN Try.prog 7 2 = 1 := by kernel_rfl
theorem fk7_2 : fdOk Try.prog 7 2 = true := by kernel_rfl
theorem fs7_2 : fdS Try.prog 7 2 = true := by kernel_rfl
theorem fo7_3 : fdO Try.prog 7 3 = 3 := by kernel_rfl
theorem fn7_3 : fdN Try.prog 7 3 = 1 := by kernel_rfl
theorem fk7_3 : fdOk Try.prog 7 3 = true := by kernel_rfl
theorem fs7_3 : fdS Try.prog 7 3 = true := by kernel_rfl
theorem ag8 : agT Try.prog 8 = some true := by kernel_rfl
theorem ldA8 : ldA Try.prog 8 = true := by kernel_rfl
theorem nz8 : nzT Try.prog 8 = [none, none, none, none] := by kernel_rfl
theorem sz8 : szT Try.prog 8 = some 4 := by kernel_rfl
theorem szn8 : szN Try.prog 8 = 4 := by kernel_rfl
theorem zv8 : zvT Try.prog 8 = some [.int .i64 0, .int .i64 0, .bool false, .int .u8 0] := by kernel_rfl
theorem bd8 : bdOk Try.prog 8 = true := by kernel_rfl
theorem pl8_0 : plT Try.prog 8 0 = some (0, 1) := by kernel_rfl
theorem pl8_1 : plT Try.prog 8 1 = some (1, 1) := by kernel_rfl
theorem pl8_2 : plT Try.prog 8 2 = some (2, 1) := by kernel_rfl
theorem pl8_3 : plT Try.prog 8 3 = some (3, 1) := by kernel_rfl
theorem fo8_0 : fdO Try.prog 8 0 = 0 := by kernel_rfl
theorem fn8_0 : fdN Try.prog 8 0 = 1 := by kernel_rfl
theorem fk8_0 : fdOk Try.prog 8 0 = true := by kernel_rfl
theorem fs8_0 : fdS Try.prog 8 0 = true := by kernel_rfl
theorem fo8_1 : fdO Try.prog 8 1 = 1 := by kernel_rfl
theorem fn8_1 : fdN Try.prog 8 1 = 1 := by kernel_rfl
theorem fk8_1 : fdOk Try.prog 8 1 = true := by kernel_rfl
theorem fs8_1 : fdS Try.prog 8 1 = true := by kernel_rfl
theorem fo8_2 : fdO Try.prog 8 2 = 2 := by kernel_rfl
theorem fn8_2 : fdN Try.prog 8 2 = 1 := by kernel_rfl
theorem fk8_2 : fdOk Try.prog 8 2 = true := by kernel_rfl
theorem fs8_2 : fdS Try.prog 8 2 = true := by kernel_rfl
theorem fo8_3 : fdO Try.prog 8 3 = 3 := by kernel_rfl
theorem fn8_3 : fdN Try.prog 8 3 = 1 := by kernel_rfl
theorem fk8_3 : fdOk Try.prog 8 3 = true := by kernel_rfl
theorem fs8_3 : fdS Try.prog 8 3 = true := by kernel_rfl
theorem ag9 : agT Try.prog 9 = some false := by kernel_rfl
theorem ldA9 : ldA Try.prog 9 = false := by kernel_rfl
theorem ldS9 : ldS Try.prog 9 = true := by kernel_rfl
theorem nz9 : nzT Try.prog 9 = [none] := by kernel_rfl
theorem sz9 : szT Try.prog 9 = some 1 := by kernel_rfl
theorem szn9 : szN Try.prog 9 = 1 := by kernel_rfl
theorem zv9 : zvT Try.prog 9 = some [.string ⟨#[]⟩] := by kernel_rfl
theorem str9 : isStr Try.prog 9 = true := by kernel_rfl
theorem ag10 : agT Try.prog 10 = some false := by kernel_rfl
theorem ldA10 : ldA Try.prog 10 = false := by kernel_rfl
theorem ldS10 : ldS Try.prog 10 = true := by kernel_rfl
theorem nz10 : nzT Try.prog 10 = [none] := by kernel_rfl
theorem sz10 : szT Try.prog 10 = some 1 := by kernel_rfl
theorem szn10 : szN Try.prog 10 = 1 := by kernel_rfl
theorem zv10 : zvT Try.prog 10 = some [.string ⟨#[]⟩] := by kernel_rfl
theorem str10 : isStr Try.prog 10 = true := by kernel_rfl
theorem ag11 : agT Try.prog 11 = some false := by kernel_rfl
theorem ldA11 : ldA Try.prog 11 = false := by kernel_rfl
theorem ldS11 : ldS Try.prog 11 = true := by kernel_rfl
theorem nz11 : nzT Try.prog 11 = [none] := by kernel_rfl
theorem sz11 : szT Try.prog 11 = some 1 := by kernel_rfl
theorem szn11 : szN Try.prog 11 = 1 := by kernel_rfl
theorem zv11 : zvT Try.prog 11 = some [.string ⟨#[]⟩] := by kernel_rfl
theorem str11 : isStr Try.prog 11 = true := by kernel_rfl
theorem ag12 : agT Try.prog 12 = some false := by kernel_rfl
theorem ldA12 : ldA Try.prog 12 = false := by kernel_rfl
theorem ldS12 : ldS Try.prog 12 = true := by kernel_rfl
theorem nz12 : nzT Try.prog 12 = [none] := by kernel_rfl
theorem sz12 : szT Try.prog 12 = some 1 := by kernel_rfl
theorem szn12 : szN Try.prog 12 = 1 := by kernel_rfl
theorem zv12 : zvT Try.prog 12 = some [.int .u64 0] := by kernel_rfl
theorem int12 : intKd Try.prog 12 = some .u64 := by kernel_rfl
theorem ag13 : agT Try.prog 13 = some true := by kernel_rfl
theorem ldA13 : ldA Try.prog 13 = true := by kernel_rfl
theorem nz13 : nzT Try.prog 13 = [none, none] := by kernel_rfl
theorem sz13 : szT Try.prog 13 = some 2 := by kernel_rfl
theorem szn13 : szN Try.prog 13 = 2 := by kernel_rfl
theorem zv13 : zvT Try.prog 13 = some [.string ⟨#[]⟩, .int .u64 0] := by kernel_rfl
theorem bd13 : bdOk Try.prog 13 = true := by kernel_rfl
theorem pl13_0 : plT Try.prog 13 0 = some (0, 1) := by kernel_rfl
theorem pl13_1 : plT Try.prog 13 1 = some (1, 1) := by kernel_rfl
theorem fo13_0 : fdO Try.prog 13 0 = 0 := by kernel_rfl
theorem fn13_0 : fdN Try.prog 13 0 = 1 := by kernel_rfl
theorem fk13_0 : fdOk Try.prog 13 0 = true := by kernel_rfl
theorem fs13_0 : fdS Try.prog 13 0 = true := by kernel_rfl
theorem fo13_1 : fdO Try.prog 13 1 = 1 := by kernel_rfl
theorem fn13_1 : fdN Try.prog 13 1 = 1 := by kernel_rfl
theorem fk13_1 : fdOk Try.prog 13 1 = true := by kernel_rfl
theorem fs13_1 : fdS Try.prog 13 1 = true := by kernel_rfl
theorem ag14 : agT Try.prog 14 = some true := by kernel_rfl
theorem ldA14 : ldA Try.prog 14 = true := by kernel_rfl
theorem nz14 : nzT Try.prog 14 = [none, none] := by kernel_rfl
theorem sz14 : szT Try.prog 14 = some 2 := by kernel_rfl
theorem szn14 : szN Try.prog 14 = 2 := by kernel_rfl
theorem zv14 : zvT Try.prog 14 = some [.string ⟨#[]⟩, .int .u64 0] := by kernel_rfl
theorem bd14 : bdOk Try.prog 14 = true := by kernel_rfl
theorem pl14_0 : plT Try.prog 14 0 = some (0, 1) := by kernel_rfl
theorem pl14_1 : plT Try.prog 14 1 = some (1, 1) := by kernel_rfl
theorem fo14_0 : fdO Try.prog 14 0 = 0 := by kernel_rfl
theorem fn14_0 : fdN Try.prog 14 0 = 1 := by kernel_rfl
theorem fk14_0 : fdOk Try.prog 14 0 = true := by kernel_rfl
theorem fs14_0 : fdS Try.prog 14 0 = true := by kernel_rfl
theorem fo14_1 : fdO Try.prog 14 1 = 1 := by kernel_rfl
theorem fn14_1 : fdN Try.prog 14 1 = 1 := by kernel_rfl
theorem fk14_1 : fdOk Try.prog 14 1 = true := by kernel_rfl
theorem fs14_1 : fdS Try.prog 14 1 = true := by kernel_rfl
theorem ag15 : agT Try.prog 15 = some false := by kernel_rfl
theorem ldA15 : ldA Try.prog 15 = false := by kernel_rfl
theorem ldS15 : ldS Try.prog 15 = true := by kernel_rfl
theorem nz15 : nzT Try.prog 15 = [none] := by kernel_rfl
theorem sz15 : szT Try.prog 15 = some 1 := by kernel_rfl
theorem szn15 : szN Try.prog 15 = 1 := by kernel_rfl
theorem zv15 : zvT Try.prog 15 = some [.pointer none] := by kernel_rfl
theorem ag16 : agT Try.prog 16 = some false := by kernel_rfl
theorem ldA16 : ldA Try.prog 16 = false := by kernel_rfl
theorem ldS16 : ldS Try.prog 16 = true := by kernel_rfl
theorem nz16 : nzT Try.prog 16 = [none] := by kernel_rfl
theorem sz16 : szT Try.prog 16 = some 1 := by kernel_rfl
theorem szn16 : szN Try.prog 16 = 1 := by kernel_rfl
theorem zv16 : zvT Try.prog 16 = some [.pointer none] := by kernel_rfl
theorem ag17 : agT Try.prog 17 = some false := by kernel_rfl
theorem ldA17 : ldA Try.prog 17 = false := by kernel_rfl
theorem ldS17 : ldS Try.prog 17 = true := by kernel_rfl
theorem nz17 : nzT Try.prog 17 = [none] := by kernel_rfl
theorem sz17 : szT Try.prog 17 = some 1 := by kernel_rfl
theorem szn17 : szN Try.prog 17 = 1 := by kernel_rfl
theorem zv17 : zvT Try.prog 17 = some [.pointer none] := by kernel_rfl
theorem ag18 : agT Try.prog 18 = some true := by kernel_rfl
theorem ldA18 : ldA Try.prog 18 = true := by kernel_rfl
theorem nz18 : nzT Try.prog 18 = [none] := by kernel_rfl
theorem sz18 : szT Try.prog 18 = some 1 := by kernel_rfl
theorem szn18 : szN Try.prog 18 = 1 := by kernel_rfl
theorem zv18 : zvT Try.prog 18 = some [.pointer none] := by kernel_rfl
theorem bd18 : bdOk Try.prog 18 = true := by kernel_rfl
theorem pl18_0 : plT Try.prog 18 0 = some (0, 1) := by kernel_rfl
theorem fo18_0 : fdO Try.prog 18 0 = 0 := by kernel_rfl
theorem fn18_0 : fdN Try.prog 18 0 = 1 := by kernel_rfl
theorem fk18_0 : fdOk Try.prog 18 0 = true := by kernel_rfl
theorem fs18_0 : fdS Try.prog 18 0 = true := by kernel_rfl
theorem ag19 : agT Try.prog 19 = some true := by kernel_rfl
theorem ldA19 : ldA Try.prog 19 = true := by kernel_rfl
theorem nz19 : nzT Try.prog 19 = [none] := by kernel_rfl
theorem sz19 : szT Try.prog 19 = some 1 := by kernel_rfl
theorem szn19 : szN Try.prog 19 = 1 := by kernel_rfl
theorem zv19 : zvT Try.prog 19 = some [.pointer none] := by kernel_rfl
theorem bd19 : bdOk Try.prog 19 = true := by kernel_rfl
theorem pl19_0 : plT Try.prog 19 0 = some (0, 1) := by kernel_rfl
theorem fo19_0 : fdO Try.prog 19 0 = 0 := by kernel_rfl
theorem fn19_0 : fdN Try.prog 19 0 = 1 := by kernel_rfl
theorem fk19_0 : fdOk Try.prog 19 0 = true := by kernel_rfl
theorem fs19_0 : fdS Try.prog 19 0 = true := by kernel_rfl
theorem ag21 : agT Try.prog 21 = some false := by kernel_rfl
theorem ldA21 : ldA Try.prog 21 = false := by kernel_rfl
theorem ldS21 : ldS Try.prog 21 = true := by kernel_rfl
theorem nz21 : nzT Try.prog 21 = [none] := by kernel_rfl
theorem sz21 : szT Try.prog 21 = some 1 := by kernel_rfl
theorem szn21 : szN Try.prog 21 = 1 := by kernel_rfl
theorem zv21 : zvT Try.prog 21 = some [.int .i32 0] := by kernel_rfl
theorem int21 : intKd Try.prog 21 = some .i32 := by kernel_rfl
theorem sl22 : slT Try.prog 22 = some 3 := by kernel_rfl
theorem slz22 : slSz Try.prog 22 = 3 := by kernel_rfl
theorem zok22 : zOk Try.prog 22 = true := by kernel_rfl
theorem by22 : byN Try.prog 22 = 32 := by kernel_rfl
theorem zs22 : zsN Try.prog 22 = [.string ⟨#[]⟩, .int .i64 0, .int .i64 0] := by kernel_rfl
theorem ag22 : agT Try.prog 22 = some false := by kernel_rfl
theorem ldA22 : ldA Try.prog 22 = false := by kernel_rfl
theorem ldS22 : ldS Try.prog 22 = true := by kernel_rfl
theorem nz22 : nzT Try.prog 22 = [some 3] := by kernel_rfl
theorem nze22 : nzE Try.prog 22 = [none, none, none] := by kernel_rfl
theorem sz22 : szT Try.prog 22 = some 1 := by kernel_rfl
theorem szn22 : szN Try.prog 22 = 1 := by kernel_rfl
theorem zv22 : zvT Try.prog 22 = some [.slice none 0 0] := by kernel_rfl
theorem sl24 : slT Try.prog 24 = some 1 := by kernel_rfl
theorem slz24 : slSz Try.prog 24 = 1 := by kernel_rfl
theorem zok24 : zOk Try.prog 24 = true := by kernel_rfl
theorem by24 : byN Try.prog 24 = 16 := by kernel_rfl
theorem zs24 : zsN Try.prog 24 = [.string ⟨#[]⟩] := by kernel_rfl
theorem ag24 : agT Try.prog 24 = some false := by kernel_rfl
theorem ldA24 : ldA Try.prog 24 = false := by kernel_rfl
theorem ldS24 : ldS Try.prog 24 = true := by kernel_rfl
theorem nz24 : nzT Try.prog 24 = [some 1] := by kernel_rfl
theorem nze24 : nzE Try.prog 24 = [none] := by kernel_rfl
theorem sz24 : szT Try.prog 24 = some 1 := by kernel_rfl
theorem szn24 : szN Try.prog 24 = 1 := by kernel_rfl
theorem zv24 : zvT Try.prog 24 = some [.slice none 0 0] := by kernel_rfl
theorem sl27 : slT Try.prog 27 = some 3 := by kernel_rfl
theorem slz27 : slSz Try.prog 27 = 3 := by kernel_rfl
theorem zok27 : zOk Try.prog 27 = true := by kernel_rfl
theorem by27 : byN Try.prog 27 = 32 := by kernel_rfl
theorem zs27 : zsN Try.prog 27 = [.string ⟨#[]⟩, .int .i64 0, .int .i64 0] := by kernel_rfl
theorem ag27 : agT Try.prog 27 = some false := by kernel_rfl
theorem ldA27 : ldA Try.prog 27 = false := by kernel_rfl
theorem ldS27 : ldS Try.prog 27 = true := by kernel_rfl
theorem nz27 : nzT Try.prog 27 = [some 3] := by kernel_rfl
theorem nze27 : nzE Try.prog 27 = [none, none, none] := by kernel_rfl
theorem sz27 : szT Try.prog 27 = some 1 := by kernel_rfl
theorem szn27 : szN Try.prog 27 = 1 := by kernel_rfl
theorem zv27 : zvT Try.prog 27 = some [.slice none 0 0] := by kernel_rfl
theorem sl34 : slT Try.prog 34 = some 2 := by kernel_rfl
theorem slz34 : slSz Try.prog 34 = 2 := by kernel_rfl
theorem zok34 : zOk Try.prog 34 = true := by kernel_rfl
theorem by34 : byN Try.prog 34 = 32 := by kernel_rfl
theorem zs34 : zsN Try.prog 34 = [.slice none 0 0, .int .i64 0] := by kernel_rfl
theorem ag34 : agT Try.prog 34 = some false := by kernel_rfl
theorem ldA34 : ldA Try.prog 34 = false := by kernel_rfl
theorem ldS34 : ldS Try.prog 34 = true := by kernel_rfl
theorem nz34 : nzT Try.prog 34 = [some 2] := by kernel_rfl
theorem nze34 : nzE Try.prog 34 = [some 1, none] := by kernel_rfl
theorem sz34 : szT Try.prog 34 = some 1 := by kernel_rfl
theorem szn34 : szN Try.prog 34 = 1 := by kernel_rfl
theorem zv34 : zvT Try.prog 34 = some [.slice none 0 0] := by kernel_rfl
theorem ag41 : agT Try.prog 41 = some true := by kernel_rfl
theorem ldA41 : ldA Try.prog 41 = true := by kernel_rfl
theorem nz41 : nzT Try.prog 41 = [none, none, none] := by kernel_rfl
theorem sz41 : szT Try.prog 41 = some 3 := by kernel_rfl
theorem szn41 : szN Try.prog 41 = 3 := by kernel_rfl
theorem zv41 : zvT Try.prog 41 = some [.string ⟨#[]⟩, .int .i64 0, .int .i64 0] := by kernel_rfl
theorem bd41 : bdOk Try.prog 41 = true := by kernel_rfl
theorem pl41_0 : plT Try.prog 41 0 = some (0, 1) := by kernel_rfl
theorem pl41_1 : plT Try.prog 41 1 = some (1, 1) := by kernel_rfl
theorem pl41_2 : plT Try.prog 41 2 = some (2, 1) := by kernel_rfl
theorem fo41_0 : fdO Try.prog 41 0 = 0 := by kernel_rfl
theorem fn41_0 : fdN Try.prog 41 0 = 1 := by kernel_rfl
theorem fk41_0 : fdOk Try.prog 41 0 = true := by kernel_rfl
theorem fs41_0 : fdS Try.prog 41 0 = true := by kernel_rfl
theorem fo41_1 : fdO Try.prog 41 1 = 1 := by kernel_rfl
theorem fn41_1 : fdN Try.prog 41 1 = 1 := by kernel_rfl
theorem fk41_1 : fdOk Try.prog 41 1 = true := by kernel_rfl
theorem fs41_1 : fdS Try.prog 41 1 = true := by kernel_rfl
theorem fo41_2 : fdO Try.prog 41 2 = 2 := by kernel_rfl
theorem fn41_2 : fdN Try.prog 41 2 = 1 := by kernel_rfl
theorem fk41_2 : fdOk Try.prog 41 2 = true := by kernel_rfl
theorem fs41_2 : fdS Try.prog 41 2 = true := by kernel_rfl
theorem ag42 : agT Try.prog 42 = some true := by kernel_rfl
theorem ldA42 : ldA Try.prog 42 = true := by kernel_rfl
theorem nz42 : nzT Try.prog 42 = [none, none, none] := by kernel_rfl
theorem sz42 : szT Try.prog 42 = some 3 := by kernel_rfl
theorem szn42 : szN Try.prog 42 = 3 := by kernel_rfl
theorem zv42 : zvT Try.prog 42 = some [.string ⟨#[]⟩, .int .i64 0, .int .i64 0] := by kernel_rfl
theorem bd42 : bdOk Try.prog 42 = true := by kernel_rfl
theorem pl42_0 : plT Try.prog 42 0 = some (0, 1) := by kernel_rfl
theorem pl42_1 : plT Try.prog 42 1 = some (1, 1) := by kernel_rfl
theorem pl42_2 : plT Try.prog 42 2 = some (2, 1) := by kernel_rfl
theorem fo42_0 : fdO Try.prog 42 0 = 0 := by kernel_rfl
theorem fn42_0 : fdN Try.prog 42 0 = 1 := by kernel_rfl
theorem fk42_0 : fdOk Try.prog 42 0 = true := by kernel_rfl
theorem fs42_0 : fdS Try.prog 42 0 = true := by kernel_rfl
theorem fo42_1 : fdO Try.prog 42 1 = 1 := by kernel_rfl
theorem fn42_1 : fdN Try.prog 42 1 = 1 := by kernel_rfl
theorem fk42_1 : fdOk Try.prog 42 1 = true := by kernel_rfl
theorem fs42_1 : fdS Try.prog 42 1 = true := by kernel_rfl
theorem fo42_2 : fdO Try.prog 42 2 = 2 := by kernel_rfl
theorem fn42_2 : fdN Try.prog 42 2 = 1 := by kernel_rfl
theorem fk42_2 : fdOk Try.prog 42 2 = true := by kernel_rfl
theorem fs42_2 : fdS Try.prog 42 2 = true := by kernel_rfl
theorem ag45 : agT Try.prog 45 = some true := by kernel_rfl
theorem ldA45 : ldA Try.prog 45 = true := by kernel_rfl
theorem nz45 : nzT Try.prog 45 = [none, none, none] := by kernel_rfl
theorem sz45 : szT Try.prog 45 = some 3 := by kernel_rfl
theorem szn45 : szN Try.prog 45 = 3 := by kernel_rfl
theorem zv45 : zvT Try.prog 45 = some [.string ⟨#[]⟩, .int .i64 0, .int .i64 0] := by kernel_rfl
theorem bd45 : bdOk Try.prog 45 = true := by kernel_rfl
theorem pl45_0 : plT Try.prog 45 0 = some (0, 1) := by kernel_rfl
theorem pl45_1 : plT Try.prog 45 1 = some (1, 1) := by kernel_rfl
theorem pl45_2 : plT Try.prog 45 2 = some (2, 1) := by kernel_rfl
theorem fo45_0 : fdO Try.prog 45 0 = 0 := by kernel_rfl
theorem fn45_0 : fdN Try.prog 45 0 = 1 := by kernel_rfl
theorem fk45_0 : fdOk Try.prog 45 0 = true := by kernel_rfl
theorem fs45_0 : fdS Try.prog 45 0 = true := by kernel_rfl
theorem fo45_1 : fdO Try.prog 45 1 = 1 := by kernel_rfl
theorem fn45_1 : fdN Try.prog 45 1 = 1 := by kernel_rfl
theorem fk45_1 : fdOk Try.prog 45 1 = true := by kernel_rfl
theorem fs45_1 : fdS Try.prog 45 1 = true := by kernel_rfl
theorem fo45_2 : fdO Try.prog 45 2 = 2 := by kernel_rfl
theorem fn45_2 : fdN Try.prog 45 2 = 1 := by kernel_rfl
theorem fk45_2 : fdOk Try.prog 45 2 = true := by kernel_rfl
theorem fs45_2 : fdS Try.prog 45 2 = true := by kernel_rfl
theorem ag56 : agT Try.prog 56 = some false := by kernel_rfl
theorem ldA56 : ldA Try.prog 56 = false := by kernel_rfl
theorem ldS56 : ldS Try.prog 56 = true := by kernel_rfl
theorem nz56 : nzT Try.prog 56 = [none] := by kernel_rfl
theorem sz56 : szT Try.prog 56 = some 1 := by kernel_rfl
theorem szn56 : szN Try.prog 56 = 1 := by kernel_rfl
theorem zv56 : zvT Try.prog 56 = some [.int .u64 0] := by kernel_rfl
theorem int56 : intKd Try.prog 56 = some .u64 := by kernel_rfl
theorem ag57 : agT Try.prog 57 = some true := by kernel_rfl
theorem ldA57 : ldA Try.prog 57 = true := by kernel_rfl
theorem nz57 : nzT Try.prog 57 = [some 1, none] := by kernel_rfl
theorem sz57 : szT Try.prog 57 = some 2 := by kernel_rfl
theorem szn57 : szN Try.prog 57 = 2 := by kernel_rfl
theorem zv57 : zvT Try.prog 57 = some [.slice none 0 0, .int .i64 0] := by kernel_rfl
theorem bd57 : bdOk Try.prog 57 = true := by kernel_rfl
theorem pl57_0 : plT Try.prog 57 0 = some (0, 1) := by kernel_rfl
theorem pl57_1 : plT Try.prog 57 1 = some (1, 1) := by kernel_rfl
theorem fo57_0 : fdO Try.prog 57 0 = 0 := by kernel_rfl
theorem fn57_0 : fdN Try.prog 57 0 = 1 := by kernel_rfl
theorem fk57_0 : fdOk Try.prog 57 0 = true := by kernel_rfl
theorem fs57_0 : fdS Try.prog 57 0 = true := by kernel_rfl
theorem fo57_1 : fdO Try.prog 57 1 = 1 := by kernel_rfl
theorem fn57_1 : fdN Try.prog 57 1 = 1 := by kernel_rfl
theorem fk57_1 : fdOk Try.prog 57 1 = true := by kernel_rfl
theorem fs57_1 : fdS Try.prog 57 1 = true := by kernel_rfl
theorem ag58 : agT Try.prog 58 = some true := by kernel_rfl
theorem ldA58 : ldA Try.prog 58 = true := by kernel_rfl
theorem nz58 : nzT Try.prog 58 = [some 1, none] := by kernel_rfl
theorem sz58 : szT Try.prog 58 = some 2 := by kernel_rfl
theorem szn58 : szN Try.prog 58 = 2 := by kernel_rfl
theorem zv58 : zvT Try.prog 58 = some [.slice none 0 0, .int .i64 0] := by kernel_rfl
theorem bd58 : bdOk Try.prog 58 = true := by kernel_rfl
theorem pl58_0 : plT Try.prog 58 0 = some (0, 1) := by kernel_rfl
theorem pl58_1 : plT Try.prog 58 1 = some (1, 1) := by kernel_rfl
theorem fo58_0 : fdO Try.prog 58 0 = 0 := by kernel_rfl
theorem fn58_0 : fdN Try.prog 58 0 = 1 := by kernel_rfl
theorem fk58_0 : fdOk Try.prog 58 0 = true := by kernel_rfl
theorem fs58_0 : fdS Try.prog 58 0 = true := by kernel_rfl
theorem fo58_1 : fdO Try.prog 58 1 = 1 := by kernel_rfl
theorem fn58_1 : fdN Try.prog 58 1 = 1 := by kernel_rfl
theorem fk58_1 : fdOk Try.prog 58 1 = true := by kernel_rfl
theorem fs58_1 : fdS Try.prog 58 1 = true := by kernel_rfl
theorem sl63 : slT Try.prog 63 = some 1 := by kernel_rfl
theorem slz63 : slSz Try.prog 63 = 1 := by kernel_rfl
theorem zok63 : zOk Try.prog 63 = true := by kernel_rfl
theorem by63 : byN Try.prog 63 = 8 := by kernel_rfl
theorem zs63 : zsN Try.prog 63 = [.int .i64 0] := by kernel_rfl
theorem ag63 : agT Try.prog 63 = some false := by kernel_rfl
theorem ldA63 : ldA Try.prog 63 = false := by kernel_rfl
theorem ldS63 : ldS Try.prog 63 = true := by kernel_rfl
theorem nz63 : nzT Try.prog 63 = [some 1] := by kernel_rfl
theorem nze63 : nzE Try.prog 63 = [none] := by kernel_rfl
theorem sz63 : szT Try.prog 63 = some 1 := by kernel_rfl
theorem szn63 : szN Try.prog 63 = 1 := by kernel_rfl
theorem zv63 : zvT Try.prog 63 = some [.slice none 0 0] := by kernel_rfl
theorem sl64 : slT Try.prog 64 = some 1 := by kernel_rfl
theorem slz64 : slSz Try.prog 64 = 1 := by kernel_rfl
theorem zok64 : zOk Try.prog 64 = true := by kernel_rfl
theorem by64 : byN Try.prog 64 = 1 := by kernel_rfl
theorem zs64 : zsN Try.prog 64 = [.int .u8 0] := by kernel_rfl
theorem ag64 : agT Try.prog 64 = some false := by kernel_rfl
theorem ldA64 : ldA Try.prog 64 = false := by kernel_rfl
theorem ldS64 : ldS Try.prog 64 = true := by kernel_rfl
theorem nz64 : nzT Try.prog 64 = [some 1] := by kernel_rfl
theorem nze64 : nzE Try.prog 64 = [none] := by kernel_rfl
theorem sz64 : szT Try.prog 64 = some 1 := by kernel_rfl
theorem szn64 : szN Try.prog 64 = 1 := by kernel_rfl
theorem zv64 : zvT Try.prog 64 = some [.slice none 0 0] := by kernel_rfl
theorem u864 : u8sl Try.prog 64 = true := by kernel_rfl
theorem ag66 : agT Try.prog 66 = some false := by kernel_rfl
theorem ldA66 : ldA Try.prog 66 = false := by kernel_rfl
theorem ldS66 : ldS Try.prog 66 = true := by kernel_rfl
theorem nz66 : nzT Try.prog 66 = [none] := by kernel_rfl
theorem sz66 : szT Try.prog 66 = some 1 := by kernel_rfl
theorem szn66 : szN Try.prog 66 = 1 := by kernel_rfl
theorem zv66 : zvT Try.prog 66 = some [.int .u32 0] := by kernel_rfl
theorem int66 : intKd Try.prog 66 = some .u32 := by kernel_rfl
theorem ag68 : agT Try.prog 68 = some false := by kernel_rfl
theorem ldA68 : ldA Try.prog 68 = false := by kernel_rfl
theorem ldS68 : ldS Try.prog 68 = true := by kernel_rfl
theorem nz68 : nzT Try.prog 68 = [none] := by kernel_rfl
theorem sz68 : szT Try.prog 68 = some 1 := by kernel_rfl
theorem szn68 : szN Try.prog 68 = 1 := by kernel_rfl
theorem zv68 : zvT Try.prog 68 = some [.int .u64 0] := by kernel_rfl
theorem int68 : intKd Try.prog 68 = some .u64 := by kernel_rfl
theorem ag72 : agT Try.prog 72 = some true := by kernel_rfl
theorem ldA72 : ldA Try.prog 72 = true := by kernel_rfl
theorem nz72 : nzT Try.prog 72 = [none, none, none, none] := by kernel_rfl
theorem sz72 : szT Try.prog 72 = some 4 := by kernel_rfl
theorem szn72 : szN Try.prog 72 = 4 := by kernel_rfl
theorem zv72 : zvT Try.prog 72 = some [.pointer none, .pointer none, .pointer none, .string ⟨#[]⟩] := by kernel_rfl
theorem bd72 : bdOk Try.prog 72 = true := by kernel_rfl
theorem pl72_0 : plT Try.prog 72 0 = some (0, 1) := by kernel_rfl
theorem pl72_1 : plT Try.prog 72 1 = some (1, 1) := by kernel_rfl
theorem pl72_2 : plT Try.prog 72 2 = some (2, 1) := by kernel_rfl
theorem pl72_3 : plT Try.prog 72 3 = some (3, 1) := by kernel_rfl
theorem fo72_0 : fdO Try.prog 72 0 = 0 := by kernel_rfl
theorem fn72_0 : fdN Try.prog 72 0 = 1 := by kernel_rfl
theorem fk72_0 : fdOk Try.prog 72 0 = true := by kernel_rfl
theorem fs72_0 : fdS Try.prog 72 0 = true := by kernel_rfl
theorem fo72_1 : fdO Try.prog 72 1 = 1 := by kernel_rfl
theorem fn72_1 : fdN Try.prog 72 1 = 1 := by kernel_rfl
theorem fk72_1 : fdOk Try.prog 72 1 = true := by kernel_rfl
theorem fs72_1 : fdS Try.prog 72 1 = true := by kernel_rfl
theorem fo72_2 : fdO Try.prog 72 2 = 2 := by kernel_rfl
theorem fn72_2 : fdN Try.prog 72 2 = 1 := by kernel_rfl
theorem fk72_2 : fdOk Try.prog 72 2 = true := by kernel_rfl
theorem fs72_2 : fdS Try.prog 72 2 = true := by kernel_rfl
theorem fo72_3 : fdO Try.prog 72 3 = 3 := by kernel_rfl
theorem fn72_3 : fdN Try.prog 72 3 = 1 := by kernel_rfl
theorem fk72_3 : fdOk Try.prog 72 3 = true := by kernel_rfl
theorem fs72_3 : fdS Try.prog 72 3 = true := by kernel_rfl
theorem ag73 : agT Try.prog 73 = some true := by kernel_rfl
theorem ldA73 : ldA Try.prog 73 = true := by kernel_rfl
theorem nz73 : nzT Try.prog 73 = [none, none, none, none] := by kernel_rfl
theorem sz73 : szT Try.prog 73 = some 4 := by kernel_rfl
theorem szn73 : szN Try.prog 73 = 4 := by kernel_rfl
theorem zv73 : zvT Try.prog 73 = some [.pointer none, .pointer none, .pointer none, .string ⟨#[]⟩] := by kernel_rfl
theorem bd73 : bdOk Try.prog 73 = true := by kernel_rfl
theorem pl73_0 : plT Try.prog 73 0 = some (0, 1) := by kernel_rfl
theorem pl73_1 : plT Try.prog 73 1 = some (1, 1) := by kernel_rfl
theorem pl73_2 : plT Try.prog 73 2 = some (2, 1) := by kernel_rfl
theorem pl73_3 : plT Try.prog 73 3 = some (3, 1) := by kernel_rfl
theorem fo73_0 : fdO Try.prog 73 0 = 0 := by kernel_rfl
theorem fn73_0 : fdN Try.prog 73 0 = 1 := by kernel_rfl
theorem fk73_0 : fdOk Try.prog 73 0 = true := by kernel_rfl
theorem fs73_0 : fdS Try.prog 73 0 = true := by kernel_rfl
theorem fo73_1 : fdO Try.prog 73 1 = 1 := by kernel_rfl
theorem fn73_1 : fdN Try.prog 73 1 = 1 := by kernel_rfl
theorem fk73_1 : fdOk Try.prog 73 1 = true := by kernel_rfl
theorem fs73_1 : fdS Try.prog 73 1 = true := by kernel_rfl
theorem fo73_2 : fdO Try.prog 73 2 = 2 := by kernel_rfl
theorem fn73_2 : fdN Try.prog 73 2 = 1 := by kernel_rfl
theorem fk73_2 : fdOk Try.prog 73 2 = true := by kernel_rfl
theorem fs73_2 : fdS Try.prog 73 2 = true := by kernel_rfl
theorem fo73_3 : fdO Try.prog 73 3 = 3 := by kernel_rfl
theorem fn73_3 : fdN Try.prog 73 3 = 1 := by kernel_rfl
theorem fk73_3 : fdOk Try.prog 73 3 = true := by kernel_rfl
theorem fs73_3 : fdS Try.prog 73 3 = true := by kernel_rfl
theorem ag74 : agT Try.prog 74 = some true := by kernel_rfl
theorem ldA74 : ldA Try.prog 74 = true := by kernel_rfl
theorem nz74 : nzT Try.prog 74 = [] := by kernel_rfl
theorem sz74 : szT Try.prog 74 = some 0 := by kernel_rfl
theorem szn74 : szN Try.prog 74 = 0 := by kernel_rfl
theorem bd74 : bdOk Try.prog 74 = true := by kernel_rfl
theorem ag75 : agT Try.prog 75 = some true := by kernel_rfl
theorem ldA75 : ldA Try.prog 75 = true := by kernel_rfl
theorem nz75 : nzT Try.prog 75 = [] := by kernel_rfl
theorem sz75 : szT Try.prog 75 = some 0 := by kernel_rfl
theorem szn75 : szN Try.prog 75 = 0 := by kernel_rfl
theorem bd75 : bdOk Try.prog 75 = true := by kernel_rfl
theorem pl75_0 : plT Try.prog 75 0 = some (0, 0) := by kernel_rfl
theorem fo75_0 : fdO Try.prog 75 0 = 0 := by kernel_rfl
theorem fn75_0 : fdN Try.prog 75 0 = 0 := by kernel_rfl
theorem ag76 : agT Try.prog 76 = some true := by kernel_rfl
theorem ldA76 : ldA Try.prog 76 = true := by kernel_rfl
theorem nz76 : nzT Try.prog 76 = [] := by kernel_rfl
theorem sz76 : szT Try.prog 76 = some 0 := by kernel_rfl
theorem szn76 : szN Try.prog 76 = 0 := by kernel_rfl
theorem bd76 : bdOk Try.prog 76 = true := by kernel_rfl
theorem pl76_0 : plT Try.prog 76 0 = some (0, 0) := by kernel_rfl
theorem fo76_0 : fdO Try.prog 76 0 = 0 := by kernel_rfl
theorem fn76_0 : fdN Try.prog 76 0 = 0 := by kernel_rfl
theorem ag78 : agT Try.prog 78 = some false := by kernel_rfl
theorem ldA78 : ldA Try.prog 78 = false := by kernel_rfl
theorem ldS78 : ldS Try.prog 78 = true := by kernel_rfl
theorem nz78 : nzT Try.prog 78 = [none] := by kernel_rfl
theorem sz78 : szT Try.prog 78 = some 1 := by kernel_rfl
theorem szn78 : szN Try.prog 78 = 1 := by kernel_rfl
theorem zv78 : zvT Try.prog 78 = some [.int .u8 0] := by kernel_rfl
theorem int78 : intKd Try.prog 78 = some .u8 := by kernel_rfl
theorem ag79 : agT Try.prog 79 = some false := by kernel_rfl
theorem ldA79 : ldA Try.prog 79 = false := by kernel_rfl
theorem ldS79 : ldS Try.prog 79 = true := by kernel_rfl
theorem nz79 : nzT Try.prog 79 = [none] := by kernel_rfl
theorem sz79 : szT Try.prog 79 = some 1 := by kernel_rfl
theorem szn79 : szN Try.prog 79 = 1 := by kernel_rfl
theorem zv79 : zvT Try.prog 79 = some [.int .u8 0] := by kernel_rfl
theorem int79 : intKd Try.prog 79 = some .u8 := by kernel_rfl
theorem ag81 : agT Try.prog 81 = some false := by kernel_rfl
theorem ldA81 : ldA Try.prog 81 = false := by kernel_rfl
theorem ldS81 : ldS Try.prog 81 = true := by kernel_rfl
theorem nz81 : nzT Try.prog 81 = [none] := by kernel_rfl
theorem sz81 : szT Try.prog 81 = some 1 := by kernel_rfl
theorem szn81 : szN Try.prog 81 = 1 := by kernel_rfl
theorem zv81 : zvT Try.prog 81 = some [.pointer none] := by kernel_rfl
theorem ag82 : agT Try.prog 82 = some false := by kernel_rfl
theorem ldA82 : ldA Try.prog 82 = false := by kernel_rfl
theorem ldS82 : ldS Try.prog 82 = true := by kernel_rfl
theorem nz82 : nzT Try.prog 82 = [none] := by kernel_rfl
theorem sz82 : szT Try.prog 82 = some 1 := by kernel_rfl
theorem szn82 : szN Try.prog 82 = 1 := by kernel_rfl
theorem zv82 : zvT Try.prog 82 = some [.int .i32 0] := by kernel_rfl
theorem int82 : intKd Try.prog 82 = some .i32 := by kernel_rfl
theorem ag83 : agT Try.prog 83 = some false := by kernel_rfl
theorem ldA83 : ldA Try.prog 83 = false := by kernel_rfl
theorem ldS83 : ldS Try.prog 83 = true := by kernel_rfl
theorem nz83 : nzT Try.prog 83 = [none] := by kernel_rfl
theorem sz83 : szT Try.prog 83 = some 1 := by kernel_rfl
theorem szn83 : szN Try.prog 83 = 1 := by kernel_rfl
theorem zv83 : zvT Try.prog 83 = some [.int .i32 0] := by kernel_rfl
theorem int83 : intKd Try.prog 83 = some .i32 := by kernel_rfl
theorem ag84 : agT Try.prog 84 = some true := by kernel_rfl
theorem ldA84 : ldA Try.prog 84 = true := by kernel_rfl
theorem nz84 : nzT Try.prog 84 = [none, none, none, none, none, none, none, none, none, none, none] := by kernel_rfl
theorem sz84 : szT Try.prog 84 = some 11 := by kernel_rfl
theorem szn84 : szN Try.prog 84 = 11 := by kernel_rfl
theorem zv84 : zvT Try.prog 84 = some [.int .u64 0, .int .u64 0, .int .u32 0, .int .u8 0, .int .u8 0, .int .u8 0, .int .u8 0, .nilFunc, .pointer none, .int .i32 0, .int .i32 0] := by kernel_rfl
theorem bd84 : bdOk Try.prog 84 = true := by kernel_rfl
theorem pl84_0 : plT Try.prog 84 0 = some (0, 1) := by kernel_rfl
theorem pl84_1 : plT Try.prog 84 1 = some (1, 1) := by kernel_rfl
theorem pl84_2 : plT Try.prog 84 2 = some (2, 1) := by kernel_rfl
theorem pl84_3 : plT Try.prog 84 3 = some (3, 1) := by kernel_rfl
theorem pl84_4 : plT Try.prog 84 4 = some (4, 1) := by kernel_rfl
theorem pl84_5 : plT Try.prog 84 5 = some (5, 1) := by kernel_rfl
theorem pl84_6 : plT Try.prog 84 6 = some (6, 1) := by kernel_rfl
theorem pl84_8 : plT Try.prog 84 8 = some (8, 1) := by kernel_rfl
theorem pl84_9 : plT Try.prog 84 9 = some (9, 1) := by kernel_rfl
theorem pl84_10 : plT Try.prog 84 10 = some (10, 1) := by kernel_rfl
theorem fo84_0 : fdO Try.prog 84 0 = 0 := by kernel_rfl
theorem fn84_0 : fdN Try.prog 84 0 = 1 := by kernel_rfl
theorem fk84_0 : fdOk Try.prog 84 0 = true := by kernel_rfl
theorem fs84_0 : fdS Try.prog 84 0 = true := by kernel_rfl
theorem fo84_1 : fdO Try.prog 84 1 = 1 := by kernel_rfl
theorem fn84_1 : fdN Try.prog 84 1 = 1 := by kernel_rfl
theorem fk84_1 : fdOk Try.prog 84 1 = true := by kernel_rfl
theorem fs84_1 : fdS Try.prog 84 1 = true := by kernel_rfl
theorem fo84_2 : fdO Try.prog 84 2 = 2 := by kernel_rfl
theorem fn84_2 : fdN Try.prog 84 2 = 1 := by kernel_rfl
theorem fk84_2 : fdOk Try.prog 84 2 = true := by kernel_rfl
theorem fs84_2 : fdS Try.prog 84 2 = true := by kernel_rfl
theorem fo84_3 : fdO Try.prog 84 3 = 3 := by kernel_rfl
theorem fn84_3 : fdN Try.prog 84 3 = 1 := by kernel_rfl
theorem fk84_3 : fdOk Try.prog 84 3 = true := by kernel_rfl
theorem fs84_3 : fdS Try.prog 84 3 = true := by kernel_rfl
theorem fo84_4 : fdO Try.prog 84 4 = 4 := by kernel_rfl
theorem fn84_4 : fdN Try.prog 84 4 = 1 := by kernel_rfl
theorem fk84_4 : fdOk Try.prog 84 4 = true := by kernel_rfl
theorem fs84_4 : fdS Try.prog 84 4 = true := by kernel_rfl
theorem fo84_5 : fdO Try.prog 84 5 = 5 := by kernel_rfl
theorem fn84_5 : fdN Try.prog 84 5 = 1 := by kernel_rfl
theorem fk84_5 : fdOk Try.prog 84 5 = true := by kernel_rfl
theorem fs84_5 : fdS Try.prog 84 5 = true := by kernel_rfl
theorem fo84_6 : fdO Try.prog 84 6 = 6 := by kernel_rfl
theorem fn84_6 : fdN Try.prog 84 6 = 1 := by kernel_rfl
theorem fk84_6 : fdOk Try.prog 84 6 = true := by kernel_rfl
theorem fs84_6 : fdS Try.prog 84 6 = true := by kernel_rfl
theorem fo84_8 : fdO Try.prog 84 8 = 8 := by kernel_rfl
theorem fn84_8 : fdN Try.prog 84 8 = 1 := by kernel_rfl
theorem fk84_8 : fdOk Try.prog 84 8 = true := by kernel_rfl
theorem fs84_8 : fdS Try.prog 84 8 = true := by kernel_rfl
theorem fo84_9 : fdO Try.prog 84 9 = 9 := by kernel_rfl
theorem fn84_9 : fdN Try.prog 84 9 = 1 := by kernel_rfl
theorem fk84_9 : fdOk Try.prog 84 9 = true := by kernel_rfl
theorem fs84_9 : fdS Try.prog 84 9 = true := by kernel_rfl
theorem fo84_10 : fdO Try.prog 84 10 = 10 := by kernel_rfl
theorem fn84_10 : fdN Try.prog 84 10 = 1 := by kernel_rfl
theorem fk84_10 : fdOk Try.prog 84 10 = true := by kernel_rfl
theorem fs84_10 : fdS Try.prog 84 10 = true := by kernel_rfl
theorem ag85 : agT Try.prog 85 = some true := by kernel_rfl
theorem ldA85 : ldA Try.prog 85 = true := by kernel_rfl
theorem nz85 : nzT Try.prog 85 = [none, none, none, none, none, none, none, none, none, none, none] := by kernel_rfl
theorem sz85 : szT Try.prog 85 = some 11 := by kernel_rfl
theorem szn85 : szN Try.prog 85 = 11 := by kernel_rfl
theorem zv85 : zvT Try.prog 85 = some [.int .u64 0, .int .u64 0, .int .u32 0, .int .u8 0, .int .u8 0, .int .u8 0, .int .u8 0, .nilFunc, .pointer none, .int .i32 0, .int .i32 0] := by kernel_rfl
theorem bd85 : bdOk Try.prog 85 = true := by kernel_rfl
theorem pl85_0 : plT Try.prog 85 0 = some (0, 1) := by kernel_rfl
theorem pl85_1 : plT Try.prog 85 1 = some (1, 1) := by kernel_rfl
theorem pl85_2 : plT Try.prog 85 2 = some (2, 1) := by kernel_rfl
theorem pl85_3 : plT Try.prog 85 3 = some (3, 1) := by kernel_rfl
theorem pl85_4 : plT Try.prog 85 4 = some (4, 1) := by kernel_rfl
theorem pl85_5 : plT Try.prog 85 5 = some (5, 1) := by kernel_rfl
theorem pl85_6 : plT Try.prog 85 6 = some (6, 1) := by kernel_rfl
theorem pl85_8 : plT Try.prog 85 8 = some (8, 1) := by kernel_rfl
theorem pl85_9 : plT Try.prog 85 9 = some (9, 1) := by kernel_rfl
theorem pl85_10 : plT Try.prog 85 10 = some (10, 1) := by kernel_rfl
theorem fo85_0 : fdO Try.prog 85 0 = 0 := by kernel_rfl
theorem fn85_0 : fdN Try.prog 85 0 = 1 := by kernel_rfl
theorem fk85_0 : fdOk Try.prog 85 0 = true := by kernel_rfl
theorem fs85_0 : fdS Try.prog 85 0 = true := by kernel_rfl
theorem fo85_1 : fdO Try.prog 85 1 = 1 := by kernel_rfl
theorem fn85_1 : fdN Try.prog 85 1 = 1 := by kernel_rfl
theorem fk85_1 : fdOk Try.prog 85 1 = true := by kernel_rfl
theorem fs85_1 : fdS Try.prog 85 1 = true := by kernel_rfl
theorem fo85_2 : fdO Try.prog 85 2 = 2 := by kernel_rfl
theorem fn85_2 : fdN Try.prog 85 2 = 1 := by kernel_rfl
theorem fk85_2 : fdOk Try.prog 85 2 = true := by kernel_rfl
theorem fs85_2 : fdS Try.prog 85 2 = true := by kernel_rfl
theorem fo85_3 : fdO Try.prog 85 3 = 3 := by kernel_rfl
theorem fn85_3 : fdN Try.prog 85 3 = 1 := by kernel_rfl
theorem fk85_3 : fdOk Try.prog 85 3 = true := by kernel_rfl
theorem fs85_3 : fdS Try.prog 85 3 = true := by kernel_rfl
theorem fo85_4 : fdO Try.prog 85 4 = 4 := by kernel_rfl
theorem fn85_4 : fdN Try.prog 85 4 = 1 := by kernel_rfl
theorem fk85_4 : fdOk Try.prog 85 4 = true := by kernel_rfl
theorem fs85_4 : fdS Try.prog 85 4 = true := by kernel_rfl
theorem fo85_5 : fdO Try.prog 85 5 = 5 := by kernel_rfl
theorem fn85_5 : fdN Try.prog 85 5 = 1 := by kernel_rfl
theorem fk85_5 : fdOk Try.prog 85 5 = true := by kernel_rfl
theorem fs85_5 : fdS Try.prog 85 5 = true := by kernel_rfl
theorem fo85_6 : fdO Try.prog 85 6 = 6 := by kernel_rfl
theorem fn85_6 : fdN Try.prog 85 6 = 1 := by kernel_rfl
theorem fk85_6 : fdOk Try.prog 85 6 = true := by kernel_rfl
theorem fs85_6 : fdS Try.prog 85 6 = true := by kernel_rfl
theorem fo85_8 : fdO Try.prog 85 8 = 8 := by kernel_rfl
theorem fn85_8 : fdN Try.prog 85 8 = 1 := by kernel_rfl
theorem fk85_8 : fdOk Try.prog 85 8 = true := by kernel_rfl
theorem fs85_8 : fdS Try.prog 85 8 = true := by kernel_rfl
theorem fo85_9 : fdO Try.prog 85 9 = 9 := by kernel_rfl
theorem fn85_9 : fdN Try.prog 85 9 = 1 := by kernel_rfl
theorem fk85_9 : fdOk Try.prog 85 9 = true := by kernel_rfl
theorem fs85_9 : fdS Try.prog 85 9 = true := by kernel_rfl
theorem fo85_10 : fdO Try.prog 85 10 = 10 := by kernel_rfl
theorem fn85_10 : fdN Try.prog 85 10 = 1 := by kernel_rfl
theorem fk85_10 : fdOk Try.prog 85 10 = true := by kernel_rfl
theorem fs85_10 : fdS Try.prog 85 10 = true := by kernel_rfl
end Ty
end Go.Av
