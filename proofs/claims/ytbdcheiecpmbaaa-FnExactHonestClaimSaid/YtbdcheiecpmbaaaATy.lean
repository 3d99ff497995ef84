/- What the types of this translation are. -/
import Derived.Test.YtbdcheiecpmbaaaAZzN
import Derived.Test.YtbdcheiecpmbaaaProg
/-! What the types of this translation are. -/
namespace Go.Av
open Go.Proofs
namespace Ty
theorem ag2 : agT Try.prog 2 = some false := by kernel_rfl
theorem ldA2 : ldA Try.prog 2 = false := by kernel_rfl
theorem ldS2 : ldS Try.prog 2 = true := by kernel_rfl
theorem nz2 : nzT Try.prog 2 = [none] := by kernel_rfl
theorem sz2 : szT Try.prog 2 = some 1 := by kernel_rfl
theorem szn2 : szN Try.prog 2 = 1 := by kernel_rfl
theorem zv2 : zvT Try.prog 2 = some [.int .i64 0] := by kernel_rfl
theorem int2 : intKd Try.prog 2 = some .i64 := by kernel_rfl
theorem ag3 : agT Try.prog 3 = some false := by kernel_rfl
theorem ldA3 : ldA Try.prog 3 = false := by kernel_rfl
theorem ldS3 : ldS Try.prog 3 = true := by kernel_rfl
theorem nz3 : nzT Try.prog 3 = [none] := by kernel_rfl
theorem sz3 : szT Try.prog 3 = some 1 := by kernel_rfl
theorem szn3 : szN Try.prog 3 = 1 := by kernel_rfl
theorem zv3 : zvT Try.prog 3 = some [.int .i64 0] := by kernel_rfl
theorem int3 : intKd Try.prog 3 = some .i64 := by kernel_rfl
theorem ag4 : agT Try.prog 4 = some false := by kernel_rfl
theorem ldA4 : ldA Try.prog 4 = false := by kernel_rfl
theorem ldS4 : ldS Try.prog 4 = true := by kernel_rfl
theorem nz4 : nzT Try.prog 4 = [none] := by kernel_rfl
theorem sz4 : szT Try.prog 4 = some 1 := by kernel_rfl
theorem szn4 : szN Try.prog 4 = 1 := by kernel_rfl
theorem zv4 : zvT Try.prog 4 = some [.bool false] := by kernel_rfl
theorem bl4 : isBl Try.prog 4 = true := by kernel_rfl
theorem ag5 : agT Try.prog 5 = some false := by kernel_rfl
theorem ldA5 : ldA Try.prog 5 = false := by kernel_rfl
theorem ldS5 : ldS Try.prog 5 = true := by kernel_rfl
theorem nz5 : nzT Try.prog 5 = [none] := by kernel_rfl
theorem sz5 : szT Try.prog 5 = some 1 := by kernel_rfl
theorem szn5 : szN Try.prog 5 = 1 := by kernel_rfl
theorem zv5 : zvT Try.prog 5 = some [.int .u8 0] := by kernel_rfl
theorem int5 : intKd Try.prog 5 = some .u8 := by kernel_rfl
theorem ag6 : agT Try.prog 6 = some false := by kernel_rfl
theorem ldA6 : ldA Try.prog 6 = false := by kernel_rfl
theorem ldS6 : ldS Try.prog 6 = true := by kernel_rfl
theorem nz6 : nzT Try.prog 6 = [none] := by kernel_rfl
theorem sz6 : szT Try.prog 6 = some 1 := by kernel_rfl
theorem szn6 : szN Try.prog 6 = 1 := by kernel_rfl
theorem zv6 : zvT Try.prog 6 = some [.int .u8 0] := by kernel_rfl
theorem int6 : intKd Try.prog 6 = some .u8 := by kernel_rfl
theorem ag7 : agT Try.prog 7 = some true := by kernel_rfl
theorem ldA7 : ldA Try.prog 7 = true := by kernel_rfl
theorem nz7 : nzT Try.prog 7 = [none, none, none, none] := by kernel_rfl
theorem sz7 : szT Try.prog 7 = some 4 := by kernel_rfl
theorem szn7 : szN Try.prog 7 = 4 := by kernel_rfl
theorem zv7 : zvT Try.prog 7 = some [.int .i64 0, .int .i64 0, .bool false, .int .u8 0] := by kernel_rfl
theorem bd7 : bdOk Try.prog 7 = true := by kernel_rfl
theorem pl7_0 : plT Try.prog 7 0 = some (0, 1) := by kernel_rfl
theorem pl7_1 : plT Try.prog 7 1 = some (1, 1) := by kernel_rfl
theorem pl7_2 : plT Try.prog 7 2 = some (2, 1) := by kernel_rfl
theorem pl7_3 : plT Try.prog 7 3 = some (3, 1) := by kernel_rfl
theorem fo7_0 : fdO Try.prog 7 0 = 0 := by kernel_rfl
theorem fn7_0 : fdN Try.prog 7 0 = 1 := by kernel_rfl
theorem fk7_0 : fdOk Try.prog 7 0 = true := by kernel_rfl
theorem fs7_0 : fdS Try.prog 7 0 = true := by kernel_rfl
theorem fo7_1 : fdO Try.prog 7 1 = 1 := by kernel_rfl
theorem fn7_1 : fdN Try.prog 7 1 = 1 := by kernel_rfl
theorem fk7_1 : fdOk Try.prog 7 1 = true := by kernel_rfl
theorem fs7_1 : fdS Try.prog 7 1 = true := by kernel_rfl
theorem fo7_2 : fdO Try.prog 7 2 = 2 := by kernel_rfl
theorem fn7_2 : fdN Try.prog 7 2 = 1 := by kernel_rfl
theorem fk7_2 : fdOk Try.prog 7 2 = true := by kernel_rfl
theorem fs7_2 : fdS Try.prog 7 2 = true := by kernel_rfl
theorem fo7_3 : fdO Try.prog 7 3 = 3 := by kernel_rfl
theorem fn7_3 : fdN Try.prog 7 3 = 1 := by kernel_rfl
theorem fk7_3 : fdOk Try.prog 7 3 = true := by kernel_rfl
theorem fs7_3 : fdS Try.prog 7 3 = true := by kernel_rfl
theorem ag8 : agT Try.prog 8 = some true := by kernel_rfl
theorem ldA8 : ldA Try.prog 8 = true := by kernel_rfl
theorem nz8 : nzT Try.prog 8 = [none, none, none, none] := by kernel_rfl
theorem sz8 : szT Try.prog 8 = some 4 := by kernel_rfl
theorem szn8 : szN Try.prog 8 = 4 := by kernel_rfl
theorem zv8 : zvT Try.prog 8 = some [.int .i64 0, .int .i64 0, .bool false, .int .u8 0] := by kernel_rfl
theorem bd8 : bdOk Try.prog 8 = true := by kernel_rfl
theorem pl8_0 : plT Try.prog 8 0 = some (0, 1) := by kernel_rfl
theorem pl8_1 : plT Try.prog 8 1 = some (1, 1) := by kernel_rfl
theorem pl8_2 : plT Try.prog 8 2 = some (2, 1) := by kernel_rfl
theorem pl8_3 : plT Try.prog 8 3 = some (3, 1) := by kernel_rfl
theorem fo8_0 : fdO Try.prog 8 0 = 0 := by kernel_rfl
theorem fn8_0 : fdN Try.prog 8 0 = 1 := by kernel_rfl
theorem fk8_0 : fdOk Try.prog 8 0 = true := by kernel_rfl
theorem fs8_0 : fdS Try.prog 8 0 = true := by kernel_rfl
theorem fo8_1 : fdO Try.prog 8 1 = 1 := by kernel_rfl
theorem fn8_1 : fdN Try.prog 8 1 = 1 := by kernel_rfl
theorem fk8_1 : fdOk Try.prog 8 1 = true := by kernel_rfl
theorem fs8_1 : fdS Try.prog 8 1 = true := by kernel_rfl
theorem fo8_2 : fdO Try.prog 8 2 = 2 := by kernel_rfl
theorem fn8_2 : fdN Try.prog 8 2 = 1 := by kernel_rfl
theorem fk8_2 : fdOk Try.prog 8 2 = true := by kernel_rfl
theorem fs8_2 : fdS Try.prog 8 2 = true := by kernel_rfl
theorem fo8_3 : fdO Try.prog 8 3 = 3 := by kernel_rfl
theorem fn8_3 : fdN Try.prog 8 3 = 1 := by kernel_rfl
theorem fk8_3 : fdOk Try.prog 8 3 = true := by kernel_rfl
theorem fs8_3 : fdS Try.prog 8 3 = true := by kernel_rfl
theorem ag9 : agT Try.prog 9 = some false := by kernel_rfl
theorem ldA9 : ldA Try.prog 9 = false := by kernel_rfl
theorem ldS9 : ldS Try.prog 9 = true := by kernel_rfl
theorem nz9 : nzT Try.prog 9 = [none] := by kernel_rfl
theorem sz9 : szT Try.prog 9 = some 1 := by kernel_rfl
theorem szn9 : szN Try.prog 9 = 1 := by kernel_rfl
theorem zv9 : zvT Try.prog 9 = some [.string ⟨#[]⟩] := by kernel_rfl
theorem str9 : isStr Try.prog 9 = true := by kernel_rfl
theorem ag10 : agT Try.prog 10 = some false := by kernel_rfl
theorem ldA10 : ldA Try.prog 10 = false := by kernel_rfl
theorem ldS10 : ldS Try.prog 10 = true := by kernel_rfl
theorem nz10 : nzT Try.prog 10 = [none] := by kernel_rfl
theorem sz10 : szT Try.prog 10 = some 1 := by kernel_rfl
theorem szn10 : szN Try.prog 10 = 1 := by kernel_rfl
theorem zv10 : zvT Try.prog 10 = some [.string ⟨#[]⟩] := by kernel_rfl
theorem str10 : isStr Try.prog 10 = true := by kernel_rfl
theorem ag11 : agT Try.prog 11 = some false := by kernel_rfl
theorem ldA11 : ldA Try.prog 11 = false := by kernel_rfl
theorem ldS11 : ldS Try.prog 11 = true := by kernel_rfl
theorem nz11 : nzT Try.prog 11 = [none] := by kernel_rfl
theorem sz11 : szT Try.prog 11 = some 1 := by kernel_rfl
theorem szn11 : szN Try.prog 11 = 1 := by kernel_rfl
theorem zv11 : zvT Try.prog 11 = some [.string ⟨#[]⟩] := by kernel_rfl
theorem str11 : isStr Try.prog 11 = true := by kernel_rfl
theorem ag12 : agT Try.prog 12 = some false := by kernel_rfl
theorem ldA12 : ldA Try.prog 12 = false := by kernel_rfl
theorem ldS12 : ldS Try.prog 12 = true := by kernel_rfl
theorem nz12 : nzT Try.prog 12 = [none] := by kernel_rfl
theorem sz12 : szT Try.prog 12 = some 1 := by kernel_rfl
theorem szn12 : szN Try.prog 12 = 1 := by kernel_rfl
theorem zv12 : zvT Try.prog 12 = some [.int .u64 0] := by kernel_rfl
theorem int12 : intKd Try.prog 12 = some .u64 := by kernel_rfl
theorem ag13 : agT Try.prog 13 = some true := by kernel_rfl
theorem ldA13 : ldA Try.prog 13 = true := by kernel_rfl
theorem nz13 : nzT Try.prog 13 = [none, none] := by kernel_rfl
theorem sz13 : szT Try.prog 13 = some 2 := by kernel_rfl
theorem szn13 : szN Try.prog 13 = 2 := by kernel_rfl
theorem zv13 : zvT Try.prog 13 = some [.string ⟨#[]⟩, .int .u64 0] := by kernel_rfl
theorem bd13 : bdOk Try.prog 13 = true := by kernel_rfl
theorem pl13_0 : plT Try.prog 13 0 = some (0, 1) := by kernel_rfl
theorem pl13_1 : plT Try.prog 13 1 = some (1, 1) := by kernel_rfl
theorem fo13_0 : fdO Try.prog 13 0 = 0 := by kernel_rfl
theorem fn13_0 : fdN Try.prog 13 0 = 1 := by kernel_rfl
theorem fk13_0 : fdOk Try.prog 13 0 = true := by kernel_rfl
theorem fs13_0 : fdS Try.prog 13 0 = true := by kernel_rfl
theorem fo13_1 : fdO Try.prog 13 1 = 1 := by kernel_rfl
theorem fn13_1 : fdN Try.prog 13 1 = 1 := by kernel_rfl
theorem fk13_1 : fdOk Try.prog 13 1 = true := by kernel_rfl
theorem fs13_1 : fdS Try.prog 13 1 = true := by kernel_rfl
theorem ag14 : agT Try.prog 14 = some true := by kernel_rfl
theorem ldA14 : ldA Try.prog 14 = true := by kernel_rfl
theorem nz14 : nzT Try.prog 14 = [none, none] := by kernel_rfl
theorem sz14 : szT Try.prog 14 = some 2 := by kernel_rfl
theorem szn14 : szN Try.prog 14 = 2 := by kernel_rfl
theorem zv14 : zvT Try.prog 14 = some [.string ⟨#[]⟩, .int .u64 0] := by kernel_rfl
theorem bd14 : bdOk Try.prog 14 = true := by kernel_rfl
theorem pl14_0 : plT Try.prog 14 0 = some (0, 1) := by kernel_rfl
theorem pl14_1 : plT Try.prog 14 1 = some (1, 1) := by kernel_rfl
theorem fo14_0 : fdO Try.prog 14 0 = 0 := by kernel_rfl
theorem fn14_0 : fdN Try.prog 14 0 = 1 := by kernel_rfl
theorem fk14_0 : fdOk Try.prog 14 0 = true := by kernel_rfl
theorem fs14_0 : fdS Try.prog 14 0 = true := by kernel_rfl
theorem fo14_1 : fdO Try.prog 14 1 = 1 := by kernel_rfl
theorem fn14_1 : fdN Try.prog 14 1 = 1 := by kernel_rfl
theorem fk14_1 : fdOk Try.prog 14 1 = true := by kernel_rfl
theorem fs14_1 : fdS Try.prog 14 1 = true := by kernel_rfl
theorem ag15 : agT Try.prog 15 = some false := by kernel_rfl
theorem ldA15 : ldA Try.prog 15 = false := by kernel_rfl
theorem ldS15 : ldS Try.prog 15 = true := by kernel_rfl
theorem nz15 : nzT Try.prog 15 = [none] := by kernel_rfl
theorem sz15 : szT Try.prog 15 = some 1 := by kernel_rfl
theorem szn15 : szN Try.prog 15 = 1 := by kernel_rfl
theorem zv15 : zvT Try.prog 15 = some [.pointer none] := by kernel_rfl
theorem ag16 : agT Try.prog 16 = some false := by kernel_rfl
theorem ldA16 : ldA Try.prog 16 = false := by kernel_rfl
theorem ldS16 : ldS Try.prog 16 = true := by kernel_rfl
theorem nz16 : nzT Try.prog 16 = [none] := by kernel_rfl
theorem sz16 : szT Try.prog 16 = some 1 := by kernel_rfl
theorem szn16 : szN Try.prog 16 = 1 := by kernel_rfl
theorem zv16 : zvT Try.prog 16 = some [.pointer none] := by kernel_rfl
theorem ag17 : agT Try.prog 17 = some false := by kernel_rfl
theorem ldA17 : ldA Try.prog 17 = false := by kernel_rfl
theorem ldS17 : ldS Try.prog 17 = true := by kernel_rfl
theorem nz17 : nzT Try.prog 17 = [none] := by kernel_rfl
theorem sz17 : szT Try.prog 17 = some 1 := by kernel_rfl
theorem szn17 : szN Try.prog 17 = 1 := by kernel_rfl
theorem zv17 : zvT Try.prog 17 = some [.pointer none] := by kernel_rfl
theorem ag18 : agT Try.prog 18 = some true := by kernel_rfl
theorem ldA18 : ldA Try.prog 18 = true := by kernel_rfl
theorem nz18 : nzT Try.prog 18 = [none] := by kernel_rfl
theorem sz18 : szT Try.prog 18 = some 1 := by kernel_rfl
theorem szn18 : szN Try.prog 18 = 1 := by kernel_rfl
theorem zv18 : zvT Try.prog 18 = some [.pointer none] := by kernel_rfl
theorem bd18 : bdOk Try.prog 18 = true := by kernel_rfl
theorem pl18_0 : plT Try.prog 18 0 = some (0, 1) := by kernel_rfl
theorem fo18_0 : fdO Try.prog 18 0 = 0 := by kernel_rfl
theorem fn18_0 : fdN Try.prog 18 0 = 1 := by kernel_rfl
theorem fk18_0 : fdOk Try.prog 18 0 = true := by kernel_rfl
theorem fs18_0 : fdS Try.prog 18 0 = true := by kernel_rfl
theorem ag19 : agT Try.prog 19 = some true := by kernel_rfl
theorem ldA19 : ldA Try.prog 19 = true := by kernel_rfl
theorem nz19 : nzT Try.prog 19 = [none] := by kernel_rfl
theorem sz19 : szT Try.prog 19 = some 1 := by kernel_rfl
theorem szn19 : szN Try.prog 19 = 1 := by kernel_rfl
theorem zv19 : zvT Try.prog 19 = some [.pointer none] := by kernel_rfl
theorem bd19 : bdOk Try.prog 19 = true := by kernel_rfl
theorem pl19_0 : plT Try.prog 19 0 = some (0, 1) := by kernel_rfl
theorem fo19_0 : fdO Try.prog 19 0 = 0 := by kernel_rfl
theorem fn19_0 : fdN Try.prog 19 0 = 1 := by kernel_rfl
theorem fk19_0 : fdOk Try.prog 19 0 = true := by kernel_rfl
theorem fs19_0 : fdS Try.prog 19 0 = true := by kernel_rfl
theorem ag21 : agT Try.prog 21 = some false := by kernel_rfl
theorem ldA21 : ldA Try.prog 21 = false := by kernel_rfl
theorem ldS21 : ldS Try.prog 21 = true := by kernel_rfl
theorem nz21 : nzT Try.prog 21 = [none] := by kernel_rfl
theorem sz21 : szT Try.prog 21 = some 1 := by kernel_rfl
theorem szn21 : szN Try.prog 21 = 1 := by kernel_rfl
theorem zv21 : zvT Try.prog 21 = some [.int .i32 0] := by kernel_rfl
theorem int21 : intKd Try.prog 21 = some .i32 := by kernel_rfl
theorem sl22 : slT Try.prog 22 = some 3 := by kernel_rfl
theorem slz22 : slSz Try.prog 22 = 3 := by kernel_rfl
theorem zok22 : zOk Try.prog 22 = true := by kernel_rfl
theorem by22 : byN Try.prog 22 = 32 := by kernel_rfl
theorem zs22 : zsN Try.prog 22 = [.string ⟨#[]⟩, .int .i64 0, .int .i64 0] := by kernel_rfl
theorem ag22 : agT Try.prog 22 = some false := by kernel_rfl
theorem ldA22 : ldA Try.prog 22 = false := by kernel_rfl
theorem ldS22 : ldS Try.prog 22 = true := by kernel_rfl
theorem nz22 : nzT Try.prog 22 = [some 3] := by kernel_rfl
theorem nze22 : nzE Try.prog 22 = [none, none, none] := by kernel_rfl
theorem sz22 : szT Try.prog 22 = some 1 := by kernel_rfl
theorem szn22 : szN Try.prog 22 = 1 := by kernel_rfl
theorem zv22 : zvT Try.prog 22 = some [.slice none 0 0] := by kernel_rfl
theorem sl24 : slT Try.prog 24 = some 1 := by kernel_rfl
theorem slz24 : slSz Try.prog 24 = 1 := by kernel_rfl
theorem zok24 : zOk Try.prog 24 = true := by kernel_rfl
theorem by24 : byN Try.prog 24 = 16 := by kernel_rfl
theorem zs24 : zsN Try.prog 24 = [.string ⟨#[]⟩] := by kernel_rfl
theorem ag24 : agT Try.prog 24 = some false := by kernel_rfl
theorem ldA24 : ldA Try.prog 24 = false := by kernel_rfl
theorem ldS24 : ldS Try.prog 24 = true := by kernel_rfl
theorem nz24 : nzT Try.prog 24 = [some 1] := by kernel_rfl
theorem nze24 : nzE Try.prog 24 = [none] := by kernel_rfl
theorem sz24 : szT Try.prog 24 = some 1 := by kernel_rfl
theorem szn24 : szN Try.prog 24 = 1 := by kernel_rfl
theorem zv24 : zvT Try.prog 24 = some [.slice none 0 0] := by kernel_rfl
theorem sl27 : slT Try.prog 27 = some 3 := by kernel_rfl
theorem slz27 : slSz Try.prog 27 = 3 := by kernel_rfl
theorem zok27 : zOk Try.prog 27 = true := by kernel_rfl
theorem by27 : byN Try.prog 27 = 32 := by kernel_rfl
theorem zs27 : zsN Try.prog 27 = [.string ⟨#[]⟩, .int .i64 0, .int .i64 0] := by kernel_rfl
theorem ag27 : agT Try.prog 27 = some false := by kernel_rfl
theorem ldA27 : ldA Try.prog 27 = false := by kernel_rfl
theorem ldS27 : ldS Try.prog 27 = true := by kernel_rfl
theorem nz27 : nzT Try.prog 27 = [some 3] := by kernel_rfl
theorem nze27 : nzE Try.prog 27 = [none, none, none] := by kernel_rfl
theorem sz27 : szT Try.prog 27 = some 1 := by kernel_rfl
theorem szn27 : szN Try.prog 27 = 1 := by kernel_rfl
theorem zv27 : zvT Try.prog 27 = some [.slice none 0 0] := by kernel_rfl
theorem sl34 : slT Try.prog 34 = some 1 := by kernel_rfl
theorem slz34 : slSz Try.prog 34 = 1 := by kernel_rfl
theorem zok34 : zOk Try.prog 34 = true := by kernel_rfl
theorem by34 : byN Try.prog 34 = 24 := by kernel_rfl
theorem zs34 : zsN Try.prog 34 = [.slice none 0 0] := by kernel_rfl
theorem ag34 : agT Try.prog 34 = some false := by kernel_rfl
theorem ldA34 : ldA Try.prog 34 = false := by kernel_rfl
theorem ldS34 : ldS Try.prog 34 = true := by kernel_rfl
theorem nz34 : nzT Try.prog 34 = [some 1] := by kernel_rfl
theorem nze34 : nzE Try.prog 34 = [some 1] := by kernel_rfl
theorem sz34 : szT Try.prog 34 = some 1 := by kernel_rfl
theorem szn34 : szN Try.prog 34 = 1 := by kernel_rfl
theorem zv34 : zvT Try.prog 34 = some [.slice none 0 0] := by kernel_rfl
theorem sl35 : slT Try.prog 35 = some 1 := by kernel_rfl
theorem slz35 : slSz Try.prog 35 = 1 := by kernel_rfl
theorem zok35 : zOk Try.prog 35 = true := by kernel_rfl
theorem by35 : byN Try.prog 35 = 8 := by kernel_rfl
theorem zs35 : zsN Try.prog 35 = [.int .i64 0] := by kernel_rfl
theorem ag35 : agT Try.prog 35 = some false := by kernel_rfl
theorem ldA35 : ldA Try.prog 35 = false := by kernel_rfl
theorem ldS35 : ldS Try.prog 35 = true := by kernel_rfl
theorem nz35 : nzT Try.prog 35 = [some 1] := by kernel_rfl
theorem nze35 : nzE Try.prog 35 = [none] := by kernel_rfl
theorem sz35 : szT Try.prog 35 = some 1 := by kernel_rfl
theorem szn35 : szN Try.prog 35 = 1 := by kernel_rfl
theorem zv35 : zvT Try.prog 35 = some [.slice none 0 0] := by kernel_rfl
theorem ag36 : agT Try.prog 36 = some true := by kernel_rfl
theorem ldA36 : ldA Try.prog 36 = true := by kernel_rfl
theorem nz36 : nzT Try.prog 36 = [none, none, some 1, some 1] := by kernel_rfl
theorem sz36 : szT Try.prog 36 = some 4 := by kernel_rfl
theorem szn36 : szN Try.prog 36 = 4 := by kernel_rfl
theorem zv36 : zvT Try.prog 36 = some [.int .i64 0, .int .i64 0, .slice none 0 0, .slice none 0 0] := by kernel_rfl
theorem bd36 : bdOk Try.prog 36 = true := by kernel_rfl
theorem pl36_0 : plT Try.prog 36 0 = some (0, 1) := by kernel_rfl
theorem pl36_1 : plT Try.prog 36 1 = some (1, 1) := by kernel_rfl
theorem pl36_2 : plT Try.prog 36 2 = some (2, 1) := by kernel_rfl
theorem pl36_3 : plT Try.prog 36 3 = some (3, 1) := by kernel_rfl
theorem fo36_0 : fdO Try.prog 36 0 = 0 := by kernel_rfl
theorem fn36_0 : fdN Try.prog 36 0 = 1 := by kernel_rfl
theorem fk36_0 : fdOk Try.prog 36 0 = true := by kernel_rfl
theorem fs36_0 : fdS Try.prog 36 0 = true := by kernel_rfl
theorem fo36_1 : fdO Try.prog 36 1 = 1 := by kernel_rfl
theorem fn36_1 : fdN Try.prog 36 1 = 1 := by kernel_rfl
theorem fk36_1 : fdOk Try.prog 36 1 = true := by kernel_rfl
theorem fs36_1 : fdS Try.prog 36 1 = true := by kernel_rfl
theorem fo36_2 : fdO Try.prog 36 2 = 2 := by kernel_rfl
theorem fn36_2 : fdN Try.prog 36 2 = 1 := by kernel_rfl
theorem fk36_2 : fdOk Try.prog 36 2 = true := by kernel_rfl
theorem fs36_2 : fdS Try.prog 36 2 = true := by kernel_rfl
theorem fo36_3 : fdO Try.prog 36 3 = 3 := by kernel_rfl
theorem fn36_3 : fdN Try.prog 36 3 = 1 := by kernel_rfl
theorem fk36_3 : fdOk Try.prog 36 3 = true := by kernel_rfl
theorem fs36_3 : fdS Try.prog 36 3 = true := by kernel_rfl
theorem ag37 : agT Try.prog 37 = some true := by kernel_rfl
theorem ldA37 : ldA Try.prog 37 = true := by kernel_rfl
theorem nz37 : nzT Try.prog 37 = [none, none, some 1, some 1] := by kernel_rfl
theorem sz37 : szT Try.prog 37 = some 4 := by kernel_rfl
theorem szn37 : szN Try.prog 37 = 4 := by kernel_rfl
theorem zv37 : zvT Try.prog 37 = some [.int .i64 0, .int .i64 0, .slice none 0 0, .slice none 0 0] := by kernel_rfl
theorem bd37 : bdOk Try.prog 37 = true := by kernel_rfl
theorem pl37_0 : plT Try.prog 37 0 = some (0, 1) := by kernel_rfl
theorem pl37_1 : plT Try.prog 37 1 = some (1, 1) := by kernel_rfl
theorem pl37_2 : plT Try.prog 37 2 = some (2, 1) := by kernel_rfl
theorem pl37_3 : plT Try.prog 37 3 = some (3, 1) := by kernel_rfl
theorem fo37_0 : fdO Try.prog 37 0 = 0 := by kernel_rfl
theorem fn37_0 : fdN Try.prog 37 0 = 1 := by kernel_rfl
theorem fk37_0 : fdOk Try.prog 37 0 = true := by kernel_rfl
theorem fs37_0 : fdS Try.prog 37 0 = true := by kernel_rfl
theorem fo37_1 : fdO Try.prog 37 1 = 1 := by kernel_rfl
theorem fn37_1 : fdN Try.prog 37 1 = 1 := by kernel_rfl
theorem fk37_1 : fdOk Try.prog 37 1 = true := by kernel_rfl
theorem fs37_1 : fdS Try.prog 37 1 = true := by kernel_rfl
theorem fo37_2 : fdO Try.prog 37 2 = 2 := by kernel_rfl
theorem fn37_2 : fdN Try.prog 37 2 = 1 := by kernel_rfl
theorem fk37_2 : fdOk Try.prog 37 2 = true := by kernel_rfl
theorem fs37_2 : fdS Try.prog 37 2 = true := by kernel_rfl
theorem fo37_3 : fdO Try.prog 37 3 = 3 := by kernel_rfl
theorem fn37_3 : fdN Try.prog 37 3 = 1 := by kernel_rfl
theorem fk37_3 : fdOk Try.prog 37 3 = true := by kernel_rfl
theorem fs37_3 : fdS Try.prog 37 3 = true := by kernel_rfl
theorem ag41 : agT Try.prog 41 = some true := by kernel_rfl
theorem ldA41 : ldA Try.prog 41 = true := by kernel_rfl
theorem nz41 : nzT Try.prog 41 = [none, none, some 1, some 1] := by kernel_rfl
theorem sz41 : szT Try.prog 41 = some 4 := by kernel_rfl
theorem szn41 : szN Try.prog 41 = 4 := by kernel_rfl
theorem zv41 : zvT Try.prog 41 = some [.int .i64 0, .int .i64 0, .slice none 0 0, .slice none 0 0] := by kernel_rfl
theorem bd41 : bdOk Try.prog 41 = true := by kernel_rfl
theorem pl41_0 : plT Try.prog 41 0 = some (0, 1) := by kernel_rfl
theorem pl41_1 : plT Try.prog 41 1 = some (1, 1) := by kernel_rfl
theorem pl41_2 : plT Try.prog 41 2 = some (2, 1) := by kernel_rfl
theorem pl41_3 : plT Try.prog 41 3 = some (3, 1) := by kernel_rfl
theorem fo41_0 : fdO Try.prog 41 0 = 0 := by kernel_rfl
theorem fn41_0 : fdN Try.prog 41 0 = 1 := by kernel_rfl
theorem fk41_0 : fdOk Try.prog 41 0 = true := by kernel_rfl
theorem fs41_0 : fdS Try.prog 41 0 = true := by kernel_rfl
theorem fo41_1 : fdO Try.prog 41 1 = 1 := by kernel_rfl
theorem fn41_1 : fdN Try.prog 41 1 = 1 := by kernel_rfl
theorem fk41_1 : fdOk Try.prog 41 1 = true := by kernel_rfl
theorem fs41_1 : fdS Try.prog 41 1 = true := by kernel_rfl
theorem fo41_2 : fdO Try.prog 41 2 = 2 := by kernel_rfl
theorem fn41_2 : fdN Try.prog 41 2 = 1 := by kernel_rfl
theorem fk41_2 : fdOk Try.prog 41 2 = true := by kernel_rfl
theorem fs41_2 : fdS Try.prog 41 2 = true := by kernel_rfl
theorem fo41_3 : fdO Try.prog 41 3 = 3 := by kernel_rfl
theorem fn41_3 : fdN Try.prog 41 3 = 1 := by kernel_rfl
theorem fk41_3 : fdOk Try.prog 41 3 = true := by kernel_rfl
theorem fs41_3 : fdS Try.prog 41 3 = true := by kernel_rfl
theorem ag46 : agT Try.prog 46 = some true := by kernel_rfl
theorem ldA46 : ldA Try.prog 46 = true := by kernel_rfl
theorem nz46 : nzT Try.prog 46 = [none, none, none] := by kernel_rfl
theorem sz46 : szT Try.prog 46 = some 3 := by kernel_rfl
theorem szn46 : szN Try.prog 46 = 3 := by kernel_rfl
theorem zv46 : zvT Try.prog 46 = some [.string ⟨#[]⟩, .int .i64 0, .int .i64 0] := by kernel_rfl
theorem bd46 : bdOk Try.prog 46 = true := by kernel_rfl
theorem pl46_0 : plT Try.prog 46 0 = some (0, 1) := by kernel_rfl
theorem pl46_1 : plT Try.prog 46 1 = some (1, 1) := by kernel_rfl
theorem pl46_2 : plT Try.prog 46 2 = some (2, 1) := by kernel_rfl
theorem fo46_0 : fdO Try.prog 46 0 = 0 := by kernel_rfl
theorem fn46_0 : fdN Try.prog 46 0 = 1 := by kernel_rfl
theorem fk46_0 : fdOk Try.prog 46 0 = true := by kernel_rfl
theorem fs46_0 : fdS Try.prog 46 0 = true := by kernel_rfl
theorem fo46_1 : fdO Try.prog 46 1 = 1 := by kernel_rfl
theorem fn46_1 : fdN Try.prog 46 1 = 1 := by kernel_rfl
theorem fk46_1 : fdOk Try.prog 46 1 = true := by kernel_rfl
theorem fs46_1 : fdS Try.prog 46 1 = true := by kernel_rfl
theorem fo46_2 : fdO Try.prog 46 2 = 2 := by kernel_rfl
theorem fn46_2 : fdN Try.prog 46 2 = 1 := by kernel_rfl
theorem fk46_2 : fdOk Try.prog 46 2 = true := by kernel_rfl
theorem fs46_2 : fdS Try.prog 46 2 = true := by kernel_rfl
theorem ag47 : agT Try.prog 47 = some true := by kernel_rfl
theorem ldA47 : ldA Try.prog 47 = true := by kernel_rfl
theorem nz47 : nzT Try.prog 47 = [none, none, none] := by kernel_rfl
theorem sz47 : szT Try.prog 47 = some 3 := by kernel_rfl
theorem szn47 : szN Try.prog 47 = 3 := by kernel_rfl
theorem zv47 : zvT Try.prog 47 = some [.string ⟨#[]⟩, .int .i64 0, .int .i64 0] := by kernel_rfl
theorem bd47 : bdOk Try.prog 47 = true := by kernel_rfl
theorem pl47_0 : plT Try.prog 47 0 = some (0, 1) := by kernel_rfl
theorem pl47_1 : plT Try.prog 47 1 = some (1, 1) := by kernel_rfl
theorem pl47_2 : plT Try.prog 47 2 = some (2, 1) := by kernel_rfl
theorem fo47_0 : fdO Try.prog 47 0 = 0 := by kernel_rfl
theorem fn47_0 : fdN Try.prog 47 0 = 1 := by kernel_rfl
theorem fk47_0 : fdOk Try.prog 47 0 = true := by kernel_rfl
theorem fs47_0 : fdS Try.prog 47 0 = true := by kernel_rfl
theorem fo47_1 : fdO Try.prog 47 1 = 1 := by kernel_rfl
theorem fn47_1 : fdN Try.prog 47 1 = 1 := by kernel_rfl
theorem fk47_1 : fdOk Try.prog 47 1 = true := by kernel_rfl
theorem fs47_1 : fdS Try.prog 47 1 = true := by kernel_rfl
theorem fo47_2 : fdO Try.prog 47 2 = 2 := by kernel_rfl
theorem fn47_2 : fdN Try.prog 47 2 = 1 := by kernel_rfl
theorem fk47_2 : fdOk Try.prog 47 2 = true := by kernel_rfl
theorem fs47_2 : fdS Try.prog 47 2 = true := by kernel_rfl
theorem ag50 : agT Try.prog 50 = some true := by kernel_rfl
theorem ldA50 : ldA Try.prog 50 = true := by kernel_rfl
theorem nz50 : nzT Try.prog 50 = [none, none, none] := by kernel_rfl
theorem sz50 : szT Try.prog 50 = some 3 := by kernel_rfl
theorem szn50 : szN Try.prog 50 = 3 := by kernel_rfl
theorem zv50 : zvT Try.prog 50 = some [.string ⟨#[]⟩, .int .i64 0, .int .i64 0] := by kernel_rfl
theorem bd50 : bdOk Try.prog 50 = true := by kernel_rfl
theorem pl50_0 : plT Try.prog 50 0 = some (0, 1) := by kernel_rfl
theorem pl50_1 : plT Try.prog 50 1 = some (1, 1) := by kernel_rfl
theorem pl50_2 : plT Try.prog 50 2 = some (2, 1) := by kernel_rfl
theorem fo50_0 : fdO Try.prog 50 0 = 0 := by kernel_rfl
theorem fn50_0 : fdN Try.prog 50 0 = 1 := by kernel_rfl
theorem fk50_0 : fdOk Try.prog 50 0 = true := by kernel_rfl
theorem fs50_0 : fdS Try.prog 50 0 = true := by kernel_rfl
theorem fo50_1 : fdO Try.prog 50 1 = 1 := by kernel_rfl
theorem fn50_1 : fdN Try.prog 50 1 = 1 := by kernel_rfl
theorem fk50_1 : fdOk Try.prog 50 1 = true := by kernel_rfl
theorem fs50_1 : fdS Try.prog 50 1 = true := by kernel_rfl
theorem fo50_2 : fdO Try.prog 50 2 = 2 := by kernel_rfl
theorem fn50_2 : fdN Try.prog 50 2 = 1 := by kernel_rfl
theorem fk50_2 : fdOk Try.prog 50 2 = true := by kernel_rfl
theorem fs50_2 : fdS Try.prog 50 2 = true := by kernel_rfl
theorem sl70 : slT Try.prog 70 = some 1 := by kernel_rfl
theorem slz70 : slSz Try.prog 70 = 1 := by kernel_rfl
theorem zok70 : zOk Try.prog 70 = true := by kernel_rfl
theorem by70 : byN Try.prog 70 = 1 := by kernel_rfl
theorem zs70 : zsN Try.prog 70 = [.int .u8 0] := by kernel_rfl
theorem ag70 : agT Try.prog 70 = some false := by kernel_rfl
theorem ldA70 : ldA Try.prog 70 = false := by kernel_rfl
theorem ldS70 : ldS Try.prog 70 = true := by kernel_rfl
theorem nz70 : nzT Try.prog 70 = [some 1] := by kernel_rfl
theorem nze70 : nzE Try.prog 70 = [none] := by kernel_rfl
theorem sz70 : szT Try.prog 70 = some 1 := by kernel_rfl
theorem szn70 : szN Try.prog 70 = 1 := by kernel_rfl
theorem zv70 : zvT Try.prog 70 = some [.slice none 0 0] := by kernel_rfl
theorem u870 : u8sl Try.prog 70 = true := by kernel_rfl
theorem sl71 : slT Try.prog 71 = some 3 := by kernel_rfl
theorem slz71 : slSz Try.prog 71 = 3 := by kernel_rfl
theorem zok71 : zOk Try.prog 71 = true := by kernel_rfl
theorem by71 : byN Try.prog 71 = 24 := by kernel_rfl
theorem zs71 : zsN Try.prog 71 = [.int .i64 0, .int .i64 0, .int .i64 0] := by kernel_rfl
theorem ag71 : agT Try.prog 71 = some false := by kernel_rfl
theorem ldA71 : ldA Try.prog 71 = false := by kernel_rfl
theorem ldS71 : ldS Try.prog 71 = true := by kernel_rfl
theorem nz71 : nzT Try.prog 71 = [some 3] := by kernel_rfl
theorem nze71 : nzE Try.prog 71 = [none, none, none] := by kernel_rfl
theorem sz71 : szT Try.prog 71 = some 1 := by kernel_rfl
theorem szn71 : szN Try.prog 71 = 1 := by kernel_rfl
theorem zv71 : zvT Try.prog 71 = some [.slice none 0 0] := by kernel_rfl
theorem ag72 : agT Try.prog 72 = some true := by kernel_rfl
theorem ldA72 : ldA Try.prog 72 = true := by kernel_rfl
theorem nz72 : nzT Try.prog 72 = [none, none, some 3] := by kernel_rfl
theorem sz72 : szT Try.prog 72 = some 3 := by kernel_rfl
theorem szn72 : szN Try.prog 72 = 3 := by kernel_rfl
theorem zv72 : zvT Try.prog 72 = some [.int .i64 0, .int .i64 0, .slice none 0 0] := by kernel_rfl
theorem bd72 : bdOk Try.prog 72 = true := by kernel_rfl
theorem pl72_0 : plT Try.prog 72 0 = some (0, 1) := by kernel_rfl
theorem pl72_1 : plT Try.prog 72 1 = some (1, 1) := by kernel_rfl
theorem pl72_2 : plT Try.prog 72 2 = some (2, 1) := by kernel_rfl
theorem fo72_0 : fdO Try.prog 72 0 = 0 := by kernel_rfl
theorem fn72_0 : fdN Try.prog 72 0 = 1 := by kernel_rfl
theorem fk72_0 : fdOk Try.prog 72 0 = true := by kernel_rfl
theorem fs72_0 : fdS Try.prog 72 0 = true := by kernel_rfl
theorem fo72_1 : fdO Try.prog 72 1 = 1 := by kernel_rfl
theorem fn72_1 : fdN Try.prog 72 1 = 1 := by kernel_rfl
theorem fk72_1 : fdOk Try.prog 72 1 = true := by kernel_rfl
theorem fs72_1 : fdS Try.prog 72 1 = true := by kernel_rfl
theorem fo72_2 : fdO Try.prog 72 2 = 2 := by kernel_rfl
theorem fn72_2 : fdN Try.prog 72 2 = 1 := by kernel_rfl
theorem fk72_2 : fdOk Try.prog 72 2 = true := by kernel_rfl
theorem fs72_2 : fdS Try.prog 72 2 = true := by kernel_rfl
theorem ag73 : agT Try.prog 73 = some true := by kernel_rfl
theorem ldA73 : ldA Try.prog 73 = true := by kernel_rfl
theorem nz73 : nzT Try.prog 73 = [none, none, some 3] := by kernel_rfl
theorem sz73 : szT Try.prog 73 = some 3 := by kernel_rfl
theorem szn73 : szN Try.prog 73 = 3 := by kernel_rfl
theorem zv73 : zvT Try.prog 73 = some [.int .i64 0, .int .i64 0, .slice none 0 0] := by kernel_rfl
theorem bd73 : bdOk Try.prog 73 = true := by kernel_rfl
theorem pl73_0 : plT Try.prog 73 0 = some (0, 1) := by kernel_rfl
theorem pl73_1 : plT Try.prog 73 1 = some (1, 1) := by kernel_rfl
theorem pl73_2 : plT Try.prog 73 2 = some (2, 1) := by kernel_rfl
theorem fo73_0 : fdO Try.prog 73 0 = 0 := by kernel_rfl
theorem fn73_0 : fdN Try.prog 73 0 = 1 := by kernel_rfl
theorem fk73_0 : fdOk Try.prog 73 0 = true := by kernel_rfl
theorem fs73_0 : fdS Try.prog 73 0 = true := by kernel_rfl
theorem fo73_1 : fdO Try.prog 73 1 = 1 := by kernel_rfl
theorem fn73_1 : fdN Try.prog 73 1 = 1 := by kernel_rfl
theorem fk73_1 : fdOk Try.prog 73 1 = true := by kernel_rfl
theorem fs73_1 : fdS Try.prog 73 1 = true := by kernel_rfl
theorem fo73_2 : fdO Try.prog 73 2 = 2 := by kernel_rfl
theorem fn73_2 : fdN Try.prog 73 2 = 1 := by kernel_rfl
theorem fk73_2 : fdOk Try.prog 73 2 = true := by kernel_rfl
theorem fs73_2 : fdS Try.prog 73 2 = true := by kernel_rfl
theorem sl78 : slT Try.prog 78 = some 3 := by kernel_rfl
theorem slz78 : slSz Try.prog 78 = 3 := by kernel_rfl
theorem zok78 : zOk Try.prog 78 = true := by kernel_rfl
theorem by78 : byN Try.prog 78 = 40 := by kernel_rfl
theorem zs78 : zsN Try.prog 78 = [.int .i64 0, .int .i64 0, .slice none 0 0] := by kernel_rfl
theorem ag78 : agT Try.prog 78 = some false := by kernel_rfl
theorem ldA78 : ldA Try.prog 78 = false := by kernel_rfl
theorem ldS78 : ldS Try.prog 78 = true := by kernel_rfl
theorem nz78 : nzT Try.prog 78 = [some 3] := by kernel_rfl
theorem nze78 : nzE Try.prog 78 = [none, none, some 3] := by kernel_rfl
theorem sz78 : szT Try.prog 78 = some 1 := by kernel_rfl
theorem szn78 : szN Try.prog 78 = 1 := by kernel_rfl
theorem zv78 : zvT Try.prog 78 = some [.slice none 0 0] := by kernel_rfl
theorem ag83 : agT Try.prog 83 = some true := by kernel_rfl
theorem ldA83 : ldA Try.prog 83 = true := by kernel_rfl
theorem nz83 : nzT Try.prog 83 = [none, none, none] := by kernel_rfl
theorem sz83 : szT Try.prog 83 = some 3 := by kernel_rfl
theorem szn83 : szN Try.prog 83 = 3 := by kernel_rfl
theorem zv83 : zvT Try.prog 83 = some [.int .i64 0, .int .i64 0, .int .i64 0] := by kernel_rfl
theorem bd83 : bdOk Try.prog 83 = true := by kernel_rfl
theorem pl83_0 : plT Try.prog 83 0 = some (0, 1) := by kernel_rfl
theorem pl83_1 : plT Try.prog 83 1 = some (1, 1) := by kernel_rfl
theorem pl83_2 : plT Try.prog 83 2 = some (2, 1) := by kernel_rfl
theorem fo83_0 : fdO Try.prog 83 0 = 0 := by kernel_rfl
theorem fn83_0 : fdN Try.prog 83 0 = 1 := by kernel_rfl
theorem fk83_0 : fdOk Try.prog 83 0 = true := by kernel_rfl
theorem fs83_0 : fdS Try.prog 83 0 = true := by kernel_rfl
theorem fo83_1 : fdO Try.prog 83 1 = 1 := by kernel_rfl
theorem fn83_1 : fdN Try.prog 83 1 = 1 := by kernel_rfl
theorem fk83_1 : fdOk Try.prog 83 1 = true := by kernel_rfl
theorem fs83_1 : fdS Try.prog 83 1 = true := by kernel_rfl
theorem fo83_2 : fdO Try.prog 83 2 = 2 := by kernel_rfl
theorem fn83_2 : fdN Try.prog 83 2 = 1 := by kernel_rfl
theorem fk83_2 : fdOk Try.prog 83 2 = true := by kernel_rfl
theorem fs83_2 : fdS Try.prog 83 2 = true := by kernel_rfl
theorem ag84 : agT Try.prog 84 = some true := by kernel_rfl
theorem ldA84 : ldA Try.prog 84 = true := by kernel_rfl
theorem nz84 : nzT Try.prog 84 = [none, none, none] := by kernel_rfl
theorem sz84 : szT Try.prog 84 = some 3 := by kernel_rfl
theorem szn84 : szN Try.prog 84 = 3 := by kernel_rfl
theorem zv84 : zvT Try.prog 84 = some [.int .i64 0, .int .i64 0, .int .i64 0] := by kernel_rfl
theorem bd84 : bdOk Try.prog 84 = true := by kernel_rfl
theorem pl84_0 : plT Try.prog 84 0 = some (0, 1) := by kernel_rfl
theorem pl84_1 : plT Try.prog 84 1 = some (1, 1) := by kernel_rfl
theorem pl84_2 : plT Try.prog 84 2 = some (2, 1) := by kernel_rfl
theorem fo84_0 : fdO Try.prog 84 0 = 0 := by kernel_rfl
theorem fn84_0 : fdN Try.prog 84 0 = 1 := by kernel_rfl
theorem fk84_0 : fdOk Try.prog 84 0 = true := by kernel_rfl
theorem fs84_0 : fdS Try.prog 84 0 = true := by kernel_rfl
theorem fo84_1 : fdO Try.prog 84 1 = 1 := by kernel_rfl
theorem fn84_1 : fdN Try.prog 84 1 = 1 := by kernel_rfl
theorem fk84_1 : fdOk Try.prog 84 1 = true := by kernel_rfl
theorem fs84_1 : fdS Try.prog 84 1 = true := by kernel_rfl
theorem fo84_2 : fdO Try.prog 84 2 = 2 := by kernel_rfl
theorem fn84_2 : fdN Try.prog 84 2 = 1 := by kernel_rfl
theorem fk84_2 : fdOk Try.prog 84 2 = true := by kernel_rfl
theorem fs84_2 : fdS Try.prog 84 2 = true := by kernel_rfl
theorem sl90 : slT Try.prog 90 = some 1 := by kernel_rfl
theorem slz90 : slSz Try.prog 90 = 1 := by kernel_rfl
theorem zok90 : zOk Try.prog 90 = true := by kernel_rfl
theorem by90 : byN Try.prog 90 = 1 := by kernel_rfl
theorem zs90 : zsN Try.prog 90 = [.bool false] := by kernel_rfl
theorem ag90 : agT Try.prog 90 = some false := by kernel_rfl
theorem ldA90 : ldA Try.prog 90 = false := by kernel_rfl
theorem ldS90 : ldS Try.prog 90 = true := by kernel_rfl
theorem nz90 : nzT Try.prog 90 = [some 1] := by kernel_rfl
theorem nze90 : nzE Try.prog 90 = [none] := by kernel_rfl
theorem sz90 : szT Try.prog 90 = some 1 := by kernel_rfl
theorem szn90 : szN Try.prog 90 = 1 := by kernel_rfl
theorem zv90 : zvT Try.prog 90 = some [.slice none 0 0] := by kernel_rfl
theorem ag91 : agT Try.prog 91 = some false := by kernel_rfl
theorem ldA91 : ldA Try.prog 91 = false := by kernel_rfl
theorem ldS91 : ldS Try.prog 91 = true := by kernel_rfl
theorem nz91 : nzT Try.prog 91 = [none] := by kernel_rfl
theorem sz91 : szT Try.prog 91 = some 1 := by kernel_rfl
theorem szn91 : szN Try.prog 91 = 1 := by kernel_rfl
theorem zv91 : zvT Try.prog 91 = some [.pointer none] := by kernel_rfl
theorem ag104 : agT Try.prog 104 = some true := by kernel_rfl
theorem ldA104 : ldA Try.prog 104 = true := by kernel_rfl
theorem nz104 : nzT Try.prog 104 = [none, none, none, none] := by kernel_rfl
theorem sz104 : szT Try.prog 104 = some 4 := by kernel_rfl
theorem szn104 : szN Try.prog 104 = 4 := by kernel_rfl
theorem zv104 : zvT Try.prog 104 = some [.pointer none, .pointer none, .pointer none, .string ⟨#[]⟩] := by kernel_rfl
theorem bd104 : bdOk Try.prog 104 = true := by kernel_rfl
theorem pl104_0 : plT Try.prog 104 0 = some (0, 1) := by kernel_rfl
theorem pl104_1 : plT Try.prog 104 1 = some (1, 1) := by kernel_rfl
theorem pl104_2 : plT Try.prog 104 2 = some (2, 1) := by kernel_rfl
theorem pl104_3 : plT Try.prog 104 3 = some (3, 1) := by kernel_rfl
theorem fo104_0 : fdO Try.prog 104 0 = 0 := by kernel_rfl
theorem fn104_0 : fdN Try.prog 104 0 = 1 := by kernel_rfl
theorem fk104_0 : fdOk Try.prog 104 0 = true := by kernel_rfl
theorem fs104_0 : fdS Try.prog 104 0 = true := by kernel_rfl
theorem fo104_1 : fdO Try.prog 104 1 = 1 := by kernel_rfl
theorem fn104_1 : fdN Try.prog 104 1 = 1 := by kernel_rfl
theorem fk104_1 : fdOk Try.prog 104 1 = true := by kernel_rfl
theorem fs104_1 : fdS Try.prog 104 1 = true := by kernel_rfl
theorem fo104_2 : fdO Try.prog 104 2 = 2 := by kernel_rfl
theorem fn104_2 : fdN Try.prog 104 2 = 1 := by kernel_rfl
theorem fk104_2 : fdOk Try.prog 104 2 = true := by kernel_rfl
theorem fs104_2 : fdS Try.prog 104 2 = true := by kernel_rfl
theorem fo104_3 : fdO Try.prog 104 3 = 3 := by kernel_rfl
theorem fn104_3 : fdN Try.prog 104 3 = 1 := by kernel_rfl
theorem fk104_3 : fdOk Try.prog 104 3 = true := by kernel_rfl
theorem fs104_3 : fdS Try.prog 104 3 = true := by kernel_rfl
theorem ag105 : agT Try.prog 105 = some true := by kernel_rfl
theorem ldA105 : ldA Try.prog 105 = true := by kernel_rfl
theorem nz105 : nzT Try.prog 105 = [none, none, none, none] := by kernel_rfl
theorem sz105 : szT Try.prog 105 = some 4 := by kernel_rfl
theorem szn105 : szN Try.prog 105 = 4 := by kernel_rfl
theorem zv105 : zvT Try.prog 105 = some [.pointer none, .pointer none, .pointer none, .string ⟨#[]⟩] := by kernel_rfl
theorem bd105 : bdOk Try.prog 105 = true := by kernel_rfl
theorem pl105_0 : plT Try.prog 105 0 = some (0, 1) := by kernel_rfl
theorem pl105_1 : plT Try.prog 105 1 = some (1, 1) := by kernel_rfl
theorem pl105_2 : plT Try.prog 105 2 = some (2, 1) := by kernel_rfl
theorem pl105_3 : plT Try.prog 105 3 = some (3, 1) := by kernel_rfl
theorem fo105_0 : fdO Try.prog 105 0 = 0 := by kernel_rfl
theorem fn105_0 : fdN Try.prog 105 0 = 1 := by kernel_rfl
theorem fk105_0 : fdOk Try.prog 105 0 = true := by kernel_rfl
theorem fs105_0 : fdS Try.prog 105 0 = true := by kernel_rfl
theorem fo105_1 : fdO Try.prog 105 1 = 1 := by kernel_rfl
theorem fn105_1 : fdN Try.prog 105 1 = 1 := by kernel_rfl
theorem fk105_1 : fdOk Try.prog 105 1 = true := by kernel_rfl
theorem fs105_1 : fdS Try.prog 105 1 = true := by kernel_rfl
theorem fo105_2 : fdO Try.prog 105 2 = 2 := by kernel_rfl
theorem fn105_2 : fdN Try.prog 105 2 = 1 := by kernel_rfl
theorem fk105_2 : fdOk Try.prog 105 2 = true := by kernel_rfl
theorem fs105_2 : fdS Try.prog 105 2 = true := by kernel_rfl
theorem fo105_3 : fdO Try.prog 105 3 = 3 := by kernel_rfl
theorem fn105_3 : fdN Try.prog 105 3 = 1 := by kernel_rfl
theorem fk105_3 : fdOk Try.prog 105 3 = true := by kernel_rfl
theorem fs105_3 : fdS Try.prog 105 3 = true := by kernel_rfl
theorem ag106 : agT Try.prog 106 = some true := by kernel_rfl
theorem ldA106 : ldA Try.prog 106 = true := by kernel_rfl
theorem nz106 : nzT Try.prog 106 = [] := by kernel_rfl
theorem sz106 : szT Try.prog 106 = some 0 := by kernel_rfl
theorem szn106 : szN Try.prog 106 = 0 := by kernel_rfl
theorem bd106 : bdOk Try.prog 106 = true := by kernel_rfl
theorem ag107 : agT Try.prog 107 = some true := by kernel_rfl
theorem ldA107 : ldA Try.prog 107 = true := by kernel_rfl
theorem nz107 : nzT Try.prog 107 = [] := by kernel_rfl
theorem sz107 : szT Try.prog 107 = some 0 := by kernel_rfl
theorem szn107 : szN Try.prog 107 = 0 := by kernel_rfl
theorem bd107 : bdOk Try.prog 107 = true := by kernel_rfl
theorem pl107_0 : plT Try.prog 107 0 = some (0, 0) := by kernel_rfl
theorem fo107_0 : fdO Try.prog 107 0 = 0 := by kernel_rfl
theorem fn107_0 : fdN Try.prog 107 0 = 0 := by kernel_rfl
theorem ag108 : agT Try.prog 108 = some true := by kernel_rfl
theorem ldA108 : ldA Try.prog 108 = true := by kernel_rfl
theorem nz108 : nzT Try.prog 108 = [] := by kernel_rfl
theorem sz108 : szT Try.prog 108 = some 0 := by kernel_rfl
theorem szn108 : szN Try.prog 108 = 0 := by kernel_rfl
theorem bd108 : bdOk Try.prog 108 = true := by kernel_rfl
theorem pl108_0 : plT Try.prog 108 0 = some (0, 0) := by kernel_rfl
theorem fo108_0 : fdO Try.prog 108 0 = 0 := by kernel_rfl
theorem fn108_0 : fdN Try.prog 108 0 = 0 := by kernel_rfl
theorem ag109 : agT Try.prog 109 = some false := by kernel_rfl
theorem ldA109 : ldA Try.prog 109 = false := by kernel_rfl
theorem ldS109 : ldS Try.prog 109 = true := by kernel_rfl
theorem nz109 : nzT Try.prog 109 = [none] := by kernel_rfl
theorem sz109 : szT Try.prog 109 = some 1 := by kernel_rfl
theorem szn109 : szN Try.prog 109 = 1 := by kernel_rfl
theorem zv109 : zvT Try.prog 109 = some [.int .u32 0] := by kernel_rfl
theorem int109 : intKd Try.prog 109 = some .u32 := by kernel_rfl
theorem ag110 : agT Try.prog 110 = some false := by kernel_rfl
theorem ldA110 : ldA Try.prog 110 = false := by kernel_rfl
theorem ldS110 : ldS Try.prog 110 = true := by kernel_rfl
theorem nz110 : nzT Try.prog 110 = [none] := by kernel_rfl
theorem sz110 : szT Try.prog 110 = some 1 := by kernel_rfl
theorem szn110 : szN Try.prog 110 = 1 := by kernel_rfl
theorem zv110 : zvT Try.prog 110 = some [.int .u8 0] := by kernel_rfl
theorem int110 : intKd Try.prog 110 = some .u8 := by kernel_rfl
theorem ag111 : agT Try.prog 111 = some false := by kernel_rfl
theorem ldA111 : ldA Try.prog 111 = false := by kernel_rfl
theorem ldS111 : ldS Try.prog 111 = true := by kernel_rfl
theorem nz111 : nzT Try.prog 111 = [none] := by kernel_rfl
theorem sz111 : szT Try.prog 111 = some 1 := by kernel_rfl
theorem szn111 : szN Try.prog 111 = 1 := by kernel_rfl
theorem zv111 : zvT Try.prog 111 = some [.int .u8 0] := by kernel_rfl
theorem int111 : intKd Try.prog 111 = some .u8 := by kernel_rfl
theorem ag113 : agT Try.prog 113 = some false := by kernel_rfl
theorem ldA113 : ldA Try.prog 113 = false := by kernel_rfl
theorem ldS113 : ldS Try.prog 113 = true := by kernel_rfl
theorem nz113 : nzT Try.prog 113 = [none] := by kernel_rfl
theorem sz113 : szT Try.prog 113 = some 1 := by kernel_rfl
theorem szn113 : szN Try.prog 113 = 1 := by kernel_rfl
theorem zv113 : zvT Try.prog 113 = some [.pointer none] := by kernel_rfl
theorem ag114 : agT Try.prog 114 = some false := by kernel_rfl
theorem ldA114 : ldA Try.prog 114 = false := by kernel_rfl
theorem ldS114 : ldS Try.prog 114 = true := by kernel_rfl
theorem nz114 : nzT Try.prog 114 = [none] := by kernel_rfl
theorem sz114 : szT Try.prog 114 = some 1 := by kernel_rfl
theorem szn114 : szN Try.prog 114 = 1 := by kernel_rfl
theorem zv114 : zvT Try.prog 114 = some [.int .i32 0] := by kernel_rfl
theorem int114 : intKd Try.prog 114 = some .i32 := by kernel_rfl
theorem ag115 : agT Try.prog 115 = some false := by kernel_rfl
theorem ldA115 : ldA Try.prog 115 = false := by kernel_rfl
theorem ldS115 : ldS Try.prog 115 = true := by kernel_rfl
theorem nz115 : nzT Try.prog 115 = [none] := by kernel_rfl
theorem sz115 : szT Try.prog 115 = some 1 := by kernel_rfl
theorem szn115 : szN Try.prog 115 = 1 := by kernel_rfl
theorem zv115 : zvT Try.prog 115 = some [.int .i32 0] := by kernel_rfl
theorem int115 : intKd Try.prog 115 = some .i32 := by kernel_rfl
theorem ag116 : agT Try.prog 116 = some true := by kernel_rfl
theorem ldA116 : ldA Try.prog 116 = true := by kernel_rfl
theorem nz116 : nzT Try.prog 116 = [none, none, none, none, none, none, none, none, none, none, none] := by kernel_rfl
theorem sz116 : szT Try.prog 116 = some 11 := by kernel_rfl
theorem szn116 : szN Try.prog 116 = 11 := by kernel_rfl
theorem zv116 : zvT Try.prog 116 = some [.int .u64 0, .int .u64 0, .int .u32 0, .int .u8 0, .int .u8 0, .int .u8 0, .int .u8 0, .nilFunc, .pointer none, .int .i32 0, .int .i32 0] := by kernel_rfl
theorem bd116 : bdOk Try.prog 116 = true := by kernel_rfl
theorem pl116_0 : plT Try.prog 116 0 = some (0, 1) := by kernel_rfl
theorem pl116_1 : plT Try.prog 116 1 = some (1, 1) := by kernel_rfl
theorem pl116_2 : plT Try.prog 116 2 = some (2, 1) := by kernel_rfl
theorem pl116_3 : plT Try.prog 116 3 = some (3, 1) := by kernel_rfl
theorem pl116_4 : plT Try.prog 116 4 = some (4, 1) := by kernel_rfl
theorem pl116_5 : plT Try.prog 116 5 = some (5, 1) := by kernel_rfl
theorem pl116_6 : plT Try.prog 116 6 = some (6, 1) := by kernel_rfl
theorem pl116_8 : plT Try.prog 116 8 = some (8, 1) := by kernel_rfl
theorem pl116_9 : plT Try.prog 116 9 = some (9, 1) := by kernel_rfl
theorem pl116_10 : plT Try.prog 116 10 = some (10, 1) := by kernel_rfl
theorem fo116_0 : fdO Try.prog 116 0 = 0 := by kernel_rfl
theorem fn116_0 : fdN Try.prog 116 0 = 1 := by kernel_rfl
theorem fk116_0 : fdOk Try.prog 116 0 = true := by kernel_rfl
theorem fs116_0 : fdS Try.prog 116 0 = true := by kernel_rfl
theorem fo116_1 : fdO Try.prog 116 1 = 1 := by kernel_rfl
theorem fn116_1 : fdN Try.prog 116 1 = 1 := by kernel_rfl
theorem fk116_1 : fdOk Try.prog 116 1 = true := by kernel_rfl
theorem fs116_1 : fdS Try.prog 116 1 = true := by kernel_rfl
theorem fo116_2 : fdO Try.prog 116 2 = 2 := by kernel_rfl
theorem fn116_2 : fdN Try.prog 116 2 = 1 := by kernel_rfl
theorem fk116_2 : fdOk Try.prog 116 2 = true := by kernel_rfl
theorem fs116_2 : fdS Try.prog 116 2 = true := by kernel_rfl
theorem fo116_3 : fdO Try.prog 116 3 = 3 := by kernel_rfl
theorem fn116_3 : fdN Try.prog 116 3 = 1 := by kernel_rfl
theorem fk116_3 : fdOk Try.prog 116 3 = true := by kernel_rfl
theorem fs116_3 : fdS Try.prog 116 3 = true := by kernel_rfl
theorem fo116_4 : fdO Try.prog 116 4 = 4 := by kernel_rfl
theorem fn116_4 : fdN Try.prog 116 4 = 1 := by kernel_rfl
theorem fk116_4 : fdOk Try.prog 116 4 = true := by kernel_rfl
theorem fs116_4 : fdS Try.prog 116 4 = true := by kernel_rfl
theorem fo116_5 : fdO Try.prog 116 5 = 5 := by kernel_rfl
theorem fn116_5 : fdN Try.prog 116 5 = 1 := by kernel_rfl
theorem fk116_5 : fdOk Try.prog 116 5 = true := by kernel_rfl
theorem fs116_5 : fdS Try.prog 116 5 = true := by kernel_rfl
theorem fo116_6 : fdO Try.prog 116 6 = 6 := by kernel_rfl
theorem fn116_6 : fdN Try.prog 116 6 = 1 := by kernel_rfl
theorem fk116_6 : fdOk Try.prog 116 6 = true := by kernel_rfl
theorem fs116_6 : fdS Try.prog 116 6 = true := by kernel_rfl
theorem fo116_8 : fdO Try.prog 116 8 = 8 := by kernel_rfl
theorem fn116_8 : fdN Try.prog 116 8 = 1 := by kernel_rfl
theorem fk116_8 : fdOk Try.prog 116 8 = true := by kernel_rfl
theorem fs116_8 : fdS Try.prog 116 8 = true := by kernel_rfl
theorem fo116_9 : fdO Try.prog 116 9 = 9 := by kernel_rfl
theorem fn116_9 : fdN Try.prog 116 9 = 1 := by kernel_rfl
theorem fk116_9 : fdOk Try.prog 116 9 = true := by kernel_rfl
theorem fs116_9 : fdS Try.prog 116 9 = true := by kernel_rfl
theorem fo116_10 : fdO Try.prog 116 10 = 10 := by kernel_rfl
theorem fn116_10 : fdN Try.prog 116 10 = 1 := by kernel_rfl
theorem fk116_10 : fdOk Try.prog 116 10 = true := by kernel_rfl
theorem fs116_10 : fdS Try.prog 116 10 = true := by kernel_rfl
theorem ag117 : agT Try.prog 117 = some true := by kernel_rfl
theorem ldA117 : ldA Try.prog 117 = true := by kernel_rfl
theorem nz117 : nzT Try.prog 117 = [none, none, none, none, none, none, none, none, none, none, none] := by kernel_rfl
theorem sz117 : szT Try.prog 117 = some 11 := by kernel_rfl
theorem szn117 : szN Try.prog 117 = 11 := by kernel_rfl
theorem zv117 : zvT Try.prog 117 = some [.int .u64 0, .int .u64 0, .int .u32 0, .int .u8 0, .int .u8 0, .int .u8 0, .int .u8 0, .nilFunc, .pointer none, .int .i32 0, .int .i32 0] := by kernel_rfl
theorem bd117 : bdOk Try.prog 117 = true := by kernel_rfl
theorem pl117_0 : plT Try.prog 117 0 = some (0, 1) := by kernel_rfl
theorem pl117_1 : plT Try.prog 117 1 = some (1, 1) := by kernel_rfl
theorem pl117_2 : plT Try.prog 117 2 = some (2, 1) := by kernel_rfl
theorem pl117_3 : plT Try.prog 117 3 = some (3, 1) := by kernel_rfl
theorem pl117_4 : plT Try.prog 117 4 = some (4, 1) := by kernel_rfl
theorem pl117_5 : plT Try.prog 117 5 = some (5, 1) := by kernel_rfl
theorem pl117_6 : plT Try.prog 117 6 = some (6, 1) := by kernel_rfl
theorem pl117_8 : plT Try.prog 117 8 = some (8, 1) := by kernel_rfl
theorem pl117_9 : plT Try.prog 117 9 = some (9, 1) := by kernel_rfl
theorem pl117_10 : plT Try.prog 117 10 = some (10, 1) := by kernel_rfl
theorem fo117_0 : fdO Try.prog 117 0 = 0 := by kernel_rfl
theorem fn117_0 : fdN Try.prog 117 0 = 1 := by kernel_rfl
theorem fk117_0 : fdOk Try.prog 117 0 = true := by kernel_rfl
theorem fs117_0 : fdS Try.prog 117 0 = true := by kernel_rfl
theorem fo117_1 : fdO Try.prog 117 1 = 1 := by kernel_rfl
theorem fn117_1 : fdN Try.prog 117 1 = 1 := by kernel_rfl
theorem fk117_1 : fdOk Try.prog 117 1 = true := by kernel_rfl
theorem fs117_1 : fdS Try.prog 117 1 = true := by kernel_rfl
theorem fo117_2 : fdO Try.prog 117 2 = 2 := by kernel_rfl
theorem fn117_2 : fdN Try.prog 117 2 = 1 := by kernel_rfl
theorem fk117_2 : fdOk Try.prog 117 2 = true := by kernel_rfl
theorem fs117_2 : fdS Try.prog 117 2 = true := by kernel_rfl
theorem fo117_3 : fdO Try.prog 117 3 = 3 := by kernel_rfl
theorem fn117_3 : fdN Try.prog 117 3 = 1 := by kernel_rfl
theorem fk117_3 : fdOk Try.prog 117 3 = true := by kernel_rfl
theorem fs117_3 : fdS Try.prog 117 3 = true := by kernel_rfl
theorem fo117_4 : fdO Try.prog 117 4 = 4 := by kernel_rfl
theorem fn117_4 : fdN Try.prog 117 4 = 1 := by kernel_rfl
theorem fk117_4 : fdOk Try.prog 117 4 = true := by kernel_rfl
theorem fs117_4 : fdS Try.prog 117 4 = true := by kernel_rfl
theorem fo117_5 : fdO Try.prog 117 5 = 5 := by kernel_rfl
theorem fn117_5 : fdN Try.prog 117 5 = 1 := by kernel_rfl
theorem fk117_5 : fdOk Try.prog 117 5 = true := by kernel_rfl
theorem fs117_5 : fdS Try.prog 117 5 = true := by kernel_rfl
theorem fo117_6 : fdO Try.prog 117 6 = 6 := by kernel_rfl
theorem fn117_6 : fdN Try.prog 117 6 = 1 := by kernel_rfl
theorem fk117_6 : fdOk Try.prog 117 6 = true := by kernel_rfl
theorem fs117_6 : fdS Try.prog 117 6 = true := by kernel_rfl
theorem fo117_8 : fdO Try.prog 117 8 = 8 := by kernel_rfl
theorem fn117_8 : fdN Try.prog 117 8 = 1 := by kernel_rfl
theorem fk117_8 : fdOk Try.prog 117 8 = true := by kernel_rfl
theorem fs117_8 : fdS Try.prog 117 8 = true := by kernel_rfl
theorem fo117_9 : fdO Try.prog 117 9 = 9 := by kernel_rfl
theorem fn117_9 : fdN Try.prog 117 9 = 1 := by kernel_rfl
theorem fk117_9 : fdOk Try.prog 117 9 = true := by kernel_rfl
theorem fs117_9 : fdS Try.prog 117 9 = true := by kernel_rfl
theorem fo117_10 : fdO Try.prog 117 10 = 10 := by kernel_rfl
theorem fn117_10 : fdN Try.prog 117 10 = 1 := by kernel_rfl
theorem fk117_10 : fdOk Try.prog 117 10 = true := by kernel_rfl
theorem fs117_10 : fdS Try.prog 117 10 = true := by kernel_rfl
end Ty
end Go.Av
