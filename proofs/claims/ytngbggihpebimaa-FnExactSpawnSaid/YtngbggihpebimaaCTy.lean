/- What the types of this translation are. -/
import Derived.Test.YtngbggihpebimaaCZzN
import Derived.Test.YtngbggihpebimaaProg
/-! What the types of this translation are. -/
namespace Go.Av
open Go.Proofs
namespace Ty
theorem ag2 : agT Try.prog 2 = some false := by kernel_rfl
theorem ldA2 : ldA Try.prog 2 = false := by kernel_rfl
theorem ldS2 : ldS Try.prog 2 = true := by kernel_rfl
theorem nz2 : nzT Try.prog 2 = [none] := by kernel_rfl
theorem sz2 : szT Try.prog 2 = some 1 := by kernel_rfl
theorem szn2 : szN Try.prog 2 = 1 := by kernel_rfl
theorem zv2 : zvT Try.prog 2 = some [.int .i64 0] := by kernel_rfl
theorem int2 : intKd Try.prog 2 = some .i64 := by kernel_rfl
theorem ag3 : agT Try.prog 3 = some false := by kernel_rfl
theorem ldA3 : ldA Try.prog 3 = false := by kernel_rfl
theorem ldS3 : ldS Try.prog 3 = true := by kernel_rfl
theorem nz3 : nzT Try.prog 3 = [none] := by kernel_rfl
theorem sz3 : szT Try.prog 3 = some 1 := by kernel_rfl
theorem szn3 : szN Try.prog 3 = 1 := by kernel_rfl
theorem zv3 : zvT Try.prog 3 = some [.int .i64 0] := by kernel_rfl
theorem int3 : intKd Try.prog 3 = some .i64 := by kernel_rfl
theorem ag4 : agT Try.prog 4 = some false := by kernel_rfl
theorem ldA4 : ldA Try.prog 4 = false := by kernel_rfl
theorem ldS4 : ldS Try.prog 4 = true := by kernel_rfl
theorem nz4 : nzT Try.prog 4 = [none] := by kernel_rfl
theorem sz4 : szT Try.prog 4 = some 1 := by kernel_rfl
theorem szn4 : szN Try.prog 4 = 1 := by kernel_rfl
theorem zv4 : zvT Try.prog 4 = some [.bool false] := by kernel_rfl
theorem bl4 : isBl Try.prog 4 = true := by kernel_rfl
theorem ag5 : agT Try.prog 5 = some false := by kernel_rfl
theorem ldA5 : ldA Try.prog 5 = false := by kernel_rfl
theorem ldS5 : ldS Try.prog 5 = true := by kernel_rfl
theorem nz5 : nzT Try.prog 5 = [none] := by kernel_rfl
theorem sz5 : szT Try.prog 5 = some 1 := by kernel_rfl
theorem szn5 : szN Try.prog 5 = 1 := by kernel_rfl
theorem zv5 : zvT Try.prog 5 = some [.int .u8 0] := by kernel_rfl
theorem int5 : intKd Try.prog 5 = some .u8 := by kernel_rfl
theorem ag6 : agT Try.prog 6 = some false := by kernel_rfl
theorem ldA6 : ldA Try.prog 6 = false := by kernel_rfl
theorem ldS6 : ldS Try.prog 6 = true := by kernel_rfl
theorem nz6 : nzT Try.prog 6 = [none] := by kernel_rfl
theorem sz6 : szT Try.prog 6 = some 1 := by kernel_rfl
theorem szn6 : szN Try.prog 6 = 1 := by kernel_rfl
theorem zv6 : zvT Try.prog 6 = some [.int .u8 0] := by kernel_rfl
theorem int6 : intKd Try.prog 6 = some .u8 := by kernel_rfl
theorem ag7 : agT Try.prog 7 = some true := by kernel_rfl
theorem ldA7 : ldA Try.prog 7 = true := by kernel_rfl
theorem nz7 : nzT Try.prog 7 = [none, none, none, none] := by kernel_rfl
theorem sz7 : szT Try.prog 7 = some 4 := by kernel_rfl
theorem szn7 : szN Try.prog 7 = 4 := by kernel_rfl
theorem zv7 : zvT Try.prog 7 = some [.int .i64 0, .int .i64 0, .bool false, .int .u8 0] := by kernel_rfl
theorem bd7 : bdOk Try.prog 7 = true := by kernel_rfl
theorem pl7_0 : plT Try.prog 7 0 = some (0, 1) := by kernel_rfl
theorem pl7_1 : plT Try.prog 7 1 = some (1, 1) := by kernel_rfl
theorem pl7_2 : plT Try.prog 7 2 = some (2, 1) := by kernel_rfl
theorem pl7_3 : plT Try.prog 7 3 = some (3, 1) := by kernel_rfl
theorem fo7_0 : fdO Try.prog 7 0 = 0 := by kernel_rfl
theorem fn7_0 : fdN Try.prog 7 0 = 1 := by kernel_rfl
theorem fk7_0 : fdOk Try.prog 7 0 = true := by kernel_rfl
theorem fs7_0 : fdS Try.prog 7 0 = true := by kernel_rfl
theorem fo7_1 : fdO Try.prog 7 1 = 1 := by kernel_rfl
theorem fn7_1 : fdN Try.prog 7 1 = 1 := by kernel_rfl
theorem fk7_1 : fdOk Try.prog 7 1 = true := by kernel_rfl
theorem fs7_1 : fdS Try.prog 7 1 = true := by kernel_rfl
theorem fo7_2 : fdO Try.prog 7 2 = 2 := by kernel_rfl
theorem fn7_2 : fdN Try.prog 7 2 = 1 := by kernel_rfl
theorem fk7_2 : fdOk Try.prog 7 2 = true := by kernel_rfl
theorem fs7_2 : fdS Try.prog 7 2 = true := by kernel_rfl
theorem fo7_3 : fdO Try.prog 7 3 = 3 := by kernel_rfl
theorem fn7_3 : fdN Try.prog 7 3 = 1 := by kernel_rfl
theorem fk7_3 : fdOk Try.prog 7 3 = true := by kernel_rfl
theorem fs7_3 : fdS Try.prog 7 3 = true := by kernel_rfl
theorem ag8 : agT Try.prog 8 = some true := by kernel_rfl
theorem ldA8 : ldA Try.prog 8 = true := by kernel_rfl
theorem nz8 : nzT Try.prog 8 = [none, none, none, none] := by kernel_rfl
theorem sz8 : szT Try.prog 8 = some 4 := by kernel_rfl
theorem szn8 : szN Try.prog 8 = 4 := by kernel_rfl
theorem zv8 : zvT Try.prog 8 = some [.int .i64 0, .int .i64 0, .bool false, .int .u8 0] := by kernel_rfl
theorem bd8 : bdOk Try.prog 8 = true := by kernel_rfl
theorem pl8_0 : plT Try.prog 8 0 = some (0, 1) := by kernel_rfl
theorem pl8_1 : plT Try.prog 8 1 = some (1, 1) := by kernel_rfl
theorem pl8_2 : plT Try.prog 8 2 = some (2, 1) := by kernel_rfl
theorem pl8_3 : plT Try.prog 8 3 = some (3, 1) := by kernel_rfl
theorem fo8_0 : fdO Try.prog 8 0 = 0 := by kernel_rfl
theorem fn8_0 : fdN Try.prog 8 0 = 1 := by kernel_rfl
theorem fk8_0 : fdOk Try.prog 8 0 = true := by kernel_rfl
theorem fs8_0 : fdS Try.prog 8 0 = true := by kernel_rfl
theorem fo8_1 : fdO Try.prog 8 1 = 1 := by kernel_rfl
theorem fn8_1 : fdN Try.prog 8 1 = 1 := by kernel_rfl
theorem fk8_1 : fdOk Try.prog 8 1 = true := by kernel_rfl
theorem fs8_1 : fdS Try.prog 8 1 = true := by kernel_rfl
theorem fo8_2 : fdO Try.prog 8 2 = 2 := by kernel_rfl
theorem fn8_2 : fdN Try.prog 8 2 = 1 := by kernel_rfl
theorem fk8_2 : fdOk Try.prog 8 2 = true := by kernel_rfl
theorem fs8_2 : fdS Try.prog 8 2 = true := by kernel_rfl
theorem fo8_3 : fdO Try.prog 8 3 = 3 := by kernel_rfl
theorem fn8_3 : fdN Try.prog 8 3 = 1 := by kernel_rfl
theorem fk8_3 : fdOk Try.prog 8 3 = true := by kernel_rfl
theorem fs8_3 : fdS Try.prog 8 3 = true := by kernel_rfl
theorem ag9 : agT Try.prog 9 = some false := by kernel_rfl
theorem ldA9 : ldA Try.prog 9 = false := by kernel_rfl
theorem ldS9 : ldS Try.prog 9 = true := by kernel_rfl
theorem nz9 : nzT Try.prog 9 = [none] := by kernel_rfl
theorem sz9 : szT Try.prog 9 = some 1 := by kernel_rfl
theorem szn9 : szN Try.prog 9 = 1 := by kernel_rfl
theorem zv9 : zvT Try.prog 9 = some [.string ⟨#[]⟩] := by kernel_rfl
theorem str9 : isStr Try.prog 9 = true := by kernel_rfl
theorem ag10 : agT Try.prog 10 = some false := by kernel_rfl
theorem ldA10 : ldA Try.prog 10 = false := by kernel_rfl
theorem ldS10 : ldS Try.prog 10 = true := by kernel_rfl
theorem nz10 : nzT Try.prog 10 = [none] := by kernel_rfl
theorem sz10 : szT Try.prog 10 = some 1 := by kernel_rfl
theorem szn10 : szN Try.prog 10 = 1 := by kernel_rfl
theorem zv10 : zvT Try.prog 10 = some [.string ⟨#[]⟩] := by kernel_rfl
theorem str10 : isStr Try.prog 10 = true := by kernel_rfl
theorem ag11 : agT Try.prog 11 = some false := by kernel_rfl
theorem ldA11 : ldA Try.prog 11 = false := by kernel_rfl
theorem ldS11 : ldS Try.prog 11 = true := by kernel_rfl
theorem nz11 : nzT Try.prog 11 = [none] := by kernel_rfl
theorem sz11 : szT Try.prog 11 = some 1 := by kernel_rfl
theorem szn11 : szN Try.prog 11 = 1 := by kernel_rfl
theorem zv11 : zvT Try.prog 11 = some [.string ⟨#[]⟩] := by kernel_rfl
theorem str11 : isStr Try.prog 11 = true := by kernel_rfl
theorem ag12 : agT Try.prog 12 = some false := by kernel_rfl
theorem ldA12 : ldA Try.prog 12 = false := by kernel_rfl
theorem ldS12 : ldS Try.prog 12 = true := by kernel_rfl
theorem nz12 : nzT Try.prog 12 = [none] := by kernel_rfl
theorem sz12 : szT Try.prog 12 = some 1 := by kernel_rfl
theorem szn12 : szN Try.prog 12 = 1 := by kernel_rfl
theorem zv12 : zvT Try.prog 12 = some [.int .u64 0] := by kernel_rfl
theorem int12 : intKd Try.prog 12 = some .u64 := by kernel_rfl
theorem ag13 : agT Try.prog 13 = some true := by kernel_rfl
theorem ldA13 : ldA Try.prog 13 = true := by kernel_rfl
theorem nz13 : nzT Try.prog 13 = [none, none] := by kernel_rfl
theorem sz13 : szT Try.prog 13 = some 2 := by kernel_rfl
theorem szn13 : szN Try.prog 13 = 2 := by kernel_rfl
theorem zv13 : zvT Try.prog 13 = some [.string ⟨#[]⟩, .int .u64 0] := by kernel_rfl
theorem bd13 : bdOk Try.prog 13 = true := by kernel_rfl
theorem pl13_0 : plT Try.prog 13 0 = some (0, 1) := by kernel_rfl
theorem pl13_1 : plT Try.prog 13 1 = some (1, 1) := by kernel_rfl
theorem fo13_0 : fdO Try.prog 13 0 = 0 := by kernel_rfl
theorem fn13_0 : fdN Try.prog 13 0 = 1 := by kernel_rfl
theorem fk13_0 : fdOk Try.prog 13 0 = true := by kernel_rfl
theorem fs13_0 : fdS Try.prog 13 0 = true := by kernel_rfl
theorem fo13_1 : fdO Try.prog 13 1 = 1 := by kernel_rfl
theorem fn13_1 : fdN Try.prog 13 1 = 1 := by kernel_rfl
theorem fk13_1 : fdOk Try.prog 13 1 = true := by kernel_rfl
theorem fs13_1 : fdS Try.prog 13 1 = true := by kernel_rfl
theorem ag14 : agT Try.prog 14 = some true := by kernel_rfl
theorem ldA14 : ldA Try.prog 14 = true := by kernel_rfl
theorem nz14 : nzT Try.prog 14 = [none, none] := by kernel_rfl
theorem sz14 : szT Try.prog 14 = some 2 := by kernel_rfl
theorem szn14 : szN Try.prog 14 = 2 := by kernel_rfl
theorem zv14 : zvT Try.prog 14 = some [.string ⟨#[]⟩, .int .u64 0] := by kernel_rfl
theorem bd14 : bdOk Try.prog 14 = true := by kernel_rfl
theorem pl14_0 : plT Try.prog 14 0 = some (0, 1) := by kernel_rfl
theorem pl14_1 : plT Try.prog 14 1 = some (1, 1) := by kernel_rfl
theorem fo14_0 : fdO Try.prog 14 0 = 0 := by kernel_rfl
theorem fn14_0 : fdN Try.prog 14 0 = 1 := by kernel_rfl
theorem fk14_0 : fdOk Try.prog 14 0 = true := by kernel_rfl
theorem fs14_0 : fdS Try.prog 14 0 = true := by kernel_rfl
theorem fo14_1 : fdO Try.prog 14 1 = 1 := by kernel_rfl
theorem fn14_1 : fdN Try.prog 14 1 = 1 := by kernel_rfl
theorem fk14_1 : fdOk Try.prog 14 1 = true := by kernel_rfl
theorem fs14_1 : fdS Try.prog 14 1 = true := by kernel_rfl
theorem ag15 : agT Try.prog 15 = some false := by kernel_rfl
theorem ldA15 : ldA Try.prog 15 = false := by kernel_rfl
theorem ldS15 : ldS Try.prog 15 = true := by kernel_rfl
theorem nz15 : nzT Try.prog 15 = [none] := by kernel_rfl
theorem sz15 : szT Try.prog 15 = some 1 := by kernel_rfl
theorem szn15 : szN Try.prog 15 = 1 := by kernel_rfl
theorem zv15 : zvT Try.prog 15 = some [.pointer none] := by kernel_rfl
theorem ag16 : agT Try.prog 16 = some false := by kernel_rfl
theorem ldA16 : ldA Try.prog 16 = false := by kernel_rfl
theorem ldS16 : ldS Try.prog 16 = true := by kernel_rfl
theorem nz16 : nzT Try.prog 16 = [none] := by kernel_rfl
theorem sz16 : szT Try.prog 16 = some 1 := by kernel_rfl
theorem szn16 : szN Try.prog 16 = 1 := by kernel_rfl
theorem zv16 : zvT Try.prog 16 = some [.pointer none] := by kernel_rfl
theorem ag17 : agT Try.prog 17 = some false := by kernel_rfl
theorem ldA17 : ldA Try.prog 17 = false := by kernel_rfl
theorem ldS17 : ldS Try.prog 17 = true := by kernel_rfl
theorem nz17 : nzT Try.prog 17 = [none] := by kernel_rfl
theorem sz17 : szT Try.prog 17 = some 1 := by kernel_rfl
theorem szn17 : szN Try.prog 17 = 1 := by kernel_rfl
theorem zv17 : zvT Try.prog 17 = some [.pointer none] := by kernel_rfl
theorem ag18 : agT Try.prog 18 = some true := by kernel_rfl
theorem ldA18 : ldA Try.prog 18 = true := by kernel_rfl
theorem nz18 : nzT Try.prog 18 = [none] := by kernel_rfl
theorem sz18 : szT Try.prog 18 = some 1 := by kernel_rfl
theorem szn18 : szN Try.prog 18 = 1 := by kernel_rfl
theorem zv18 : zvT Try.prog 18 = some [.pointer none] := by kernel_rfl
theorem bd18 : bdOk Try.prog 18 = true := by kernel_rfl
theorem pl18_0 : plT Try.prog 18 0 = some (0, 1) := by kernel_rfl
theorem fo18_0 : fdO Try.prog 18 0 = 0 := by kernel_rfl
theorem fn18_0 : fdN Try.prog 18 0 = 1 := by kernel_rfl
theorem fk18_0 : fdOk Try.prog 18 0 = true := by kernel_rfl
theorem fs18_0 : fdS Try.prog 18 0 = true := by kernel_rfl
theorem ag19 : agT Try.prog 19 = some true := by kernel_rfl
theorem ldA19 : ldA Try.prog 19 = true := by kernel_rfl
theorem nz19 : nzT Try.prog 19 = [none] := by kernel_rfl
theorem sz19 : szT Try.prog 19 = some 1 := by kernel_rfl
theorem szn19 : szN Try.prog 19 = 1 := by kernel_rfl
theorem zv19 : zvT Try.prog 19 = some [.pointer none] := by kernel_rfl
theorem bd19 : bdOk Try.prog 19 = true := by kernel_rfl
theorem pl19_0 : plT Try.prog 19 0 = some (0, 1) := by kernel_rfl
theorem fo19_0 : fdO Try.prog 19 0 = 0 := by kernel_rfl
theorem fn19_0 : fdN Try.prog 19 0 = 1 := by kernel_rfl
theorem fk19_0 : fdOk Try.prog 19 0 = true := by kernel_rfl
theorem fs19_0 : fdS Try.prog 19 0 = true := by kernel_rfl
theorem ag21 : agT Try.prog 21 = some false := by kernel_rfl
theorem ldA21 : ldA Try.prog 21 = false := by kernel_rfl
theorem ldS21 : ldS Try.prog 21 = true := by kernel_rfl
theorem nz21 : nzT Try.prog 21 = [none] := by kernel_rfl
theorem sz21 : szT Try.prog 21 = some 1 := by kernel_rfl
theorem szn21 : szN Try.prog 21 = 1 := by kernel_rfl
theorem zv21 : zvT Try.prog 21 = some [.int .i32 0] := by kernel_rfl
theorem int21 : intKd Try.prog 21 = some .i32 := by kernel_rfl
theorem sl22 : slT Try.prog 22 = some 3 := by kernel_rfl
theorem slz22 : slSz Try.prog 22 = 3 := by kernel_rfl
theorem zok22 : zOk Try.prog 22 = true := by kernel_rfl
theorem by22 : byN Try.prog 22 = 24 := by kernel_rfl
theorem zs22 : zsN Try.prog 22 = [.int .i64 0, .int .i64 0, .int .i64 0] := by kernel_rfl
theorem ag22 : agT Try.prog 22 = some false := by kernel_rfl
theorem ldA22 : ldA Try.prog 22 = false := by kernel_rfl
theorem ldS22 : ldS Try.prog 22 = true := by kernel_rfl
theorem nz22 : nzT Try.prog 22 = [some 3] := by kernel_rfl
theorem nze22 : nzE Try.prog 22 = [none, none, none] := by kernel_rfl
theorem sz22 : szT Try.prog 22 = some 1 := by kernel_rfl
theorem szn22 : szN Try.prog 22 = 1 := by kernel_rfl
theorem zv22 : zvT Try.prog 22 = some [.slice none 0 0] := by kernel_rfl
theorem ag23 : agT Try.prog 23 = some true := by kernel_rfl
theorem ldA23 : ldA Try.prog 23 = true := by kernel_rfl
theorem nz23 : nzT Try.prog 23 = [none, none, some 3] := by kernel_rfl
theorem sz23 : szT Try.prog 23 = some 3 := by kernel_rfl
theorem szn23 : szN Try.prog 23 = 3 := by kernel_rfl
theorem zv23 : zvT Try.prog 23 = some [.int .i64 0, .int .i64 0, .slice none 0 0] := by kernel_rfl
theorem bd23 : bdOk Try.prog 23 = true := by kernel_rfl
theorem pl23_0 : plT Try.prog 23 0 = some (0, 1) := by kernel_rfl
theorem pl23_1 : plT Try.prog 23 1 = some (1, 1) := by kernel_rfl
theorem pl23_2 : plT Try.prog 23 2 = some (2, 1) := by kernel_rfl
theorem fo23_0 : fdO Try.prog 23 0 = 0 := by kernel_rfl
theorem fn23_0 : fdN Try.prog 23 0 = 1 := by kernel_rfl
theorem fk23_0 : fdOk Try.prog 23 0 = true := by kernel_rfl
theorem fs23_0 : fdS Try.prog 23 0 = true := by kernel_rfl
theorem fo23_1 : fdO Try.prog 23 1 = 1 := by kernel_rfl
theorem fn23_1 : fdN Try.prog 23 1 = 1 := by kernel_rfl
theorem fk23_1 : fdOk Try.prog 23 1 = true := by kernel_rfl
theorem fs23_1 : fdS Try.prog 23 1 = true := by kernel_rfl
theorem fo23_2 : fdO Try.prog 23 2 = 2 := by kernel_rfl
theorem fn23_2 : fdN Try.prog 23 2 = 1 := by kernel_rfl
theorem fk23_2 : fdOk Try.prog 23 2 = true := by kernel_rfl
theorem fs23_2 : fdS Try.prog 23 2 = true := by kernel_rfl
theorem ag24 : agT Try.prog 24 = some true := by kernel_rfl
theorem ldA24 : ldA Try.prog 24 = true := by kernel_rfl
theorem nz24 : nzT Try.prog 24 = [none, none, some 3] := by kernel_rfl
theorem sz24 : szT Try.prog 24 = some 3 := by kernel_rfl
theorem szn24 : szN Try.prog 24 = 3 := by kernel_rfl
theorem zv24 : zvT Try.prog 24 = some [.int .i64 0, .int .i64 0, .slice none 0 0] := by kernel_rfl
theorem bd24 : bdOk Try.prog 24 = true := by kernel_rfl
theorem pl24_0 : plT Try.prog 24 0 = some (0, 1) := by kernel_rfl
theorem pl24_1 : plT Try.prog 24 1 = some (1, 1) := by kernel_rfl
theorem pl24_2 : plT Try.prog 24 2 = some (2, 1) := by kernel_rfl
theorem fo24_0 : fdO Try.prog 24 0 = 0 := by kernel_rfl
theorem fn24_0 : fdN Try.prog 24 0 = 1 := by kernel_rfl
theorem fk24_0 : fdOk Try.prog 24 0 = true := by kernel_rfl
theorem fs24_0 : fdS Try.prog 24 0 = true := by kernel_rfl
theorem fo24_1 : fdO Try.prog 24 1 = 1 := by kernel_rfl
theorem fn24_1 : fdN Try.prog 24 1 = 1 := by kernel_rfl
theorem fk24_1 : fdOk Try.prog 24 1 = true := by kernel_rfl
theorem fs24_1 : fdS Try.prog 24 1 = true := by kernel_rfl
theorem fo24_2 : fdO Try.prog 24 2 = 2 := by kernel_rfl
theorem fn24_2 : fdN Try.prog 24 2 = 1 := by kernel_rfl
theorem fk24_2 : fdOk Try.prog 24 2 = true := by kernel_rfl
theorem fs24_2 : fdS Try.prog 24 2 = true := by kernel_rfl
theorem sl25 : slT Try.prog 25 = some 1 := by kernel_rfl
theorem slz25 : slSz Try.prog 25 = 1 := by kernel_rfl
theorem zok25 : zOk Try.prog 25 = true := by kernel_rfl
theorem by25 : byN Try.prog 25 = 8 := by kernel_rfl
theorem zs25 : zsN Try.prog 25 = [.int .i64 0] := by kernel_rfl
theorem ag25 : agT Try.prog 25 = some false := by kernel_rfl
theorem ldA25 : ldA Try.prog 25 = false := by kernel_rfl
theorem ldS25 : ldS Try.prog 25 = true := by kernel_rfl
theorem nz25 : nzT Try.prog 25 = [some 1] := by kernel_rfl
theorem nze25 : nzE Try.prog 25 = [none] := by kernel_rfl
theorem sz25 : szT Try.prog 25 = some 1 := by kernel_rfl
theorem szn25 : szN Try.prog 25 = 1 := by kernel_rfl
theorem zv25 : zvT Try.prog 25 = some [.slice none 0 0] := by kernel_rfl
theorem sl27 : slT Try.prog 27 = some 3 := by kernel_rfl
theorem slz27 : slSz Try.prog 27 = 3 := by kernel_rfl
theorem zok27 : zOk Try.prog 27 = true := by kernel_rfl
theorem by27 : byN Try.prog 27 = 24 := by kernel_rfl
theorem zs27 : zsN Try.prog 27 = [.int .i64 0, .int .i64 0, .int .i64 0] := by kernel_rfl
theorem ag27 : agT Try.prog 27 = some false := by kernel_rfl
theorem ldA27 : ldA Try.prog 27 = false := by kernel_rfl
theorem ldS27 : ldS Try.prog 27 = true := by kernel_rfl
theorem nz27 : nzT Try.prog 27 = [some 3] := by kernel_rfl
theorem nze27 : nzE Try.prog 27 = [none, none, none] := by kernel_rfl
theorem sz27 : szT Try.prog 27 = some 1 := by kernel_rfl
theorem szn27 : szN Try.prog 27 = 1 := by kernel_rfl
theorem zv27 : zvT Try.prog 27 = some [.slice none 0 0] := by kernel_rfl
theorem ag28 : agT Try.prog 28 = some true := by kernel_rfl
theorem ldA28 : ldA Try.prog 28 = true := by kernel_rfl
theorem nz28 : nzT Try.prog 28 = [none, none, some 3] := by kernel_rfl
theorem sz28 : szT Try.prog 28 = some 3 := by kernel_rfl
theorem szn28 : szN Try.prog 28 = 3 := by kernel_rfl
theorem zv28 : zvT Try.prog 28 = some [.int .i64 0, .int .i64 0, .slice none 0 0] := by kernel_rfl
theorem bd28 : bdOk Try.prog 28 = true := by kernel_rfl
theorem pl28_0 : plT Try.prog 28 0 = some (0, 1) := by kernel_rfl
theorem pl28_1 : plT Try.prog 28 1 = some (1, 1) := by kernel_rfl
theorem pl28_2 : plT Try.prog 28 2 = some (2, 1) := by kernel_rfl
theorem fo28_0 : fdO Try.prog 28 0 = 0 := by kernel_rfl
theorem fn28_0 : fdN Try.prog 28 0 = 1 := by kernel_rfl
theorem fk28_0 : fdOk Try.prog 28 0 = true := by kernel_rfl
theorem fs28_0 : fdS Try.prog 28 0 = true := by kernel_rfl
theorem fo28_1 : fdO Try.prog 28 1 = 1 := by kernel_rfl
theorem fn28_1 : fdN Try.prog 28 1 = 1 := by kernel_rfl
theorem fk28_1 : fdOk Try.prog 28 1 = true := by kernel_rfl
theorem fs28_1 : fdS Try.prog 28 1 = true := by kernel_rfl
theorem fo28_2 : fdO Try.prog 28 2 = 2 := by kernel_rfl
theorem fn28_2 : fdN Try.prog 28 2 = 1 := by kernel_rfl
theorem fk28_2 : fdOk Try.prog 28 2 = true := by kernel_rfl
theorem fs28_2 : fdS Try.prog 28 2 = true := by kernel_rfl
theorem ag29 : agT Try.prog 29 = some true := by kernel_rfl
theorem ldA29 : ldA Try.prog 29 = true := by kernel_rfl
theorem nz29 : nzT Try.prog 29 = [none, none, some 3] := by kernel_rfl
theorem sz29 : szT Try.prog 29 = some 3 := by kernel_rfl
theorem szn29 : szN Try.prog 29 = 3 := by kernel_rfl
theorem zv29 : zvT Try.prog 29 = some [.int .i64 0, .int .i64 0, .slice none 0 0] := by kernel_rfl
theorem bd29 : bdOk Try.prog 29 = true := by kernel_rfl
theorem pl29_0 : plT Try.prog 29 0 = some (0, 1) := by kernel_rfl
theorem pl29_1 : plT Try.prog 29 1 = some (1, 1) := by kernel_rfl
theorem pl29_2 : plT Try.prog 29 2 = some (2, 1) := by kernel_rfl
theorem fo29_0 : fdO Try.prog 29 0 = 0 := by kernel_rfl
theorem fn29_0 : fdN Try.prog 29 0 = 1 := by kernel_rfl
theorem fk29_0 : fdOk Try.prog 29 0 = true := by kernel_rfl
theorem fs29_0 : fdS Try.prog 29 0 = true := by kernel_rfl
theorem fo29_1 : fdO Try.prog 29 1 = 1 := by kernel_rfl
theorem fn29_1 : fdN Try.prog 29 1 = 1 := by kernel_rfl
theorem fk29_1 : fdOk Try.prog 29 1 = true := by kernel_rfl
theorem fs29_1 : fdS Try.prog 29 1 = true := by kernel_rfl
theorem fo29_2 : fdO Try.prog 29 2 = 2 := by kernel_rfl
theorem fn29_2 : fdN Try.prog 29 2 = 1 := by kernel_rfl
theorem fk29_2 : fdOk Try.prog 29 2 = true := by kernel_rfl
theorem fs29_2 : fdS Try.prog 29 2 = true := by kernel_rfl
theorem sl39 : slT Try.prog 39 = some 2 := by kernel_rfl
theorem slz39 : slSz Try.prog 39 = 2 := by kernel_rfl
theorem zok39 : zOk Try.prog 39 = true := by kernel_rfl
theorem by39 : byN Try.prog 39 = 32 := by kernel_rfl
theorem zs39 : zsN Try.prog 39 = [.int .i64 0, .slice none 0 0] := by kernel_rfl
theorem ag39 : agT Try.prog 39 = some false := by kernel_rfl
theorem ldA39 : ldA Try.prog 39 = false := by kernel_rfl
theorem ldS39 : ldS Try.prog 39 = true := by kernel_rfl
theorem nz39 : nzT Try.prog 39 = [some 2] := by kernel_rfl
theorem nze39 : nzE Try.prog 39 = [none, some 3] := by kernel_rfl
theorem sz39 : szT Try.prog 39 = some 1 := by kernel_rfl
theorem szn39 : szN Try.prog 39 = 1 := by kernel_rfl
theorem zv39 : zvT Try.prog 39 = some [.slice none 0 0] := by kernel_rfl
theorem ag40 : agT Try.prog 40 = some true := by kernel_rfl
theorem ldA40 : ldA Try.prog 40 = true := by kernel_rfl
theorem nz40 : nzT Try.prog 40 = [none, none, some 2] := by kernel_rfl
theorem sz40 : szT Try.prog 40 = some 3 := by kernel_rfl
theorem szn40 : szN Try.prog 40 = 3 := by kernel_rfl
theorem zv40 : zvT Try.prog 40 = some [.int .i64 0, .int .i64 0, .slice none 0 0] := by kernel_rfl
theorem bd40 : bdOk Try.prog 40 = true := by kernel_rfl
theorem pl40_0 : plT Try.prog 40 0 = some (0, 1) := by kernel_rfl
theorem pl40_1 : plT Try.prog 40 1 = some (1, 1) := by kernel_rfl
theorem pl40_2 : plT Try.prog 40 2 = some (2, 1) := by kernel_rfl
theorem fo40_0 : fdO Try.prog 40 0 = 0 := by kernel_rfl
theorem fn40_0 : fdN Try.prog 40 0 = 1 := by kernel_rfl
theorem fk40_0 : fdOk Try.prog 40 0 = true := by kernel_rfl
theorem fs40_0 : fdS Try.prog 40 0 = true := by kernel_rfl
theorem fo40_1 : fdO Try.prog 40 1 = 1 := by kernel_rfl
theorem fn40_1 : fdN Try.prog 40 1 = 1 := by kernel_rfl
theorem fk40_1 : fdOk Try.prog 40 1 = true := by kernel_rfl
theorem fs40_1 : fdS Try.prog 40 1 = true := by kernel_rfl
theorem fo40_2 : fdO Try.prog 40 2 = 2 := by kernel_rfl
theorem fn40_2 : fdN Try.prog 40 2 = 1 := by kernel_rfl
theorem fk40_2 : fdOk Try.prog 40 2 = true := by kernel_rfl
theorem fs40_2 : fdS Try.prog 40 2 = true := by kernel_rfl
theorem ag41 : agT Try.prog 41 = some true := by kernel_rfl
theorem ldA41 : ldA Try.prog 41 = true := by kernel_rfl
theorem nz41 : nzT Try.prog 41 = [none, none, some 2] := by kernel_rfl
theorem sz41 : szT Try.prog 41 = some 3 := by kernel_rfl
theorem szn41 : szN Try.prog 41 = 3 := by kernel_rfl
theorem zv41 : zvT Try.prog 41 = some [.int .i64 0, .int .i64 0, .slice none 0 0] := by kernel_rfl
theorem bd41 : bdOk Try.prog 41 = true := by kernel_rfl
theorem pl41_0 : plT Try.prog 41 0 = some (0, 1) := by kernel_rfl
theorem pl41_1 : plT Try.prog 41 1 = some (1, 1) := by kernel_rfl
theorem pl41_2 : plT Try.prog 41 2 = some (2, 1) := by kernel_rfl
theorem fo41_0 : fdO Try.prog 41 0 = 0 := by kernel_rfl
theorem fn41_0 : fdN Try.prog 41 0 = 1 := by kernel_rfl
theorem fk41_0 : fdOk Try.prog 41 0 = true := by kernel_rfl
theorem fs41_0 : fdS Try.prog 41 0 = true := by kernel_rfl
theorem fo41_1 : fdO Try.prog 41 1 = 1 := by kernel_rfl
theorem fn41_1 : fdN Try.prog 41 1 = 1 := by kernel_rfl
theorem fk41_1 : fdOk Try.prog 41 1 = true := by kernel_rfl
theorem fs41_1 : fdS Try.prog 41 1 = true := by kernel_rfl
theorem fo41_2 : fdO Try.prog 41 2 = 2 := by kernel_rfl
theorem fn41_2 : fdN Try.prog 41 2 = 1 := by kernel_rfl
theorem fk41_2 : fdOk Try.prog 41 2 = true := by kernel_rfl
theorem fs41_2 : fdS Try.prog 41 2 = true := by kernel_rfl
theorem sl43 : slT Try.prog 43 = some 2 := by kernel_rfl
theorem slz43 : slSz Try.prog 43 = 2 := by kernel_rfl
theorem zok43 : zOk Try.prog 43 = true := by kernel_rfl
theorem by43 : byN Try.prog 43 = 32 := by kernel_rfl
theorem zs43 : zsN Try.prog 43 = [.int .i64 0, .slice none 0 0] := by kernel_rfl
theorem ag43 : agT Try.prog 43 = some false := by kernel_rfl
theorem ldA43 : ldA Try.prog 43 = false := by kernel_rfl
theorem ldS43 : ldS Try.prog 43 = true := by kernel_rfl
theorem nz43 : nzT Try.prog 43 = [some 2] := by kernel_rfl
theorem nze43 : nzE Try.prog 43 = [none, some 3] := by kernel_rfl
theorem sz43 : szT Try.prog 43 = some 1 := by kernel_rfl
theorem szn43 : szN Try.prog 43 = 1 := by kernel_rfl
theorem zv43 : zvT Try.prog 43 = some [.slice none 0 0] := by kernel_rfl
theorem ag44 : agT Try.prog 44 = some true := by kernel_rfl
theorem ldA44 : ldA Try.prog 44 = true := by kernel_rfl
theorem nz44 : nzT Try.prog 44 = [none, none, some 2] := by kernel_rfl
theorem sz44 : szT Try.prog 44 = some 3 := by kernel_rfl
theorem szn44 : szN Try.prog 44 = 3 := by kernel_rfl
theorem zv44 : zvT Try.prog 44 = some [.int .i64 0, .int .i64 0, .slice none 0 0] := by kernel_rfl
theorem bd44 : bdOk Try.prog 44 = true := by kernel_rfl
theorem pl44_0 : plT Try.prog 44 0 = some (0, 1) := by kernel_rfl
theorem pl44_1 : plT Try.prog 44 1 = some (1, 1) := by kernel_rfl
theorem pl44_2 : plT Try.prog 44 2 = some (2, 1) := by kernel_rfl
theorem fo44_0 : fdO Try.prog 44 0 = 0 := by kernel_rfl
theorem fn44_0 : fdN Try.prog 44 0 = 1 := by kernel_rfl
theorem fk44_0 : fdOk Try.prog 44 0 = true := by kernel_rfl
theorem fs44_0 : fdS Try.prog 44 0 = true := by kernel_rfl
theorem fo44_1 : fdO Try.prog 44 1 = 1 := by kernel_rfl
theorem fn44_1 : fdN Try.prog 44 1 = 1 := by kernel_rfl
theorem fk44_1 : fdOk Try.prog 44 1 = true := by kernel_rfl
theorem fs44_1 : fdS Try.prog 44 1 = true := by kernel_rfl
theorem fo44_2 : fdO Try.prog 44 2 = 2 := by kernel_rfl
theorem fn44_2 : fdN Try.prog 44 2 = 1 := by kernel_rfl
theorem fk44_2 : fdOk Try.prog 44 2 = true := by kernel_rfl
theorem fs44_2 : fdS Try.prog 44 2 = true := by kernel_rfl
theorem ag45 : agT Try.prog 45 = some true := by kernel_rfl
theorem ldA45 : ldA Try.prog 45 = true := by kernel_rfl
theorem nz45 : nzT Try.prog 45 = [none, none, some 2] := by kernel_rfl
theorem sz45 : szT Try.prog 45 = some 3 := by kernel_rfl
theorem szn45 : szN Try.prog 45 = 3 := by kernel_rfl
theorem zv45 : zvT Try.prog 45 = some [.int .i64 0, .int .i64 0, .slice none 0 0] := by kernel_rfl
theorem bd45 : bdOk Try.prog 45 = true := by kernel_rfl
theorem pl45_0 : plT Try.prog 45 0 = some (0, 1) := by kernel_rfl
theorem pl45_1 : plT Try.prog 45 1 = some (1, 1) := by kernel_rfl
theorem pl45_2 : plT Try.prog 45 2 = some (2, 1) := by kernel_rfl
theorem fo45_0 : fdO Try.prog 45 0 = 0 := by kernel_rfl
theorem fn45_0 : fdN Try.prog 45 0 = 1 := by kernel_rfl
theorem fk45_0 : fdOk Try.prog 45 0 = true := by kernel_rfl
theorem fs45_0 : fdS Try.prog 45 0 = true := by kernel_rfl
theorem fo45_1 : fdO Try.prog 45 1 = 1 := by kernel_rfl
theorem fn45_1 : fdN Try.prog 45 1 = 1 := by kernel_rfl
theorem fk45_1 : fdOk Try.prog 45 1 = true := by kernel_rfl
theorem fs45_1 : fdS Try.prog 45 1 = true := by kernel_rfl
theorem fo45_2 : fdO Try.prog 45 2 = 2 := by kernel_rfl
theorem fn45_2 : fdN Try.prog 45 2 = 1 := by kernel_rfl
theorem fk45_2 : fdOk Try.prog 45 2 = true := by kernel_rfl
theorem fs45_2 : fdS Try.prog 45 2 = true := by kernel_rfl
theorem sl52 : slT Try.prog 52 = some 1 := by kernel_rfl
theorem slz52 : slSz Try.prog 52 = 1 := by kernel_rfl
theorem zok52 : zOk Try.prog 52 = true := by kernel_rfl
theorem by52 : byN Try.prog 52 = 24 := by kernel_rfl
theorem zs52 : zsN Try.prog 52 = [.slice none 0 0] := by kernel_rfl
theorem ag52 : agT Try.prog 52 = some false := by kernel_rfl
theorem ldA52 : ldA Try.prog 52 = false := by kernel_rfl
theorem ldS52 : ldS Try.prog 52 = true := by kernel_rfl
theorem nz52 : nzT Try.prog 52 = [some 1] := by kernel_rfl
theorem nze52 : nzE Try.prog 52 = [some 1] := by kernel_rfl
theorem sz52 : szT Try.prog 52 = some 1 := by kernel_rfl
theorem szn52 : szN Try.prog 52 = 1 := by kernel_rfl
theorem zv52 : zvT Try.prog 52 = some [.slice none 0 0] := by kernel_rfl
theorem sl60 : slT Try.prog 60 = some 3 := by kernel_rfl
theorem slz60 : slSz Try.prog 60 = 3 := by kernel_rfl
theorem zok60 : zOk Try.prog 60 = true := by kernel_rfl
theorem by60 : byN Try.prog 60 = 24 := by kernel_rfl
theorem zs60 : zsN Try.prog 60 = [.int .i64 0, .int .i64 0, .int .i64 0] := by kernel_rfl
theorem ag60 : agT Try.prog 60 = some false := by kernel_rfl
theorem ldA60 : ldA Try.prog 60 = false := by kernel_rfl
theorem ldS60 : ldS Try.prog 60 = true := by kernel_rfl
theorem nz60 : nzT Try.prog 60 = [some 3] := by kernel_rfl
theorem nze60 : nzE Try.prog 60 = [none, none, none] := by kernel_rfl
theorem sz60 : szT Try.prog 60 = some 1 := by kernel_rfl
theorem szn60 : szN Try.prog 60 = 1 := by kernel_rfl
theorem zv60 : zvT Try.prog 60 = some [.slice none 0 0] := by kernel_rfl
theorem sl63 : slT Try.prog 63 = some 3 := by kernel_rfl
theorem slz63 : slSz Try.prog 63 = 3 := by kernel_rfl
theorem zok63 : zOk Try.prog 63 = true := by kernel_rfl
theorem by63 : byN Try.prog 63 = 24 := by kernel_rfl
theorem zs63 : zsN Try.prog 63 = [.int .i64 0, .int .i64 0, .int .i64 0] := by kernel_rfl
theorem ag63 : agT Try.prog 63 = some false := by kernel_rfl
theorem ldA63 : ldA Try.prog 63 = false := by kernel_rfl
theorem ldS63 : ldS Try.prog 63 = true := by kernel_rfl
theorem nz63 : nzT Try.prog 63 = [some 3] := by kernel_rfl
theorem nze63 : nzE Try.prog 63 = [none, none, none] := by kernel_rfl
theorem sz63 : szT Try.prog 63 = some 1 := by kernel_rfl
theorem szn63 : szN Try.prog 63 = 1 := by kernel_rfl
theorem zv63 : zvT Try.prog 63 = some [.slice none 0 0] := by kernel_rfl
theorem sl68 : slT Try.prog 68 = some 1 := by kernel_rfl
theorem slz68 : slSz Try.prog 68 = 1 := by kernel_rfl
theorem zok68 : zOk Try.prog 68 = true := by kernel_rfl
theorem by68 : byN Try.prog 68 = 1 := by kernel_rfl
theorem zs68 : zsN Try.prog 68 = [.int .u8 0] := by kernel_rfl
theorem ag68 : agT Try.prog 68 = some false := by kernel_rfl
theorem ldA68 : ldA Try.prog 68 = false := by kernel_rfl
theorem ldS68 : ldS Try.prog 68 = true := by kernel_rfl
theorem nz68 : nzT Try.prog 68 = [some 1] := by kernel_rfl
theorem nze68 : nzE Try.prog 68 = [none] := by kernel_rfl
theorem sz68 : szT Try.prog 68 = some 1 := by kernel_rfl
theorem szn68 : szN Try.prog 68 = 1 := by kernel_rfl
theorem zv68 : zvT Try.prog 68 = some [.slice none 0 0] := by kernel_rfl
theorem u868 : u8sl Try.prog 68 = true := by kernel_rfl
theorem sl71 : slT Try.prog 71 = some 1 := by kernel_rfl
theorem slz71 : slSz Try.prog 71 = 1 := by kernel_rfl
theorem zok71 : zOk Try.prog 71 = true := by kernel_rfl
theorem by71 : byN Try.prog 71 = 24 := by kernel_rfl
theorem zs71 : zsN Try.prog 71 = [.slice none 0 0] := by kernel_rfl
theorem ag71 : agT Try.prog 71 = some false := by kernel_rfl
theorem ldA71 : ldA Try.prog 71 = false := by kernel_rfl
theorem ldS71 : ldS Try.prog 71 = true := by kernel_rfl
theorem nz71 : nzT Try.prog 71 = [some 1] := by kernel_rfl
theorem nze71 : nzE Try.prog 71 = [some 1] := by kernel_rfl
theorem sz71 : szT Try.prog 71 = some 1 := by kernel_rfl
theorem szn71 : szN Try.prog 71 = 1 := by kernel_rfl
theorem zv71 : zvT Try.prog 71 = some [.slice none 0 0] := by kernel_rfl
theorem sl72 : slT Try.prog 72 = some 1 := by kernel_rfl
theorem slz72 : slSz Try.prog 72 = 1 := by kernel_rfl
theorem zok72 : zOk Try.prog 72 = true := by kernel_rfl
theorem by72 : byN Try.prog 72 = 1 := by kernel_rfl
theorem zs72 : zsN Try.prog 72 = [.bool false] := by kernel_rfl
theorem ag72 : agT Try.prog 72 = some false := by kernel_rfl
theorem ldA72 : ldA Try.prog 72 = false := by kernel_rfl
theorem ldS72 : ldS Try.prog 72 = true := by kernel_rfl
theorem nz72 : nzT Try.prog 72 = [some 1] := by kernel_rfl
theorem nze72 : nzE Try.prog 72 = [none] := by kernel_rfl
theorem sz72 : szT Try.prog 72 = some 1 := by kernel_rfl
theorem szn72 : szN Try.prog 72 = 1 := by kernel_rfl
theorem zv72 : zvT Try.prog 72 = some [.slice none 0 0] := by kernel_rfl
theorem ag73 : agT Try.prog 73 = some true := by kernel_rfl
theorem ldA73 : ldA Try.prog 73 = true := by kernel_rfl
theorem nz73 : nzT Try.prog 73 = [none, none, none] := by kernel_rfl
theorem sz73 : szT Try.prog 73 = some 3 := by kernel_rfl
theorem szn73 : szN Try.prog 73 = 3 := by kernel_rfl
theorem zv73 : zvT Try.prog 73 = some [.int .i64 0, .int .i64 0, .int .i64 0] := by kernel_rfl
theorem bd73 : bdOk Try.prog 73 = true := by kernel_rfl
theorem pl73_0 : plT Try.prog 73 0 = some (0, 1) := by kernel_rfl
theorem pl73_1 : plT Try.prog 73 1 = some (1, 1) := by kernel_rfl
theorem pl73_2 : plT Try.prog 73 2 = some (2, 1) := by kernel_rfl
theorem fo73_0 : fdO Try.prog 73 0 = 0 := by kernel_rfl
theorem fn73_0 : fdN Try.prog 73 0 = 1 := by kernel_rfl
theorem fk73_0 : fdOk Try.prog 73 0 = true := by kernel_rfl
theorem fs73_0 : fdS Try.prog 73 0 = true := by kernel_rfl
theorem fo73_1 : fdO Try.prog 73 1 = 1 := by kernel_rfl
theorem fn73_1 : fdN Try.prog 73 1 = 1 := by kernel_rfl
theorem fk73_1 : fdOk Try.prog 73 1 = true := by kernel_rfl
theorem fs73_1 : fdS Try.prog 73 1 = true := by kernel_rfl
theorem fo73_2 : fdO Try.prog 73 2 = 2 := by kernel_rfl
theorem fn73_2 : fdN Try.prog 73 2 = 1 := by kernel_rfl
theorem fk73_2 : fdOk Try.prog 73 2 = true := by kernel_rfl
theorem fs73_2 : fdS Try.prog 73 2 = true := by kernel_rfl
theorem ag74 : agT Try.prog 74 = some true := by kernel_rfl
theorem ldA74 : ldA Try.prog 74 = true := by kernel_rfl
theorem nz74 : nzT Try.prog 74 = [none, none, none] := by kernel_rfl
theorem sz74 : szT Try.prog 74 = some 3 := by kernel_rfl
theorem szn74 : szN Try.prog 74 = 3 := by kernel_rfl
theorem zv74 : zvT Try.prog 74 = some [.int .i64 0, .int .i64 0, .int .i64 0] := by kernel_rfl
theorem bd74 : bdOk Try.prog 74 = true := by kernel_rfl
theorem pl74_0 : plT Try.prog 74 0 = some (0, 1) := by kernel_rfl
theorem pl74_1 : plT Try.prog 74 1 = some (1, 1) := by kernel_rfl
theorem pl74_2 : plT Try.prog 74 2 = some (2, 1) := by kernel_rfl
theorem fo74_0 : fdO Try.prog 74 0 = 0 := by kernel_rfl
theorem fn74_0 : fdN Try.prog 74 0 = 1 := by kernel_rfl
theorem fk74_0 : fdOk Try.prog 74 0 = true := by kernel_rfl
theorem fs74_0 : fdS Try.prog 74 0 = true := by kernel_rfl
theorem fo74_1 : fdO Try.prog 74 1 = 1 := by kernel_rfl
theorem fn74_1 : fdN Try.prog 74 1 = 1 := by kernel_rfl
theorem fk74_1 : fdOk Try.prog 74 1 = true := by kernel_rfl
theorem fs74_1 : fdS Try.prog 74 1 = true := by kernel_rfl
theorem fo74_2 : fdO Try.prog 74 2 = 2 := by kernel_rfl
theorem fn74_2 : fdN Try.prog 74 2 = 1 := by kernel_rfl
theorem fk74_2 : fdOk Try.prog 74 2 = true := by kernel_rfl
theorem fs74_2 : fdS Try.prog 74 2 = true := by kernel_rfl
theorem sl76 : slT Try.prog 76 = some 3 := by kernel_rfl
theorem slz76 : slSz Try.prog 76 = 3 := by kernel_rfl
theorem zok76 : zOk Try.prog 76 = true := by kernel_rfl
theorem by76 : byN Try.prog 76 = 40 := by kernel_rfl
theorem zs76 : zsN Try.prog 76 = [.int .i64 0, .int .i64 0, .slice none 0 0] := by kernel_rfl
theorem ag76 : agT Try.prog 76 = some false := by kernel_rfl
theorem ldA76 : ldA Try.prog 76 = false := by kernel_rfl
theorem ldS76 : ldS Try.prog 76 = true := by kernel_rfl
theorem nz76 : nzT Try.prog 76 = [some 3] := by kernel_rfl
theorem nze76 : nzE Try.prog 76 = [none, none, some 3] := by kernel_rfl
theorem sz76 : szT Try.prog 76 = some 1 := by kernel_rfl
theorem szn76 : szN Try.prog 76 = 1 := by kernel_rfl
theorem zv76 : zvT Try.prog 76 = some [.slice none 0 0] := by kernel_rfl
theorem ag77 : agT Try.prog 77 = some true := by kernel_rfl
theorem ldA77 : ldA Try.prog 77 = true := by kernel_rfl
theorem nz77 : nzT Try.prog 77 = [none, none, some 3, some 1, some 1, some 3] := by kernel_rfl
theorem sz77 : szT Try.prog 77 = some 6 := by kernel_rfl
theorem szn77 : szN Try.prog 77 = 6 := by kernel_rfl
theorem zv77 : zvT Try.prog 77 = some [.int .i64 0, .int .i64 0, .slice none 0 0, .slice none 0 0, .slice none 0 0, .slice none 0 0] := by kernel_rfl
theorem bd77 : bdOk Try.prog 77 = true := by kernel_rfl
theorem pl77_0 : plT Try.prog 77 0 = some (0, 3) := by kernel_rfl
theorem pl77_1 : plT Try.prog 77 1 = some (3, 1) := by kernel_rfl
theorem pl77_2 : plT Try.prog 77 2 = some (4, 1) := by kernel_rfl
theorem pl77_3 : plT Try.prog 77 3 = some (5, 1) := by kernel_rfl
theorem fo77_0 : fdO Try.prog 77 0 = 0 := by kernel_rfl
theorem fn77_0 : fdN Try.prog 77 0 = 3 := by kernel_rfl
theorem fk77_0 : fdOk Try.prog 77 0 = true := by kernel_rfl
theorem fo77_1 : fdO Try.prog 77 1 = 3 := by kernel_rfl
theorem fn77_1 : fdN Try.prog 77 1 = 1 := by kernel_rfl
theorem fk77_1 : fdOk Try.prog 77 1 = true := by kernel_rfl
theorem fs77_1 : fdS Try.prog 77 1 = true := by kernel_rfl
theorem fo77_2 : fdO Try.prog 77 2 = 4 := by kernel_rfl
theorem fn77_2 : fdN Try.prog 77 2 = 1 := by kernel_rfl
theorem fk77_2 : fdOk Try.prog 77 2 = true := by kernel_rfl
theorem fs77_2 : fdS Try.prog 77 2 = true := by kernel_rfl
theorem fo77_3 : fdO Try.prog 77 3 = 5 := by kernel_rfl
theorem fn77_3 : fdN Try.prog 77 3 = 1 := by kernel_rfl
theorem fk77_3 : fdOk Try.prog 77 3 = true := by kernel_rfl
theorem fs77_3 : fdS Try.prog 77 3 = true := by kernel_rfl
theorem ag78 : agT Try.prog 78 = some true := by kernel_rfl
theorem ldA78 : ldA Try.prog 78 = true := by kernel_rfl
theorem nz78 : nzT Try.prog 78 = [none, none, some 3, some 1, some 1, some 3] := by kernel_rfl
theorem sz78 : szT Try.prog 78 = some 6 := by kernel_rfl
theorem szn78 : szN Try.prog 78 = 6 := by kernel_rfl
theorem zv78 : zvT Try.prog 78 = some [.int .i64 0, .int .i64 0, .slice none 0 0, .slice none 0 0, .slice none 0 0, .slice none 0 0] := by kernel_rfl
theorem bd78 : bdOk Try.prog 78 = true := by kernel_rfl
theorem pl78_0 : plT Try.prog 78 0 = some (0, 3) := by kernel_rfl
theorem pl78_1 : plT Try.prog 78 1 = some (3, 1) := by kernel_rfl
theorem pl78_2 : plT Try.prog 78 2 = some (4, 1) := by kernel_rfl
theorem pl78_3 : plT Try.prog 78 3 = some (5, 1) := by kernel_rfl
theorem fo78_0 : fdO Try.prog 78 0 = 0 := by kernel_rfl
theorem fn78_0 : fdN Try.prog 78 0 = 3 := by kernel_rfl
theorem fk78_0 : fdOk Try.prog 78 0 = true := by kernel_rfl
theorem fo78_1 : fdO Try.prog 78 1 = 3 := by kernel_rfl
theorem fn78_1 : fdN Try.prog 78 1 = 1 := by kernel_rfl
theorem fk78_1 : fdOk Try.prog 78 1 = true := by kernel_rfl
theorem fs78_1 : fdS Try.prog 78 1 = true := by kernel_rfl
theorem fo78_2 : fdO Try.prog 78 2 = 4 := by kernel_rfl
theorem fn78_2 : fdN Try.prog 78 2 = 1 := by kernel_rfl
theorem fk78_2 : fdOk Try.prog 78 2 = true := by kernel_rfl
theorem fs78_2 : fdS Try.prog 78 2 = true := by kernel_rfl
theorem fo78_3 : fdO Try.prog 78 3 = 5 := by kernel_rfl
theorem fn78_3 : fdN Try.prog 78 3 = 1 := by kernel_rfl
theorem fk78_3 : fdOk Try.prog 78 3 = true := by kernel_rfl
theorem fs78_3 : fdS Try.prog 78 3 = true := by kernel_rfl
theorem sl80 : slT Try.prog 80 = some 3 := by kernel_rfl
theorem slz80 : slSz Try.prog 80 = 3 := by kernel_rfl
theorem zok80 : zOk Try.prog 80 = true := by kernel_rfl
theorem by80 : byN Try.prog 80 = 40 := by kernel_rfl
theorem zs80 : zsN Try.prog 80 = [.int .i64 0, .int .i64 0, .slice none 0 0] := by kernel_rfl
theorem ag80 : agT Try.prog 80 = some false := by kernel_rfl
theorem ldA80 : ldA Try.prog 80 = false := by kernel_rfl
theorem ldS80 : ldS Try.prog 80 = true := by kernel_rfl
theorem nz80 : nzT Try.prog 80 = [some 3] := by kernel_rfl
theorem nze80 : nzE Try.prog 80 = [none, none, some 3] := by kernel_rfl
theorem sz80 : szT Try.prog 80 = some 1 := by kernel_rfl
theorem szn80 : szN Try.prog 80 = 1 := by kernel_rfl
theorem zv80 : zvT Try.prog 80 = some [.slice none 0 0] := by kernel_rfl
theorem ag81 : agT Try.prog 81 = some true := by kernel_rfl
theorem ldA81 : ldA Try.prog 81 = true := by kernel_rfl
theorem nz81 : nzT Try.prog 81 = [none, none, some 3, some 1, some 1, some 3] := by kernel_rfl
theorem sz81 : szT Try.prog 81 = some 6 := by kernel_rfl
theorem szn81 : szN Try.prog 81 = 6 := by kernel_rfl
theorem zv81 : zvT Try.prog 81 = some [.int .i64 0, .int .i64 0, .slice none 0 0, .slice none 0 0, .slice none 0 0, .slice none 0 0] := by kernel_rfl
theorem bd81 : bdOk Try.prog 81 = true := by kernel_rfl
theorem pl81_0 : plT Try.prog 81 0 = some (0, 3) := by kernel_rfl
theorem pl81_1 : plT Try.prog 81 1 = some (3, 1) := by kernel_rfl
theorem pl81_2 : plT Try.prog 81 2 = some (4, 1) := by kernel_rfl
theorem pl81_3 : plT Try.prog 81 3 = some (5, 1) := by kernel_rfl
theorem fo81_0 : fdO Try.prog 81 0 = 0 := by kernel_rfl
theorem fn81_0 : fdN Try.prog 81 0 = 3 := by kernel_rfl
theorem fk81_0 : fdOk Try.prog 81 0 = true := by kernel_rfl
theorem fo81_1 : fdO Try.prog 81 1 = 3 := by kernel_rfl
theorem fn81_1 : fdN Try.prog 81 1 = 1 := by kernel_rfl
theorem fk81_1 : fdOk Try.prog 81 1 = true := by kernel_rfl
theorem fs81_1 : fdS Try.prog 81 1 = true := by kernel_rfl
theorem fo81_2 : fdO Try.prog 81 2 = 4 := by kernel_rfl
theorem fn81_2 : fdN Try.prog 81 2 = 1 := by kernel_rfl
theorem fk81_2 : fdOk Try.prog 81 2 = true := by kernel_rfl
theorem fs81_2 : fdS Try.prog 81 2 = true := by kernel_rfl
theorem fo81_3 : fdO Try.prog 81 3 = 5 := by kernel_rfl
theorem fn81_3 : fdN Try.prog 81 3 = 1 := by kernel_rfl
theorem fk81_3 : fdOk Try.prog 81 3 = true := by kernel_rfl
theorem fs81_3 : fdS Try.prog 81 3 = true := by kernel_rfl
theorem ag82 : agT Try.prog 82 = some true := by kernel_rfl
theorem ldA82 : ldA Try.prog 82 = true := by kernel_rfl
theorem nz82 : nzT Try.prog 82 = [none, none, some 3, some 1, some 1, some 3] := by kernel_rfl
theorem sz82 : szT Try.prog 82 = some 6 := by kernel_rfl
theorem szn82 : szN Try.prog 82 = 6 := by kernel_rfl
theorem zv82 : zvT Try.prog 82 = some [.int .i64 0, .int .i64 0, .slice none 0 0, .slice none 0 0, .slice none 0 0, .slice none 0 0] := by kernel_rfl
theorem bd82 : bdOk Try.prog 82 = true := by kernel_rfl
theorem pl82_0 : plT Try.prog 82 0 = some (0, 3) := by kernel_rfl
theorem pl82_1 : plT Try.prog 82 1 = some (3, 1) := by kernel_rfl
theorem pl82_2 : plT Try.prog 82 2 = some (4, 1) := by kernel_rfl
theorem pl82_3 : plT Try.prog 82 3 = some (5, 1) := by kernel_rfl
theorem fo82_0 : fdO Try.prog 82 0 = 0 := by kernel_rfl
theorem fn82_0 : fdN Try.prog 82 0 = 3 := by kernel_rfl
theorem fk82_0 : fdOk Try.prog 82 0 = true := by kernel_rfl
theorem fo82_1 : fdO Try.prog 82 1 = 3 := by kernel_rfl
theorem fn82_1 : fdN Try.prog 82 1 = 1 := by kernel_rfl
theorem fk82_1 : fdOk Try.prog 82 1 = true := by kernel_rfl
theorem fs82_1 : fdS Try.prog 82 1 = true := by kernel_rfl
theorem fo82_2 : fdO Try.prog 82 2 = 4 := by kernel_rfl
theorem fn82_2 : fdN Try.prog 82 2 = 1 := by kernel_rfl
theorem fk82_2 : fdOk Try.prog 82 2 = true := by kernel_rfl
theorem fs82_2 : fdS Try.prog 82 2 = true := by kernel_rfl
theorem fo82_3 : fdO Try.prog 82 3 = 5 := by kernel_rfl
theorem fn82_3 : fdN Try.prog 82 3 = 1 := by kernel_rfl
theorem fk82_3 : fdOk Try.prog 82 3 = true := by kernel_rfl
theorem fs82_3 : fdS Try.prog 82 3 = true := by kernel_rfl
theorem ag89 : agT Try.prog 89 = some true := by kernel_rfl
theorem ldA89 : ldA Try.prog 89 = true := by kernel_rfl
theorem nz89 : nzT Try.prog 89 = [none, none, none] := by kernel_rfl
theorem sz89 : szT Try.prog 89 = some 3 := by kernel_rfl
theorem szn89 : szN Try.prog 89 = 3 := by kernel_rfl
theorem zv89 : zvT Try.prog 89 = some [.int .i64 0, .int .i64 0, .int .i64 0] := by kernel_rfl
theorem bd89 : bdOk Try.prog 89 = true := by kernel_rfl
theorem pl89_0 : plT Try.prog 89 0 = some (0, 1) := by kernel_rfl
theorem pl89_1 : plT Try.prog 89 1 = some (1, 1) := by kernel_rfl
theorem pl89_2 : plT Try.prog 89 2 = some (2, 1) := by kernel_rfl
theorem fo89_0 : fdO Try.prog 89 0 = 0 := by kernel_rfl
theorem fn89_0 : fdN Try.prog 89 0 = 1 := by kernel_rfl
theorem fk89_0 : fdOk Try.prog 89 0 = true := by kernel_rfl
theorem fs89_0 : fdS Try.prog 89 0 = true := by kernel_rfl
theorem fo89_1 : fdO Try.prog 89 1 = 1 := by kernel_rfl
theorem fn89_1 : fdN Try.prog 89 1 = 1 := by kernel_rfl
theorem fk89_1 : fdOk Try.prog 89 1 = true := by kernel_rfl
theorem fs89_1 : fdS Try.prog 89 1 = true := by kernel_rfl
theorem fo89_2 : fdO Try.prog 89 2 = 2 := by kernel_rfl
theorem fn89_2 : fdN Try.prog 89 2 = 1 := by kernel_rfl
theorem fk89_2 : fdOk Try.prog 89 2 = true := by kernel_rfl
theorem fs89_2 : fdS Try.prog 89 2 = true := by kernel_rfl
theorem ag130 : agT Try.prog 130 = some false := by kernel_rfl
theorem ldA130 : ldA Try.prog 130 = false := by kernel_rfl
theorem ldS130 : ldS Try.prog 130 = true := by kernel_rfl
theorem nz130 : nzT Try.prog 130 = [none] := by kernel_rfl
theorem sz130 : szT Try.prog 130 = some 1 := by kernel_rfl
theorem szn130 : szN Try.prog 130 = 1 := by kernel_rfl
theorem zv130 : zvT Try.prog 130 = some [.pointer none] := by kernel_rfl
theorem ag131 : agT Try.prog 131 = some false := by kernel_rfl
theorem ldA131 : ldA Try.prog 131 = false := by kernel_rfl
theorem ldS131 : ldS Try.prog 131 = true := by kernel_rfl
theorem nz131 : nzT Try.prog 131 = [none] := by kernel_rfl
theorem sz131 : szT Try.prog 131 = some 1 := by kernel_rfl
theorem szn131 : szN Try.prog 131 = 1 := by kernel_rfl
theorem zv131 : zvT Try.prog 131 = some [.int .u64 0] := by kernel_rfl
theorem int131 : intKd Try.prog 131 = some .u64 := by kernel_rfl
theorem ag132 : agT Try.prog 132 = some true := by kernel_rfl
theorem ldA132 : ldA Try.prog 132 = true := by kernel_rfl
theorem nz132 : nzT Try.prog 132 = [some 1, none, none] := by kernel_rfl
theorem sz132 : szT Try.prog 132 = some 3 := by kernel_rfl
theorem szn132 : szN Try.prog 132 = 3 := by kernel_rfl
theorem zv132 : zvT Try.prog 132 = some [.slice none 0 0, .int .i64 0, .int .u64 0] := by kernel_rfl
theorem bd132 : bdOk Try.prog 132 = true := by kernel_rfl
theorem pl132_0 : plT Try.prog 132 0 = some (0, 1) := by kernel_rfl
theorem pl132_1 : plT Try.prog 132 1 = some (1, 1) := by kernel_rfl
theorem pl132_2 : plT Try.prog 132 2 = some (2, 1) := by kernel_rfl
theorem fo132_0 : fdO Try.prog 132 0 = 0 := by kernel_rfl
theorem fn132_0 : fdN Try.prog 132 0 = 1 := by kernel_rfl
theorem fk132_0 : fdOk Try.prog 132 0 = true := by kernel_rfl
theorem fs132_0 : fdS Try.prog 132 0 = true := by kernel_rfl
theorem fo132_1 : fdO Try.prog 132 1 = 1 := by kernel_rfl
theorem fn132_1 : fdN Try.prog 132 1 = 1 := by kernel_rfl
theorem fk132_1 : fdOk Try.prog 132 1 = true := by kernel_rfl
theorem fs132_1 : fdS Try.prog 132 1 = true := by kernel_rfl
theorem fo132_2 : fdO Try.prog 132 2 = 2 := by kernel_rfl
theorem fn132_2 : fdN Try.prog 132 2 = 1 := by kernel_rfl
theorem fk132_2 : fdOk Try.prog 132 2 = true := by kernel_rfl
theorem fs132_2 : fdS Try.prog 132 2 = true := by kernel_rfl
theorem ag133 : agT Try.prog 133 = some true := by kernel_rfl
theorem ldA133 : ldA Try.prog 133 = true := by kernel_rfl
theorem nz133 : nzT Try.prog 133 = [some 1, none, none] := by kernel_rfl
theorem sz133 : szT Try.prog 133 = some 3 := by kernel_rfl
theorem szn133 : szN Try.prog 133 = 3 := by kernel_rfl
theorem zv133 : zvT Try.prog 133 = some [.slice none 0 0, .int .i64 0, .int .u64 0] := by kernel_rfl
theorem bd133 : bdOk Try.prog 133 = true := by kernel_rfl
theorem pl133_0 : plT Try.prog 133 0 = some (0, 1) := by kernel_rfl
theorem pl133_1 : plT Try.prog 133 1 = some (1, 1) := by kernel_rfl
theorem pl133_2 : plT Try.prog 133 2 = some (2, 1) := by kernel_rfl
theorem fo133_0 : fdO Try.prog 133 0 = 0 := by kernel_rfl
theorem fn133_0 : fdN Try.prog 133 0 = 1 := by kernel_rfl
theorem fk133_0 : fdOk Try.prog 133 0 = true := by kernel_rfl
theorem fs133_0 : fdS Try.prog 133 0 = true := by kernel_rfl
theorem fo133_1 : fdO Try.prog 133 1 = 1 := by kernel_rfl
theorem fn133_1 : fdN Try.prog 133 1 = 1 := by kernel_rfl
theorem fk133_1 : fdOk Try.prog 133 1 = true := by kernel_rfl
theorem fs133_1 : fdS Try.prog 133 1 = true := by kernel_rfl
theorem fo133_2 : fdO Try.prog 133 2 = 2 := by kernel_rfl
theorem fn133_2 : fdN Try.prog 133 2 = 1 := by kernel_rfl
theorem fk133_2 : fdOk Try.prog 133 2 = true := by kernel_rfl
theorem fs133_2 : fdS Try.prog 133 2 = true := by kernel_rfl
theorem ag138 : agT Try.prog 138 = some true := by kernel_rfl
theorem ldA138 : ldA Try.prog 138 = true := by kernel_rfl
theorem nz138 : nzT Try.prog 138 = [none, none, none] := by kernel_rfl
theorem sz138 : szT Try.prog 138 = some 3 := by kernel_rfl
theorem szn138 : szN Try.prog 138 = 3 := by kernel_rfl
theorem zv138 : zvT Try.prog 138 = some [.int .i64 0, .int .i64 0, .int .i64 0] := by kernel_rfl
theorem bd138 : bdOk Try.prog 138 = true := by kernel_rfl
theorem pl138_0 : plT Try.prog 138 0 = some (0, 1) := by kernel_rfl
theorem pl138_1 : plT Try.prog 138 1 = some (1, 1) := by kernel_rfl
theorem pl138_2 : plT Try.prog 138 2 = some (2, 1) := by kernel_rfl
theorem fo138_0 : fdO Try.prog 138 0 = 0 := by kernel_rfl
theorem fn138_0 : fdN Try.prog 138 0 = 1 := by kernel_rfl
theorem fk138_0 : fdOk Try.prog 138 0 = true := by kernel_rfl
theorem fs138_0 : fdS Try.prog 138 0 = true := by kernel_rfl
theorem fo138_1 : fdO Try.prog 138 1 = 1 := by kernel_rfl
theorem fn138_1 : fdN Try.prog 138 1 = 1 := by kernel_rfl
theorem fk138_1 : fdOk Try.prog 138 1 = true := by kernel_rfl
theorem fs138_1 : fdS Try.prog 138 1 = true := by kernel_rfl
theorem fo138_2 : fdO Try.prog 138 2 = 2 := by kernel_rfl
theorem fn138_2 : fdN Try.prog 138 2 = 1 := by kernel_rfl
theorem fk138_2 : fdOk Try.prog 138 2 = true := by kernel_rfl
theorem fs138_2 : fdS Try.prog 138 2 = true := by kernel_rfl
theorem ag139 : agT Try.prog 139 = some true := by kernel_rfl
theorem ldA139 : ldA Try.prog 139 = true := by kernel_rfl
theorem nz139 : nzT Try.prog 139 = [none, none, none] := by kernel_rfl
theorem sz139 : szT Try.prog 139 = some 3 := by kernel_rfl
theorem szn139 : szN Try.prog 139 = 3 := by kernel_rfl
theorem zv139 : zvT Try.prog 139 = some [.int .i64 0, .int .i64 0, .int .i64 0] := by kernel_rfl
theorem bd139 : bdOk Try.prog 139 = true := by kernel_rfl
theorem pl139_0 : plT Try.prog 139 0 = some (0, 1) := by kernel_rfl
theorem pl139_1 : plT Try.prog 139 1 = some (1, 1) := by kernel_rfl
theorem pl139_2 : plT Try.prog 139 2 = some (2, 1) := by kernel_rfl
theorem fo139_0 : fdO Try.prog 139 0 = 0 := by kernel_rfl
theorem fn139_0 : fdN Try.prog 139 0 = 1 := by kernel_rfl
theorem fk139_0 : fdOk Try.prog 139 0 = true := by kernel_rfl
theorem fs139_0 : fdS Try.prog 139 0 = true := by kernel_rfl
theorem fo139_1 : fdO Try.prog 139 1 = 1 := by kernel_rfl
theorem fn139_1 : fdN Try.prog 139 1 = 1 := by kernel_rfl
theorem fk139_1 : fdOk Try.prog 139 1 = true := by kernel_rfl
theorem fs139_1 : fdS Try.prog 139 1 = true := by kernel_rfl
theorem fo139_2 : fdO Try.prog 139 2 = 2 := by kernel_rfl
theorem fn139_2 : fdN Try.prog 139 2 = 1 := by kernel_rfl
theorem fk139_2 : fdOk Try.prog 139 2 = true := by kernel_rfl
theorem fs139_2 : fdS Try.prog 139 2 = true := by kernel_rfl
theorem ag145 : agT Try.prog 145 = some false := by kernel_rfl
theorem ldA145 : ldA Try.prog 145 = false := by kernel_rfl
theorem ldS145 : ldS Try.prog 145 = true := by kernel_rfl
theorem nz145 : nzT Try.prog 145 = [none] := by kernel_rfl
theorem sz145 : szT Try.prog 145 = some 1 := by kernel_rfl
theorem szn145 : szN Try.prog 145 = 1 := by kernel_rfl
theorem zv145 : zvT Try.prog 145 = some [.pointer none] := by kernel_rfl
theorem sl151 : slT Try.prog 151 = some 3 := by kernel_rfl
theorem slz151 : slSz Try.prog 151 = 3 := by kernel_rfl
theorem zok151 : zOk Try.prog 151 = true := by kernel_rfl
theorem by151 : byN Try.prog 151 = 32 := by kernel_rfl
theorem zs151 : zsN Try.prog 151 = [.string ⟨#[]⟩, .int .i64 0, .int .i64 0] := by kernel_rfl
theorem ag151 : agT Try.prog 151 = some false := by kernel_rfl
theorem ldA151 : ldA Try.prog 151 = false := by kernel_rfl
theorem ldS151 : ldS Try.prog 151 = true := by kernel_rfl
theorem nz151 : nzT Try.prog 151 = [some 3] := by kernel_rfl
theorem nze151 : nzE Try.prog 151 = [none, none, none] := by kernel_rfl
theorem sz151 : szT Try.prog 151 = some 1 := by kernel_rfl
theorem szn151 : szN Try.prog 151 = 1 := by kernel_rfl
theorem zv151 : zvT Try.prog 151 = some [.slice none 0 0] := by kernel_rfl
theorem ag152 : agT Try.prog 152 = some true := by kernel_rfl
theorem ldA152 : ldA Try.prog 152 = true := by kernel_rfl
theorem nz152 : nzT Try.prog 152 = [none, some 3] := by kernel_rfl
theorem sz152 : szT Try.prog 152 = some 2 := by kernel_rfl
theorem szn152 : szN Try.prog 152 = 2 := by kernel_rfl
theorem zv152 : zvT Try.prog 152 = some [.int .i64 0, .slice none 0 0] := by kernel_rfl
theorem bd152 : bdOk Try.prog 152 = true := by kernel_rfl
theorem pl152_0 : plT Try.prog 152 0 = some (0, 1) := by kernel_rfl
theorem pl152_1 : plT Try.prog 152 1 = some (1, 1) := by kernel_rfl
theorem fo152_0 : fdO Try.prog 152 0 = 0 := by kernel_rfl
theorem fn152_0 : fdN Try.prog 152 0 = 1 := by kernel_rfl
theorem fk152_0 : fdOk Try.prog 152 0 = true := by kernel_rfl
theorem fs152_0 : fdS Try.prog 152 0 = true := by kernel_rfl
theorem fo152_1 : fdO Try.prog 152 1 = 1 := by kernel_rfl
theorem fn152_1 : fdN Try.prog 152 1 = 1 := by kernel_rfl
theorem fk152_1 : fdOk Try.prog 152 1 = true := by kernel_rfl
theorem fs152_1 : fdS Try.prog 152 1 = true := by kernel_rfl
theorem ag153 : agT Try.prog 153 = some true := by kernel_rfl
theorem ldA153 : ldA Try.prog 153 = true := by kernel_rfl
theorem nz153 : nzT Try.prog 153 = [none, some 3] := by kernel_rfl
theorem sz153 : szT Try.prog 153 = some 2 := by kernel_rfl
theorem szn153 : szN Try.prog 153 = 2 := by kernel_rfl
theorem zv153 : zvT Try.prog 153 = some [.int .i64 0, .slice none 0 0] := by kernel_rfl
theorem bd153 : bdOk Try.prog 153 = true := by kernel_rfl
theorem pl153_0 : plT Try.prog 153 0 = some (0, 1) := by kernel_rfl
theorem pl153_1 : plT Try.prog 153 1 = some (1, 1) := by kernel_rfl
theorem fo153_0 : fdO Try.prog 153 0 = 0 := by kernel_rfl
theorem fn153_0 : fdN Try.prog 153 0 = 1 := by kernel_rfl
theorem fk153_0 : fdOk Try.prog 153 0 = true := by kernel_rfl
theorem fs153_0 : fdS Try.prog 153 0 = true := by kernel_rfl
theorem fo153_1 : fdO Try.prog 153 1 = 1 := by kernel_rfl
theorem fn153_1 : fdN Try.prog 153 1 = 1 := by kernel_rfl
theorem fk153_1 : fdOk Try.prog 153 1 = true := by kernel_rfl
theorem fs153_1 : fdS Try.prog 153 1 = true := by kernel_rfl
theorem ag158 : agT Try.prog 158 = some false := by kernel_rfl
theorem ldA158 : ldA Try.prog 158 = false := by kernel_rfl
theorem ldS158 : ldS Try.prog 158 = true := by kernel_rfl
theorem nz158 : nzT Try.prog 158 = [none] := by kernel_rfl
theorem sz158 : szT Try.prog 158 = some 1 := by kernel_rfl
theorem szn158 : szN Try.prog 158 = 1 := by kernel_rfl
theorem zv158 : zvT Try.prog 158 = some [.pointer none] := by kernel_rfl
theorem ag161 : agT Try.prog 161 = some true := by kernel_rfl
theorem ldA161 : ldA Try.prog 161 = true := by kernel_rfl
theorem nz161 : nzT Try.prog 161 = [none, none, none] := by kernel_rfl
theorem sz161 : szT Try.prog 161 = some 3 := by kernel_rfl
theorem szn161 : szN Try.prog 161 = 3 := by kernel_rfl
theorem zv161 : zvT Try.prog 161 = some [.string ⟨#[]⟩, .int .i64 0, .int .i64 0] := by kernel_rfl
theorem bd161 : bdOk Try.prog 161 = true := by kernel_rfl
theorem pl161_0 : plT Try.prog 161 0 = some (0, 1) := by kernel_rfl
theorem pl161_1 : plT Try.prog 161 1 = some (1, 1) := by kernel_rfl
theorem pl161_2 : plT Try.prog 161 2 = some (2, 1) := by kernel_rfl
theorem fo161_0 : fdO Try.prog 161 0 = 0 := by kernel_rfl
theorem fn161_0 : fdN Try.prog 161 0 = 1 := by kernel_rfl
theorem fk161_0 : fdOk Try.prog 161 0 = true := by kernel_rfl
theorem fs161_0 : fdS Try.prog 161 0 = true := by kernel_rfl
theorem fo161_1 : fdO Try.prog 161 1 = 1 := by kernel_rfl
theorem fn161_1 : fdN Try.prog 161 1 = 1 := by kernel_rfl
theorem fk161_1 : fdOk Try.prog 161 1 = true := by kernel_rfl
theorem fs161_1 : fdS Try.prog 161 1 = true := by kernel_rfl
theorem fo161_2 : fdO Try.prog 161 2 = 2 := by kernel_rfl
theorem fn161_2 : fdN Try.prog 161 2 = 1 := by kernel_rfl
theorem fk161_2 : fdOk Try.prog 161 2 = true := by kernel_rfl
theorem fs161_2 : fdS Try.prog 161 2 = true := by kernel_rfl
theorem ag162 : agT Try.prog 162 = some true := by kernel_rfl
theorem ldA162 : ldA Try.prog 162 = true := by kernel_rfl
theorem nz162 : nzT Try.prog 162 = [none, none, none] := by kernel_rfl
theorem sz162 : szT Try.prog 162 = some 3 := by kernel_rfl
theorem szn162 : szN Try.prog 162 = 3 := by kernel_rfl
theorem zv162 : zvT Try.prog 162 = some [.string ⟨#[]⟩, .int .i64 0, .int .i64 0] := by kernel_rfl
theorem bd162 : bdOk Try.prog 162 = true := by kernel_rfl
theorem pl162_0 : plT Try.prog 162 0 = some (0, 1) := by kernel_rfl
theorem pl162_1 : plT Try.prog 162 1 = some (1, 1) := by kernel_rfl
theorem pl162_2 : plT Try.prog 162 2 = some (2, 1) := by kernel_rfl
theorem fo162_0 : fdO Try.prog 162 0 = 0 := by kernel_rfl
theorem fn162_0 : fdN Try.prog 162 0 = 1 := by kernel_rfl
theorem fk162_0 : fdOk Try.prog 162 0 = true := by kernel_rfl
theorem fs162_0 : fdS Try.prog 162 0 = true := by kernel_rfl
theorem fo162_1 : fdO Try.prog 162 1 = 1 := by kernel_rfl
theorem fn162_1 : fdN Try.prog 162 1 = 1 := by kernel_rfl
theorem fk162_1 : fdOk Try.prog 162 1 = true := by kernel_rfl
theorem fs162_1 : fdS Try.prog 162 1 = true := by kernel_rfl
theorem fo162_2 : fdO Try.prog 162 2 = 2 := by kernel_rfl
theorem fn162_2 : fdN Try.prog 162 2 = 1 := by kernel_rfl
theorem fk162_2 : fdOk Try.prog 162 2 = true := by kernel_rfl
theorem fs162_2 : fdS Try.prog 162 2 = true := by kernel_rfl
theorem ag164 : agT Try.prog 164 = some false := by kernel_rfl
theorem ldA164 : ldA Try.prog 164 = false := by kernel_rfl
theorem ldS164 : ldS Try.prog 164 = true := by kernel_rfl
theorem nz164 : nzT Try.prog 164 = [none] := by kernel_rfl
theorem sz164 : szT Try.prog 164 = some 1 := by kernel_rfl
theorem szn164 : szN Try.prog 164 = 1 := by kernel_rfl
theorem zv164 : zvT Try.prog 164 = some [.pointer none] := by kernel_rfl
theorem ag168 : agT Try.prog 168 = some true := by kernel_rfl
theorem ldA168 : ldA Try.prog 168 = true := by kernel_rfl
theorem nz168 : nzT Try.prog 168 = [none, none, none] := by kernel_rfl
theorem sz168 : szT Try.prog 168 = some 3 := by kernel_rfl
theorem szn168 : szN Try.prog 168 = 3 := by kernel_rfl
theorem zv168 : zvT Try.prog 168 = some [.int .i64 0, .int .i64 0, .int .i64 0] := by kernel_rfl
theorem bd168 : bdOk Try.prog 168 = true := by kernel_rfl
theorem pl168_0 : plT Try.prog 168 0 = some (0, 1) := by kernel_rfl
theorem pl168_1 : plT Try.prog 168 1 = some (1, 1) := by kernel_rfl
theorem pl168_2 : plT Try.prog 168 2 = some (2, 1) := by kernel_rfl
theorem fo168_0 : fdO Try.prog 168 0 = 0 := by kernel_rfl
theorem fn168_0 : fdN Try.prog 168 0 = 1 := by kernel_rfl
theorem fk168_0 : fdOk Try.prog 168 0 = true := by kernel_rfl
theorem fs168_0 : fdS Try.prog 168 0 = true := by kernel_rfl
theorem fo168_1 : fdO Try.prog 168 1 = 1 := by kernel_rfl
theorem fn168_1 : fdN Try.prog 168 1 = 1 := by kernel_rfl
theorem fk168_1 : fdOk Try.prog 168 1 = true := by kernel_rfl
theorem fs168_1 : fdS Try.prog 168 1 = true := by kernel_rfl
theorem fo168_2 : fdO Try.prog 168 2 = 2 := by kernel_rfl
theorem fn168_2 : fdN Try.prog 168 2 = 1 := by kernel_rfl
theorem fk168_2 : fdOk Try.prog 168 2 = true := by kernel_rfl
theorem fs168_2 : fdS Try.prog 168 2 = true := by kernel_rfl
theorem sl175 : slT Try.prog 175 = some 3 := by kernel_rfl
theorem slz175 : slSz Try.prog 175 = 3 := by kernel_rfl
theorem zok175 : zOk Try.prog 175 = true := by kernel_rfl
theorem by175 : byN Try.prog 175 = 32 := by kernel_rfl
theorem zs175 : zsN Try.prog 175 = [.string ⟨#[]⟩, .int .i64 0, .int .i64 0] := by kernel_rfl
theorem ag175 : agT Try.prog 175 = some false := by kernel_rfl
theorem ldA175 : ldA Try.prog 175 = false := by kernel_rfl
theorem ldS175 : ldS Try.prog 175 = true := by kernel_rfl
theorem nz175 : nzT Try.prog 175 = [some 3] := by kernel_rfl
theorem nze175 : nzE Try.prog 175 = [none, none, none] := by kernel_rfl
theorem sz175 : szT Try.prog 175 = some 1 := by kernel_rfl
theorem szn175 : szN Try.prog 175 = 1 := by kernel_rfl
theorem zv175 : zvT Try.prog 175 = some [.slice none 0 0] := by kernel_rfl
theorem ag176 : agT Try.prog 176 = some true := by kernel_rfl
theorem ldA176 : ldA Try.prog 176 = true := by kernel_rfl
theorem nz176 : nzT Try.prog 176 = [none, some 3] := by kernel_rfl
theorem sz176 : szT Try.prog 176 = some 2 := by kernel_rfl
theorem szn176 : szN Try.prog 176 = 2 := by kernel_rfl
theorem zv176 : zvT Try.prog 176 = some [.int .i64 0, .slice none 0 0] := by kernel_rfl
theorem bd176 : bdOk Try.prog 176 = true := by kernel_rfl
theorem pl176_0 : plT Try.prog 176 0 = some (0, 1) := by kernel_rfl
theorem pl176_1 : plT Try.prog 176 1 = some (1, 1) := by kernel_rfl
theorem fo176_0 : fdO Try.prog 176 0 = 0 := by kernel_rfl
theorem fn176_0 : fdN Try.prog 176 0 = 1 := by kernel_rfl
theorem fk176_0 : fdOk Try.prog 176 0 = true := by kernel_rfl
theorem fs176_0 : fdS Try.prog 176 0 = true := by kernel_rfl
theorem fo176_1 : fdO Try.prog 176 1 = 1 := by kernel_rfl
theorem fn176_1 : fdN Try.prog 176 1 = 1 := by kernel_rfl
theorem fk176_1 : fdOk Try.prog 176 1 = true := by kernel_rfl
theorem fs176_1 : fdS Try.prog 176 1 = true := by kernel_rfl
theorem ag177 : agT Try.prog 177 = some true := by kernel_rfl
theorem ldA177 : ldA Try.prog 177 = true := by kernel_rfl
theorem nz177 : nzT Try.prog 177 = [none, some 3] := by kernel_rfl
theorem sz177 : szT Try.prog 177 = some 2 := by kernel_rfl
theorem szn177 : szN Try.prog 177 = 2 := by kernel_rfl
theorem zv177 : zvT Try.prog 177 = some [.int .i64 0, .slice none 0 0] := by kernel_rfl
theorem bd177 : bdOk Try.prog 177 = true := by kernel_rfl
theorem pl177_0 : plT Try.prog 177 0 = some (0, 1) := by kernel_rfl
theorem pl177_1 : plT Try.prog 177 1 = some (1, 1) := by kernel_rfl
theorem fo177_0 : fdO Try.prog 177 0 = 0 := by kernel_rfl
theorem fn177_0 : fdN Try.prog 177 0 = 1 := by kernel_rfl
theorem fk177_0 : fdOk Try.prog 177 0 = true := by kernel_rfl
theorem fs177_0 : fdS Try.prog 177 0 = true := by kernel_rfl
theorem fo177_1 : fdO Try.prog 177 1 = 1 := by kernel_rfl
theorem fn177_1 : fdN Try.prog 177 1 = 1 := by kernel_rfl
theorem fk177_1 : fdOk Try.prog 177 1 = true := by kernel_rfl
theorem fs177_1 : fdS Try.prog 177 1 = true := by kernel_rfl
theorem ag202 : agT Try.prog 202 = some false := by kernel_rfl
theorem ldA202 : ldA Try.prog 202 = false := by kernel_rfl
theorem ldS202 : ldS Try.prog 202 = true := by kernel_rfl
theorem nz202 : nzT Try.prog 202 = [none] := by kernel_rfl
theorem sz202 : szT Try.prog 202 = some 1 := by kernel_rfl
theorem szn202 : szN Try.prog 202 = 1 := by kernel_rfl
theorem zv202 : zvT Try.prog 202 = some [.int .u64 0] := by kernel_rfl
theorem int202 : intKd Try.prog 202 = some .u64 := by kernel_rfl
theorem ag204 : agT Try.prog 204 = some true := by kernel_rfl
theorem ldA204 : ldA Try.prog 204 = true := by kernel_rfl
theorem nz204 : nzT Try.prog 204 = [none, none, none] := by kernel_rfl
theorem sz204 : szT Try.prog 204 = some 3 := by kernel_rfl
theorem szn204 : szN Try.prog 204 = 3 := by kernel_rfl
theorem zv204 : zvT Try.prog 204 = some [.string ⟨#[]⟩, .int .i64 0, .int .i64 0] := by kernel_rfl
theorem bd204 : bdOk Try.prog 204 = true := by kernel_rfl
theorem pl204_0 : plT Try.prog 204 0 = some (0, 1) := by kernel_rfl
theorem pl204_1 : plT Try.prog 204 1 = some (1, 1) := by kernel_rfl
theorem pl204_2 : plT Try.prog 204 2 = some (2, 1) := by kernel_rfl
theorem fo204_0 : fdO Try.prog 204 0 = 0 := by kernel_rfl
theorem fn204_0 : fdN Try.prog 204 0 = 1 := by kernel_rfl
theorem fk204_0 : fdOk Try.prog 204 0 = true := by kernel_rfl
theorem fs204_0 : fdS Try.prog 204 0 = true := by kernel_rfl
theorem fo204_1 : fdO Try.prog 204 1 = 1 := by kernel_rfl
theorem fn204_1 : fdN Try.prog 204 1 = 1 := by kernel_rfl
theorem fk204_1 : fdOk Try.prog 204 1 = true := by kernel_rfl
theorem fs204_1 : fdS Try.prog 204 1 = true := by kernel_rfl
theorem fo204_2 : fdO Try.prog 204 2 = 2 := by kernel_rfl
theorem fn204_2 : fdN Try.prog 204 2 = 1 := by kernel_rfl
theorem fk204_2 : fdOk Try.prog 204 2 = true := by kernel_rfl
theorem fs204_2 : fdS Try.prog 204 2 = true := by kernel_rfl
theorem ag209 : agT Try.prog 209 = some true := by kernel_rfl
theorem ldA209 : ldA Try.prog 209 = true := by kernel_rfl
theorem nz209 : nzT Try.prog 209 = [none, none, none, none] := by kernel_rfl
theorem sz209 : szT Try.prog 209 = some 4 := by kernel_rfl
theorem szn209 : szN Try.prog 209 = 4 := by kernel_rfl
theorem zv209 : zvT Try.prog 209 = some [.pointer none, .pointer none, .pointer none, .string ⟨#[]⟩] := by kernel_rfl
theorem bd209 : bdOk Try.prog 209 = true := by kernel_rfl
theorem pl209_0 : plT Try.prog 209 0 = some (0, 1) := by kernel_rfl
theorem pl209_1 : plT Try.prog 209 1 = some (1, 1) := by kernel_rfl
theorem pl209_2 : plT Try.prog 209 2 = some (2, 1) := by kernel_rfl
theorem pl209_3 : plT Try.prog 209 3 = some (3, 1) := by kernel_rfl
theorem fo209_0 : fdO Try.prog 209 0 = 0 := by kernel_rfl
theorem fn209_0 : fdN Try.prog 209 0 = 1 := by kernel_rfl
theorem fk209_0 : fdOk Try.prog 209 0 = true := by kernel_rfl
theorem fs209_0 : fdS Try.prog 209 0 = true := by kernel_rfl
theorem fo209_1 : fdO Try.prog 209 1 = 1 := by kernel_rfl
theorem fn209_1 : fdN Try.prog 209 1 = 1 := by kernel_rfl
theorem fk209_1 : fdOk Try.prog 209 1 = true := by kernel_rfl
theorem fs209_1 : fdS Try.prog 209 1 = true := by kernel_rfl
theorem fo209_2 : fdO Try.prog 209 2 = 2 := by kernel_rfl
theorem fn209_2 : fdN Try.prog 209 2 = 1 := by kernel_rfl
theorem fk209_2 : fdOk Try.prog 209 2 = true := by kernel_rfl
theorem fs209_2 : fdS Try.prog 209 2 = true := by kernel_rfl
theorem fo209_3 : fdO Try.prog 209 3 = 3 := by kernel_rfl
theorem fn209_3 : fdN Try.prog 209 3 = 1 := by kernel_rfl
theorem fk209_3 : fdOk Try.prog 209 3 = true := by kernel_rfl
theorem fs209_3 : fdS Try.prog 209 3 = true := by kernel_rfl
theorem ag210 : agT Try.prog 210 = some true := by kernel_rfl
theorem ldA210 : ldA Try.prog 210 = true := by kernel_rfl
theorem nz210 : nzT Try.prog 210 = [none, none, none, none] := by kernel_rfl
theorem sz210 : szT Try.prog 210 = some 4 := by kernel_rfl
theorem szn210 : szN Try.prog 210 = 4 := by kernel_rfl
theorem zv210 : zvT Try.prog 210 = some [.pointer none, .pointer none, .pointer none, .string ⟨#[]⟩] := by kernel_rfl
theorem bd210 : bdOk Try.prog 210 = true := by kernel_rfl
theorem pl210_0 : plT Try.prog 210 0 = some (0, 1) := by kernel_rfl
theorem pl210_1 : plT Try.prog 210 1 = some (1, 1) := by kernel_rfl
theorem pl210_2 : plT Try.prog 210 2 = some (2, 1) := by kernel_rfl
theorem pl210_3 : plT Try.prog 210 3 = some (3, 1) := by kernel_rfl
theorem fo210_0 : fdO Try.prog 210 0 = 0 := by kernel_rfl
theorem fn210_0 : fdN Try.prog 210 0 = 1 := by kernel_rfl
theorem fk210_0 : fdOk Try.prog 210 0 = true := by kernel_rfl
theorem fs210_0 : fdS Try.prog 210 0 = true := by kernel_rfl
theorem fo210_1 : fdO Try.prog 210 1 = 1 := by kernel_rfl
theorem fn210_1 : fdN Try.prog 210 1 = 1 := by kernel_rfl
theorem fk210_1 : fdOk Try.prog 210 1 = true := by kernel_rfl
theorem fs210_1 : fdS Try.prog 210 1 = true := by kernel_rfl
theorem fo210_2 : fdO Try.prog 210 2 = 2 := by kernel_rfl
theorem fn210_2 : fdN Try.prog 210 2 = 1 := by kernel_rfl
theorem fk210_2 : fdOk Try.prog 210 2 = true := by kernel_rfl
theorem fs210_2 : fdS Try.prog 210 2 = true := by kernel_rfl
theorem fo210_3 : fdO Try.prog 210 3 = 3 := by kernel_rfl
theorem fn210_3 : fdN Try.prog 210 3 = 1 := by kernel_rfl
theorem fk210_3 : fdOk Try.prog 210 3 = true := by kernel_rfl
theorem fs210_3 : fdS Try.prog 210 3 = true := by kernel_rfl
theorem ag211 : agT Try.prog 211 = some true := by kernel_rfl
theorem ldA211 : ldA Try.prog 211 = true := by kernel_rfl
theorem nz211 : nzT Try.prog 211 = [] := by kernel_rfl
theorem sz211 : szT Try.prog 211 = some 0 := by kernel_rfl
theorem szn211 : szN Try.prog 211 = 0 := by kernel_rfl
theorem bd211 : bdOk Try.prog 211 = true := by kernel_rfl
theorem ag212 : agT Try.prog 212 = some true := by kernel_rfl
theorem ldA212 : ldA Try.prog 212 = true := by kernel_rfl
theorem nz212 : nzT Try.prog 212 = [] := by kernel_rfl
theorem sz212 : szT Try.prog 212 = some 0 := by kernel_rfl
theorem szn212 : szN Try.prog 212 = 0 := by kernel_rfl
theorem bd212 : bdOk Try.prog 212 = true := by kernel_rfl
theorem pl212_0 : plT Try.prog 212 0 = some (0, 0) := by kernel_rfl
theorem fo212_0 : fdO Try.prog 212 0 = 0 := by kernel_rfl
theorem fn212_0 : fdN Try.prog 212 0 = 0 := by kernel_rfl
theorem ag213 : agT Try.prog 213 = some true := by kernel_rfl
theorem ldA213 : ldA Try.prog 213 = true := by kernel_rfl
theorem nz213 : nzT Try.prog 213 = [] := by kernel_rfl
theorem sz213 : szT Try.prog 213 = some 0 := by kernel_rfl
theorem szn213 : szN Try.prog 213 = 0 := by kernel_rfl
theorem bd213 : bdOk Try.prog 213 = true := by kernel_rfl
theorem pl213_0 : plT Try.prog 213 0 = some (0, 0) := by kernel_rfl
theorem fo213_0 : fdO Try.prog 213 0 = 0 := by kernel_rfl
theorem fn213_0 : fdN Try.prog 213 0 = 0 := by kernel_rfl
theorem ag214 : agT Try.prog 214 = some false := by kernel_rfl
theorem ldA214 : ldA Try.prog 214 = false := by kernel_rfl
theorem ldS214 : ldS Try.prog 214 = true := by kernel_rfl
theorem nz214 : nzT Try.prog 214 = [none] := by kernel_rfl
theorem sz214 : szT Try.prog 214 = some 1 := by kernel_rfl
theorem szn214 : szN Try.prog 214 = 1 := by kernel_rfl
theorem zv214 : zvT Try.prog 214 = some [.int .u32 0] := by kernel_rfl
theorem int214 : intKd Try.prog 214 = some .u32 := by kernel_rfl
theorem ag215 : agT Try.prog 215 = some false := by kernel_rfl
theorem ldA215 : ldA Try.prog 215 = false := by kernel_rfl
theorem ldS215 : ldS Try.prog 215 = true := by kernel_rfl
theorem nz215 : nzT Try.prog 215 = [none] := by kernel_rfl
theorem sz215 : szT Try.prog 215 = some 1 := by kernel_rfl
theorem szn215 : szN Try.prog 215 = 1 := by kernel_rfl
theorem zv215 : zvT Try.prog 215 = some [.int .u8 0] := by kernel_rfl
theorem int215 : intKd Try.prog 215 = some .u8 := by kernel_rfl
theorem ag216 : agT Try.prog 216 = some false := by kernel_rfl
theorem ldA216 : ldA Try.prog 216 = false := by kernel_rfl
theorem ldS216 : ldS Try.prog 216 = true := by kernel_rfl
theorem nz216 : nzT Try.prog 216 = [none] := by kernel_rfl
theorem sz216 : szT Try.prog 216 = some 1 := by kernel_rfl
theorem szn216 : szN Try.prog 216 = 1 := by kernel_rfl
theorem zv216 : zvT Try.prog 216 = some [.int .u8 0] := by kernel_rfl
theorem int216 : intKd Try.prog 216 = some .u8 := by kernel_rfl
theorem ag218 : agT Try.prog 218 = some false := by kernel_rfl
theorem ldA218 : ldA Try.prog 218 = false := by kernel_rfl
theorem ldS218 : ldS Try.prog 218 = true := by kernel_rfl
theorem nz218 : nzT Try.prog 218 = [none] := by kernel_rfl
theorem sz218 : szT Try.prog 218 = some 1 := by kernel_rfl
theorem szn218 : szN Try.prog 218 = 1 := by kernel_rfl
theorem zv218 : zvT Try.prog 218 = some [.pointer none] := by kernel_rfl
theorem ag219 : agT Try.prog 219 = some false := by kernel_rfl
theorem ldA219 : ldA Try.prog 219 = false := by kernel_rfl
theorem ldS219 : ldS Try.prog 219 = true := by kernel_rfl
theorem nz219 : nzT Try.prog 219 = [none] := by kernel_rfl
theorem sz219 : szT Try.prog 219 = some 1 := by kernel_rfl
theorem szn219 : szN Try.prog 219 = 1 := by kernel_rfl
theorem zv219 : zvT Try.prog 219 = some [.int .i32 0] := by kernel_rfl
theorem int219 : intKd Try.prog 219 = some .i32 := by kernel_rfl
theorem ag220 : agT Try.prog 220 = some false := by kernel_rfl
theorem ldA220 : ldA Try.prog 220 = false := by kernel_rfl
theorem ldS220 : ldS Try.prog 220 = true := by kernel_rfl
theorem nz220 : nzT Try.prog 220 = [none] := by kernel_rfl
theorem sz220 : szT Try.prog 220 = some 1 := by kernel_rfl
theorem szn220 : szN Try.prog 220 = 1 := by kernel_rfl
theorem zv220 : zvT Try.prog 220 = some [.int .i32 0] := by kernel_rfl
theorem int220 : intKd Try.prog 220 = some .i32 := by kernel_rfl
theorem ag221 : agT Try.prog 221 = some true := by kernel_rfl
theorem ldA221 : ldA Try.prog 221 = true := by kernel_rfl
theorem nz221 : nzT Try.prog 221 = [none, none, none, none, none, none, none, none, none, none, none] := by kernel_rfl
theorem sz221 : szT Try.prog 221 = some 11 := by kernel_rfl
theorem szn221 : szN Try.prog 221 = 11 := by kernel_rfl
theorem zv221 : zvT Try.prog 221 = some [.int .u64 0, .int .u64 0, .int .u32 0, .int .u8 0, .int .u8 0, .int .u8 0, .int .u8 0, .nilFunc, .pointer none, .int .i32 0, .int .i32 0] := by kernel_rfl
theorem bd221 : bdOk Try.prog 221 = true := by kernel_rfl
theorem pl221_0 : plT Try.prog 221 0 = some (0, 1) := by kernel_rfl
theorem pl221_1 : plT Try.prog 221 1 = some (1, 1) := by kernel_rfl
theorem pl221_2 : plT Try.prog 221 2 = some (2, 1) := by kernel_rfl
theorem pl221_3 : plT Try.prog 221 3 = some (3, 1) := by kernel_rfl
theorem pl221_4 : plT Try.prog 221 4 = some (4, 1) := by kernel_rfl
theorem pl221_5 : plT Try.prog 221 5 = some (5, 1) := by kernel_rfl
theorem pl221_6 : plT Try.prog 221 6 = some (6, 1) := by kernel_rfl
theorem pl221_8 : plT Try.prog 221 8 = some (8, 1) := by kernel_rfl
theorem pl221_9 : plT Try.prog 221 9 = some (9, 1) := by kernel_rfl
theorem pl221_10 : plT Try.prog 221 10 = some (10, 1) := by kernel_rfl
theorem fo221_0 : fdO Try.prog 221 0 = 0 := by kernel_rfl
theorem fn221_0 : fdN Try.prog 221 0 = 1 := by kernel_rfl
theorem fk221_0 : fdOk Try.prog 221 0 = true := by kernel_rfl
theorem fs221_0 : fdS Try.prog 221 0 = true := by kernel_rfl
theorem fo221_1 : fdO Try.prog 221 1 = 1 := by kernel_rfl
theorem fn221_1 : fdN Try.prog 221 1 = 1 := by kernel_rfl
theorem fk221_1 : fdOk Try.prog 221 1 = true := by kernel_rfl
theorem fs221_1 : fdS Try.prog 221 1 = true := by kernel_rfl
theorem fo221_2 : fdO Try.prog 221 2 = 2 := by kernel_rfl
theorem fn221_2 : fdN Try.prog 221 2 = 1 := by kernel_rfl
theorem fk221_2 : fdOk Try.prog 221 2 = true := by kernel_rfl
theorem fs221_2 : fdS Try.prog 221 2 = true := by kernel_rfl
theorem fo221_3 : fdO Try.prog 221 3 = 3 := by kernel_rfl
theorem fn221_3 : fdN Try.prog 221 3 = 1 := by kernel_rfl
theorem fk221_3 : fdOk Try.prog 221 3 = true := by kernel_rfl
theorem fs221_3 : fdS Try.prog 221 3 = true := by kernel_rfl
theorem fo221_4 : fdO Try.prog 221 4 = 4 := by kernel_rfl
theorem fn221_4 : fdN Try.prog 221 4 = 1 := by kernel_rfl
theorem fk221_4 : fdOk Try.prog 221 4 = true := by kernel_rfl
theorem fs221_4 : fdS Try.prog 221 4 = true := by kernel_rfl
theorem fo221_5 : fdO Try.prog 221 5 = 5 := by kernel_rfl
theorem fn221_5 : fdN Try.prog 221 5 = 1 := by kernel_rfl
theorem fk221_5 : fdOk Try.prog 221 5 = true := by kernel_rfl
theorem fs221_5 : fdS Try.prog 221 5 = true := by kernel_rfl
theorem fo221_6 : fdO Try.prog 221 6 = 6 := by kernel_rfl
theorem fn221_6 : fdN Try.prog 221 6 = 1 := by kernel_rfl
theorem fk221_6 : fdOk Try.prog 221 6 = true := by kernel_rfl
theorem fs221_6 : fdS Try.prog 221 6 = true := by kernel_rfl
theorem fo221_8 : fdO Try.prog 221 8 = 8 := by kernel_rfl
theorem fn221_8 : fdN Try.prog 221 8 = 1 := by kernel_rfl
theorem fk221_8 : fdOk Try.prog 221 8 = true := by kernel_rfl
theorem fs221_8 : fdS Try.prog 221 8 = true := by kernel_rfl
theorem fo221_9 : fdO Try.prog 221 9 = 9 := by kernel_rfl
theorem fn221_9 : fdN Try.prog 221 9 = 1 := by kernel_rfl
theorem fk221_9 : fdOk Try.prog 221 9 = true := by kernel_rfl
theorem fs221_9 : fdS Try.prog 221 9 = true := by kernel_rfl
theorem fo221_10 : fdO Try.prog 221 10 = 10 := by kernel_rfl
theorem fn221_10 : fdN Try.prog 221 10 = 1 := by kernel_rfl
theorem fk221_10 : fdOk Try.prog 221 10 = true := by kernel_rfl
theorem fs221_10 : fdS Try.prog 221 10 = true := by kernel_rfl
theorem ag222 : agT Try.prog 222 = some true := by kernel_rfl
theorem ldA222 : ldA Try.prog 222 = true := by kernel_rfl
theorem nz222 : nzT Try.prog 222 = [none, none, none, none, none, none, none, none, none, none, none] := by kernel_rfl
theorem sz222 : szT Try.prog 222 = some 11 := by kernel_rfl
theorem szn222 : szN Try.prog 222 = 11 := by kernel_rfl
theorem zv222 : zvT Try.prog 222 = some [.int .u64 0, .int .u64 0, .int .u32 0, .int .u8 0, .int .u8 0, .int .u8 0, .int .u8 0, .nilFunc, .pointer none, .int .i32 0, .int .i32 0] := by kernel_rfl
theorem bd222 : bdOk Try.prog 222 = true := by kernel_rfl
theorem pl222_0 : plT Try.prog 222 0 = some (0, 1) := by kernel_rfl
theorem pl222_1 : plT Try.prog 222 1 = some (1, 1) := by kernel_rfl
theorem pl222_2 : plT Try.prog 222 2 = some (2, 1) := by kernel_rfl
theorem pl222_3 : plT Try.prog 222 3 = some (3, 1) := by kernel_rfl
theorem pl222_4 : plT Try.prog 222 4 = some (4, 1) := by kernel_rfl
theorem pl222_5 : plT Try.prog 222 5 = some (5, 1) := by kernel_rfl
theorem pl222_6 : plT Try.prog 222 6 = some (6, 1) := by kernel_rfl
theorem pl222_8 : plT Try.prog 222 8 = some (8, 1) := by kernel_rfl
theorem pl222_9 : plT Try.prog 222 9 = some (9, 1) := by kernel_rfl
theorem pl222_10 : plT Try.prog 222 10 = some (10, 1) := by kernel_rfl
theorem fo222_0 : fdO Try.prog 222 0 = 0 := by kernel_rfl
theorem fn222_0 : fdN Try.prog 222 0 = 1 := by kernel_rfl
theorem fk222_0 : fdOk Try.prog 222 0 = true := by kernel_rfl
theorem fs222_0 : fdS Try.prog 222 0 = true := by kernel_rfl
theorem fo222_1 : fdO Try.prog 222 1 = 1 := by kernel_rfl
theorem fn222_1 : fdN Try.prog 222 1 = 1 := by kernel_rfl
theorem fk222_1 : fdOk Try.prog 222 1 = true := by kernel_rfl
theorem fs222_1 : fdS Try.prog 222 1 = true := by kernel_rfl
theorem fo222_2 : fdO Try.prog 222 2 = 2 := by kernel_rfl
theorem fn222_2 : fdN Try.prog 222 2 = 1 := by kernel_rfl
theorem fk222_2 : fdOk Try.prog 222 2 = true := by kernel_rfl
theorem fs222_2 : fdS Try.prog 222 2 = true := by kernel_rfl
theorem fo222_3 : fdO Try.prog 222 3 = 3 := by kernel_rfl
theorem fn222_3 : fdN Try.prog 222 3 = 1 := by kernel_rfl
theorem fk222_3 : fdOk Try.prog 222 3 = true := by kernel_rfl
theorem fs222_3 : fdS Try.prog 222 3 = true := by kernel_rfl
theorem fo222_4 : fdO Try.prog 222 4 = 4 := by kernel_rfl
theorem fn222_4 : fdN Try.prog 222 4 = 1 := by kernel_rfl
theorem fk222_4 : fdOk Try.prog 222 4 = true := by kernel_rfl
theorem fs222_4 : fdS Try.prog 222 4 = true := by kernel_rfl
theorem fo222_5 : fdO Try.prog 222 5 = 5 := by kernel_rfl
theorem fn222_5 : fdN Try.prog 222 5 = 1 := by kernel_rfl
theorem fk222_5 : fdOk Try.prog 222 5 = true := by kernel_rfl
theorem fs222_5 : fdS Try.prog 222 5 = true := by kernel_rfl
theorem fo222_6 : fdO Try.prog 222 6 = 6 := by kernel_rfl
theorem fn222_6 : fdN Try.prog 222 6 = 1 := by kernel_rfl
theorem fk222_6 : fdOk Try.prog 222 6 = true := by kernel_rfl
theorem fs222_6 : fdS Try.prog 222 6 = true := by kernel_rfl
theorem fo222_8 : fdO Try.prog 222 8 = 8 := by kernel_rfl
theorem fn222_8 : fdN Try.prog 222 8 = 1 := by kernel_rfl
theorem fk222_8 : fdOk Try.prog 222 8 = true := by kernel_rfl
theorem fs222_8 : fdS Try.prog 222 8 = true := by kernel_rfl
theorem fo222_9 : fdO Try.prog 222 9 = 9 := by kernel_rfl
theorem fn222_9 : fdN Try.prog 222 9 = 1 := by kernel_rfl
theorem fk222_9 : fdOk Try.prog 222 9 = true := by kernel_rfl
theorem fs222_9 : fdS Try.prog 222 9 = true := by kernel_rfl
theorem fo222_10 : fdO Try.prog 222 10 = 10 := by kernel_rfl
theorem fn222_10 : fdN Try.prog 222 10 = 1 := by kernel_rfl
theorem fk222_10 : fdOk Try.prog 222 10 = true := by kernel_rfl
theorem fs222_10 : fdS Try.prog 222 10 = true := by kernel_rfl
end Ty
end Go.Av
