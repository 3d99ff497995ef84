/- What the types of this translation are. -/
import Derived.Test.YtadbnllljincaaaAZzN
import Derived.Test.YtadbnllljincaaaProg
/-! What the types of this translation are. -/
namespace Go.Av
open Go.Proofs
namespace Ty
theorem ag2 : agT Try.prog 2 = some false := by kernel_rfl
theorem ldA2 : ldA Try.prog 2 = false := by kernel_rfl
theorem ldS2 : ldS Try.prog 2 = true := by kernel_rfl
theorem nz2 : nzT Try.prog 2 = [none] := by kernel_rfl
theorem sz2 : szT Try.prog 2 = some 1 := by kernel_rfl
theorem szn2 : szN Try.prog 2 = 1 := by kernel_rfl
theorem zv2 : zvT Try.prog 2 = some [.int .i64 0] := by kernel_rfl
theorem int2 : intKd Try.prog 2 = some .i64 := by kernel_rfl
theorem ag3 : agT Try.prog 3 = some false := by kernel_rfl
theorem ldA3 : ldA Try.prog 3 = false := by kernel_rfl
theorem ldS3 : ldS Try.prog 3 = true := by kernel_rfl
theorem nz3 : nzT Try.prog 3 = [none] := by kernel_rfl
theorem sz3 : szT Try.prog 3 = some 1 := by kernel_rfl
theorem szn3 : szN Try.prog 3 = 1 := by kernel_rfl
theorem zv3 : zvT Try.prog 3 = some [.int .i64 0] := by kernel_rfl
theorem int3 : intKd Try.prog 3 = some .i64 := by kernel_rfl
theorem ag4 : agT Try.prog 4 = some false := by kernel_rfl
theorem ldA4 : ldA Try.prog 4 = false := by kernel_rfl
theorem ldS4 : ldS Try.prog 4 = true := by kernel_rfl
theorem nz4 : nzT Try.prog 4 = [none] := by kernel_rfl
theorem sz4 : szT Try.prog 4 = some 1 := by kernel_rfl
theorem szn4 : szN Try.prog 4 = 1 := by kernel_rfl
theorem zv4 : zvT Try.prog 4 = some [.bool false] := by kernel_rfl
theorem bl4 : isBl Try.prog 4 = true := by kernel_rfl
theorem ag5 : agT Try.prog 5 = some false := by kernel_rfl
theorem ldA5 : ldA Try.prog 5 = false := by kernel_rfl
theorem ldS5 : ldS Try.prog 5 = true := by kernel_rfl
theorem nz5 : nzT Try.prog 5 = [none] := by kernel_rfl
theorem sz5 : szT Try.prog 5 = some 1 := by kernel_rfl
theorem szn5 : szN Try.prog 5 = 1 := by kernel_rfl
theorem zv5 : zvT Try.prog 5 = some [.int .u8 0] := by kernel_rfl
theorem int5 : intKd Try.prog 5 = some .u8 := by kernel_rfl
theorem ag6 : agT Try.prog 6 = some false := by kernel_rfl
theorem ldA6 : ldA Try.prog 6 = false := by kernel_rfl
theorem ldS6 : ldS Try.prog 6 = true := by kernel_rfl
theorem nz6 : nzT Try.prog 6 = [none] := by kernel_rfl
theorem sz6 : szT Try.prog 6 = some 1 := by kernel_rfl
theorem szn6 : szN Try.prog 6 = 1 := by kernel_rfl
theorem zv6 : zvT Try.prog 6 = some [.int .u8 0] := by kernel_rfl
theorem int6 : intKd Try.prog 6 = some .u8 := by kernel_rfl
theorem ag7 : agT Try.prog 7 = some true := by kernel_rfl
theorem ldA7 : ldA Try.prog 7 = true := by kernel_rfl
theorem nz7 : nzT Try.prog 7 = [none, none, none, none] := by kernel_rfl
theorem sz7 : szT Try.prog 7 = some 4 := by kernel_rfl
theorem szn7 : szN Try.prog 7 = 4 := by kernel_rfl
theorem zv7 : zvT Try.prog 7 = some [.int .i64 0, .int .i64 0, .bool false, .int .u8 0] := by kernel_rfl
theorem bd7 : bdOk Try.prog 7 = true := by kernel_rfl
theorem pl7_0 : plT Try.prog 7 0 = some (0, 1) := by kernel_rfl
theorem pl7_1 : plT Try.prog 7 1 = some (1, 1) := by kernel_rfl
theorem pl7_2 : plT Try.prog 7 2 = some (2, 1) := by kernel_rfl
theorem pl7_3 : plT Try.prog 7 3 = some (3, 1) := by kernel_rfl
theorem fo7_0 : fdO Try.prog 7 0 = 0 := by kernel_rfl
theorem fn7_0 : fdN Try.prog 7 0 = 1 := by kernel_rfl
theorem fk7_0 : fdOk Try.prog 7 0 = true := by kernel_rfl
theorem fs7_0 : fdS Try.prog 7 0 = true := by kernel_rfl
theorem fo7_1 : fdO Try.prog 7 1 = 1 := by kernel_rfl
theorem fn7_1 : fdN Try.prog 7 1 = 1 := by kernel_rfl
theorem fk7_1 : fdOk Try.prog 7 1 = true := by kernel_rfl
theorem fs7_1 : fdS Try.prog 7 1 = true := by kernel_rfl
theorem fo7_2 : fdO Try.prog 7 2 = 2 := by kernel_rfl
theorem fn7_2 : fdN Try.prog 7 2 = 1 := by kernel_rfl
theorem fk7_2 : fdOk Try.prog 7 2 = true := by kernel_rfl
theorem fs7_2 : fdS Try.prog 7 2 = true := by kernel_rfl
theorem fo7_3 : fdO Try.prog 7 3 = 3 := by kernel_rfl
theorem fn7_3 : fdN Try.prog 7 3 = 1 := by kernel_rfl
theorem fk7_3 : fdOk Try.prog 7 3 = true := by kernel_rfl
theorem fs7_3 : fdS Try.prog 7 3 = true := by kernel_rfl
theorem ag8 : agT Try.prog 8 = some true := by kernel_rfl
theorem ldA8 : ldA Try.prog 8 = true := by kernel_rfl
theorem nz8 : nzT Try.prog 8 = [none, none, none, none] := by kernel_rfl
theorem sz8 : szT Try.prog 8 = some 4 := by kernel_rfl
theorem szn8 : szN Try.prog 8 = 4 := by kernel_rfl
theorem zv8 : zvT Try.prog 8 = some [.int .i64 0, .int .i64 0, .bool false, .int .u8 0] := by kernel_rfl
theorem bd8 : bdOk Try.prog 8 = true := by kernel_rfl
theorem pl8_0 : plT Try.prog 8 0 = some (0, 1) := by kernel_rfl
theorem pl8_1 : plT Try.prog 8 1 = some (1, 1) := by kernel_rfl
theorem pl8_2 : plT Try.prog 8 2 = some (2, 1) := by kernel_rfl
theorem pl8_3 : plT Try.prog 8 3 = some (3, 1) := by kernel_rfl
theorem fo8_0 : fdO Try.prog 8 0 = 0 := by kernel_rfl
theorem fn8_0 : fdN Try.prog 8 0 = 1 := by kernel_rfl
theorem fk8_0 : fdOk Try.prog 8 0 = true := by kernel_rfl
theorem fs8_0 : fdS Try.prog 8 0 = true := by kernel_rfl
theorem fo8_1 : fdO Try.prog 8 1 = 1 := by kernel_rfl
theorem fn8_1 : fdN Try.prog 8 1 = 1 := by kernel_rfl
theorem fk8_1 : fdOk Try.prog 8 1 = true := by kernel_rfl
theorem fs8_1 : fdS Try.prog 8 1 = true := by kernel_rfl
theorem fo8_2 : fdO Try.prog 8 2 = 2 := by kernel_rfl
theorem fn8_2 : fdN Try.prog 8 2 = 1 := by kernel_rfl
theorem fk8_2 : fdOk Try.prog 8 2 = true := by kernel_rfl
theorem fs8_2 : fdS Try.prog 8 2 = true := by kernel_rfl
theorem fo8_3 : fdO Try.prog 8 3 = 3 := by kernel_rfl
theorem fn8_3 : fdN Try.prog 8 3 = 1 := by kernel_rfl
theorem fk8_3 : fdOk Try.prog 8 3 = true := by kernel_rfl
theorem fs8_3 : fdS Try.prog 8 3 = true := by kernel_rfl
theorem ag9 : agT Try.prog 9 = some false := by kernel_rfl
theorem ldA9 : ldA Try.prog 9 = false := by kernel_rfl
theorem ldS9 : ldS Try.prog 9 = true := by kernel_rfl
theorem nz9 : nzT Try.prog 9 = [none] := by kernel_rfl
theorem sz9 : szT Try.prog 9 = some 1 := by kernel_rfl
theorem szn9 : szN Try.prog 9 = 1 := by kernel_rfl
theorem zv9 : zvT Try.prog 9 = some [.string ⟨#[]⟩] := by kernel_rfl
theorem str9 : isStr Try.prog 9 = true := by kernel_rfl
theorem ag10 : agT Try.prog 10 = some false := by kernel_rfl
theorem ldA10 : ldA Try.prog 10 = false := by kernel_rfl
theorem ldS10 : ldS Try.prog 10 = true := by kernel_rfl
theorem nz10 : nzT Try.prog 10 = [none] := by kernel_rfl
theorem sz10 : szT Try.prog 10 = some 1 := by kernel_rfl
theorem szn10 : szN Try.prog 10 = 1 := by kernel_rfl
theorem zv10 : zvT Try.prog 10 = some [.string ⟨#[]⟩] := by kernel_rfl
theorem str10 : isStr Try.prog 10 = true := by kernel_rfl
theorem ag11 : agT Try.prog 11 = some false := by kernel_rfl
theorem ldA11 : ldA Try.prog 11 = false := by kernel_rfl
theorem ldS11 : ldS Try.prog 11 = true := by kernel_rfl
theorem nz11 : nzT Try.prog 11 = [none] := by kernel_rfl
theorem sz11 : szT Try.prog 11 = some 1 := by kernel_rfl
theorem szn11 : szN Try.prog 11 = 1 := by kernel_rfl
theorem zv11 : zvT Try.prog 11 = some [.string ⟨#[]⟩] := by kernel_rfl
theorem str11 : isStr Try.prog 11 = true := by kernel_rfl
theorem ag12 : agT Try.prog 12 = some false := by kernel_rfl
theorem ldA12 : ldA Try.prog 12 = false := by kernel_rfl
theorem ldS12 : ldS Try.prog 12 = true := by kernel_rfl
theorem nz12 : nzT Try.prog 12 = [none] := by kernel_rfl
theorem sz12 : szT Try.prog 12 = some 1 := by kernel_rfl
theorem szn12 : szN Try.prog 12 = 1 := by kernel_rfl
theorem zv12 : zvT Try.prog 12 = some [.int .u64 0] := by kernel_rfl
theorem int12 : intKd Try.prog 12 = some .u64 := by kernel_rfl
theorem ag13 : agT Try.prog 13 = some true := by kernel_rfl
theorem ldA13 : ldA Try.prog 13 = true := by kernel_rfl
theorem nz13 : nzT Try.prog 13 = [none, none] := by kernel_rfl
theorem sz13 : szT Try.prog 13 = some 2 := by kernel_rfl
theorem szn13 : szN Try.prog 13 = 2 := by kernel_rfl
theorem zv13 : zvT Try.prog 13 = some [.string ⟨#[]⟩, .int .u64 0] := by kernel_rfl
theorem bd13 : bdOk Try.prog 13 = true := by kernel_rfl
theorem pl13_0 : plT Try.prog 13 0 = some (0, 1) := by kernel_rfl
theorem pl13_1 : plT Try.prog 13 1 = some (1, 1) := by kernel_rfl
theorem fo13_0 : fdO Try.prog 13 0 = 0 := by kernel_rfl
theorem fn13_0 : fdN Try.prog 13 0 = 1 := by kernel_rfl
theorem fk13_0 : fdOk Try.prog 13 0 = true := by kernel_rfl
theorem fs13_0 : fdS Try.prog 13 0 = true := by kernel_rfl
theorem fo13_1 : fdO Try.prog 13 1 = 1 := by kernel_rfl
theorem fn13_1 : fdN Try.prog 13 1 = 1 := by kernel_rfl
theorem fk13_1 : fdOk Try.prog 13 1 = true := by kernel_rfl
theorem fs13_1 : fdS Try.prog 13 1 = true := by kernel_rfl
theorem ag14 : agT Try.prog 14 = some true := by kernel_rfl
theorem ldA14 : ldA Try.prog 14 = true := by kernel_rfl
theorem nz14 : nzT Try.prog 14 = [none, none] := by kernel_rfl
theorem sz14 : szT Try.prog 14 = some 2 := by kernel_rfl
theorem szn14 : szN Try.prog 14 = 2 := by kernel_rfl
theorem zv14 : zvT Try.prog 14 = some [.string ⟨#[]⟩, .int .u64 0] := by kernel_rfl
theorem bd14 : bdOk Try.prog 14 = true := by kernel_rfl
theorem pl14_0 : plT Try.prog 14 0 = some (0, 1) := by kernel_rfl
theorem pl14_1 : plT Try.prog 14 1 = some (1, 1) := by kernel_rfl
theorem fo14_0 : fdO Try.prog 14 0 = 0 := by kernel_rfl
theorem fn14_0 : fdN Try.prog 14 0 = 1 := by kernel_rfl
theorem fk14_0 : fdOk Try.prog 14 0 = true := by kernel_rfl
theorem fs14_0 : fdS Try.prog 14 0 = true := by kernel_rfl
theorem fo14_1 : fdO Try.prog 14 1 = 1 := by kernel_rfl
theorem fn14_1 : fdN Try.prog 14 1 = 1 := by kernel_rfl
theorem fk14_1 : fdOk Try.prog 14 1 = true := by kernel_rfl
theorem fs14_1 : fdS Try.prog 14 1 = true := by kernel_rfl
theorem ag15 : agT Try.prog 15 = some false := by kernel_rfl
theorem ldA15 : ldA Try.prog 15 = false := by kernel_rfl
theorem ldS15 : ldS Try.prog 15 = true := by kernel_rfl
theorem nz15 : nzT Try.prog 15 = [none] := by kernel_rfl
theorem sz15 : szT Try.prog 15 = some 1 := by kernel_rfl
theorem szn15 : szN Try.prog 15 = 1 := by kernel_rfl
theorem zv15 : zvT Try.prog 15 = some [.pointer none] := by kernel_rfl
theorem ag16 : agT Try.prog 16 = some false := by kernel_rfl
theorem ldA16 : ldA Try.prog 16 = false := by kernel_rfl
theorem ldS16 : ldS Try.prog 16 = true := by kernel_rfl
theorem nz16 : nzT Try.prog 16 = [none] := by kernel_rfl
theorem sz16 : szT Try.prog 16 = some 1 := by kernel_rfl
theorem szn16 : szN Try.prog 16 = 1 := by kernel_rfl
theorem zv16 : zvT Try.prog 16 = some [.pointer none] := by kernel_rfl
theorem ag17 : agT Try.prog 17 = some false := by kernel_rfl
theorem ldA17 : ldA Try.prog 17 = false := by kernel_rfl
theorem ldS17 : ldS Try.prog 17 = true := by kernel_rfl
theorem nz17 : nzT Try.prog 17 = [none] := by kernel_rfl
theorem sz17 : szT Try.prog 17 = some 1 := by kernel_rfl
theorem szn17 : szN Try.prog 17 = 1 := by kernel_rfl
theorem zv17 : zvT Try.prog 17 = some [.pointer none] := by kernel_rfl
theorem ag18 : agT Try.prog 18 = some true := by kernel_rfl
theorem ldA18 : ldA Try.prog 18 = true := by kernel_rfl
theorem nz18 : nzT Try.prog 18 = [none] := by kernel_rfl
theorem sz18 : szT Try.prog 18 = some 1 := by kernel_rfl
theorem szn18 : szN Try.prog 18 = 1 := by kernel_rfl
theorem zv18 : zvT Try.prog 18 = some [.pointer none] := by kernel_rfl
theorem bd18 : bdOk Try.prog 18 = true := by kernel_rfl
theorem pl18_0 : plT Try.prog 18 0 = some (0, 1) := by kernel_rfl
theorem fo18_0 : fdO Try.prog 18 0 = 0 := by kernel_rfl
theorem fn18_0 : fdN Try.prog 18 0 = 1 := by kernel_rfl
theorem fk18_0 : fdOk Try.prog 18 0 = true := by kernel_rfl
theorem fs18_0 : fdS Try.prog 18 0 = true := by kernel_rfl
theorem ag19 : agT Try.prog 19 = some true := by kernel_rfl
theorem ldA19 : ldA Try.prog 19 = true := by kernel_rfl
theorem nz19 : nzT Try.prog 19 = [none] := by kernel_rfl
theorem sz19 : szT Try.prog 19 = some 1 := by kernel_rfl
theorem szn19 : szN Try.prog 19 = 1 := by kernel_rfl
theorem zv19 : zvT Try.prog 19 = some [.pointer none] := by kernel_rfl
theorem bd19 : bdOk Try.prog 19 = true := by kernel_rfl
theorem pl19_0 : plT Try.prog 19 0 = some (0, 1) := by kernel_rfl
theorem fo19_0 : fdO Try.prog 19 0 = 0 := by kernel_rfl
theorem fn19_0 : fdN Try.prog 19 0 = 1 := by kernel_rfl
theorem fk19_0 : fdOk Try.prog 19 0 = true := by kernel_rfl
theorem fs19_0 : fdS Try.prog 19 0 = true := by kernel_rfl
theorem ag21 : agT Try.prog 21 = some false := by kernel_rfl
theorem ldA21 : ldA Try.prog 21 = false := by kernel_rfl
theorem ldS21 : ldS Try.prog 21 = true := by kernel_rfl
theorem nz21 : nzT Try.prog 21 = [none] := by kernel_rfl
theorem sz21 : szT Try.prog 21 = some 1 := by kernel_rfl
theorem szn21 : szN Try.prog 21 = 1 := by kernel_rfl
theorem zv21 : zvT Try.prog 21 = some [.int .i32 0] := by kernel_rfl
theorem int21 : intKd Try.prog 21 = some .i32 := by kernel_rfl
theorem sl22 : slT Try.prog 22 = some 4 := by kernel_rfl
theorem slz22 : slSz Try.prog 22 = 4 := by kernel_rfl
theorem zok22 : zOk Try.prog 22 = true := by kernel_rfl
theorem by22 : byN Try.prog 22 = 40 := by kernel_rfl
theorem zs22 : zsN Try.prog 22 = [.string ⟨#[]⟩, .int .i64 0, .int .i64 0, .int .i64 0] := by kernel_rfl
theorem ag22 : agT Try.prog 22 = some false := by kernel_rfl
theorem ldA22 : ldA Try.prog 22 = false := by kernel_rfl
theorem ldS22 : ldS Try.prog 22 = true := by kernel_rfl
theorem nz22 : nzT Try.prog 22 = [some 4] := by kernel_rfl
theorem nze22 : nzE Try.prog 22 = [none, none, none, none] := by kernel_rfl
theorem sz22 : szT Try.prog 22 = some 1 := by kernel_rfl
theorem szn22 : szN Try.prog 22 = 1 := by kernel_rfl
theorem zv22 : zvT Try.prog 22 = some [.slice none 0 0] := by kernel_rfl
theorem ag23 : agT Try.prog 23 = some true := by kernel_rfl
theorem ldA23 : ldA Try.prog 23 = true := by kernel_rfl
theorem nz23 : nzT Try.prog 23 = [none, none, some 4] := by kernel_rfl
theorem sz23 : szT Try.prog 23 = some 3 := by kernel_rfl
theorem szn23 : szN Try.prog 23 = 3 := by kernel_rfl
theorem zv23 : zvT Try.prog 23 = some [.int .i64 0, .int .i64 0, .slice none 0 0] := by kernel_rfl
theorem bd23 : bdOk Try.prog 23 = true := by kernel_rfl
theorem pl23_0 : plT Try.prog 23 0 = some (0, 1) := by kernel_rfl
theorem pl23_1 : plT Try.prog 23 1 = some (1, 1) := by kernel_rfl
theorem pl23_2 : plT Try.prog 23 2 = some (2, 1) := by kernel_rfl
theorem fo23_0 : fdO Try.prog 23 0 = 0 := by kernel_rfl
theorem fn23_0 : fdN Try.prog 23 0 = 1 := by kernel_rfl
theorem fk23_0 : fdOk Try.prog 23 0 = true := by kernel_rfl
theorem fs23_0 : fdS Try.prog 23 0 = true := by kernel_rfl
theorem fo23_1 : fdO Try.prog 23 1 = 1 := by kernel_rfl
theorem fn23_1 : fdN Try.prog 23 1 = 1 := by kernel_rfl
theorem fk23_1 : fdOk Try.prog 23 1 = true := by kernel_rfl
theorem fs23_1 : fdS Try.prog 23 1 = true := by kernel_rfl
theorem fo23_2 : fdO Try.prog 23 2 = 2 := by kernel_rfl
theorem fn23_2 : fdN Try.prog 23 2 = 1 := by kernel_rfl
theorem fk23_2 : fdOk Try.prog 23 2 = true := by kernel_rfl
theorem fs23_2 : fdS Try.prog 23 2 = true := by kernel_rfl
theorem ag24 : agT Try.prog 24 = some true := by kernel_rfl
theorem ldA24 : ldA Try.prog 24 = true := by kernel_rfl
theorem nz24 : nzT Try.prog 24 = [none, none, some 4] := by kernel_rfl
theorem sz24 : szT Try.prog 24 = some 3 := by kernel_rfl
theorem szn24 : szN Try.prog 24 = 3 := by kernel_rfl
theorem zv24 : zvT Try.prog 24 = some [.int .i64 0, .int .i64 0, .slice none 0 0] := by kernel_rfl
theorem bd24 : bdOk Try.prog 24 = true := by kernel_rfl
theorem pl24_0 : plT Try.prog 24 0 = some (0, 1) := by kernel_rfl
theorem pl24_1 : plT Try.prog 24 1 = some (1, 1) := by kernel_rfl
theorem pl24_2 : plT Try.prog 24 2 = some (2, 1) := by kernel_rfl
theorem fo24_0 : fdO Try.prog 24 0 = 0 := by kernel_rfl
theorem fn24_0 : fdN Try.prog 24 0 = 1 := by kernel_rfl
theorem fk24_0 : fdOk Try.prog 24 0 = true := by kernel_rfl
theorem fs24_0 : fdS Try.prog 24 0 = true := by kernel_rfl
theorem fo24_1 : fdO Try.prog 24 1 = 1 := by kernel_rfl
theorem fn24_1 : fdN Try.prog 24 1 = 1 := by kernel_rfl
theorem fk24_1 : fdOk Try.prog 24 1 = true := by kernel_rfl
theorem fs24_1 : fdS Try.prog 24 1 = true := by kernel_rfl
theorem fo24_2 : fdO Try.prog 24 2 = 2 := by kernel_rfl
theorem fn24_2 : fdN Try.prog 24 2 = 1 := by kernel_rfl
theorem fk24_2 : fdOk Try.prog 24 2 = true := by kernel_rfl
theorem fs24_2 : fdS Try.prog 24 2 = true := by kernel_rfl
theorem sl26 : slT Try.prog 26 = some 4 := by kernel_rfl
theorem slz26 : slSz Try.prog 26 = 4 := by kernel_rfl
theorem zok26 : zOk Try.prog 26 = true := by kernel_rfl
theorem by26 : byN Try.prog 26 = 40 := by kernel_rfl
theorem zs26 : zsN Try.prog 26 = [.string ⟨#[]⟩, .int .i64 0, .int .i64 0, .int .i64 0] := by kernel_rfl
theorem ag26 : agT Try.prog 26 = some false := by kernel_rfl
theorem ldA26 : ldA Try.prog 26 = false := by kernel_rfl
theorem ldS26 : ldS Try.prog 26 = true := by kernel_rfl
theorem nz26 : nzT Try.prog 26 = [some 4] := by kernel_rfl
theorem nze26 : nzE Try.prog 26 = [none, none, none, none] := by kernel_rfl
theorem sz26 : szT Try.prog 26 = some 1 := by kernel_rfl
theorem szn26 : szN Try.prog 26 = 1 := by kernel_rfl
theorem zv26 : zvT Try.prog 26 = some [.slice none 0 0] := by kernel_rfl
theorem ag27 : agT Try.prog 27 = some true := by kernel_rfl
theorem ldA27 : ldA Try.prog 27 = true := by kernel_rfl
theorem nz27 : nzT Try.prog 27 = [none, none, some 4] := by kernel_rfl
theorem sz27 : szT Try.prog 27 = some 3 := by kernel_rfl
theorem szn27 : szN Try.prog 27 = 3 := by kernel_rfl
theorem zv27 : zvT Try.prog 27 = some [.int .i64 0, .int .i64 0, .slice none 0 0] := by kernel_rfl
theorem bd27 : bdOk Try.prog 27 = true := by kernel_rfl
theorem pl27_0 : plT Try.prog 27 0 = some (0, 1) := by kernel_rfl
theorem pl27_1 : plT Try.prog 27 1 = some (1, 1) := by kernel_rfl
theorem pl27_2 : plT Try.prog 27 2 = some (2, 1) := by kernel_rfl
theorem fo27_0 : fdO Try.prog 27 0 = 0 := by kernel_rfl
theorem fn27_0 : fdN Try.prog 27 0 = 1 := by kernel_rfl
theorem fk27_0 : fdOk Try.prog 27 0 = true := by kernel_rfl
theorem fs27_0 : fdS Try.prog 27 0 = true := by kernel_rfl
theorem fo27_1 : fdO Try.prog 27 1 = 1 := by kernel_rfl
theorem fn27_1 : fdN Try.prog 27 1 = 1 := by kernel_rfl
theorem fk27_1 : fdOk Try.prog 27 1 = true := by kernel_rfl
theorem fs27_1 : fdS Try.prog 27 1 = true := by kernel_rfl
theorem fo27_2 : fdO Try.prog 27 2 = 2 := by kernel_rfl
theorem fn27_2 : fdN Try.prog 27 2 = 1 := by kernel_rfl
theorem fk27_2 : fdOk Try.prog 27 2 = true := by kernel_rfl
theorem fs27_2 : fdS Try.prog 27 2 = true := by kernel_rfl
theorem ag28 : agT Try.prog 28 = some true := by kernel_rfl
theorem ldA28 : ldA Try.prog 28 = true := by kernel_rfl
theorem nz28 : nzT Try.prog 28 = [none, none, some 4] := by kernel_rfl
theorem sz28 : szT Try.prog 28 = some 3 := by kernel_rfl
theorem szn28 : szN Try.prog 28 = 3 := by kernel_rfl
theorem zv28 : zvT Try.prog 28 = some [.int .i64 0, .int .i64 0, .slice none 0 0] := by kernel_rfl
theorem bd28 : bdOk Try.prog 28 = true := by kernel_rfl
theorem pl28_0 : plT Try.prog 28 0 = some (0, 1) := by kernel_rfl
theorem pl28_1 : plT Try.prog 28 1 = some (1, 1) := by kernel_rfl
theorem pl28_2 : plT Try.prog 28 2 = some (2, 1) := by kernel_rfl
theorem fo28_0 : fdO Try.prog 28 0 = 0 := by kernel_rfl
theorem fn28_0 : fdN Try.prog 28 0 = 1 := by kernel_rfl
theorem fk28_0 : fdOk Try.prog 28 0 = true := by kernel_rfl
theorem fs28_0 : fdS Try.prog 28 0 = true := by kernel_rfl
theorem fo28_1 : fdO Try.prog 28 1 = 1 := by kernel_rfl
theorem fn28_1 : fdN Try.prog 28 1 = 1 := by kernel_rfl
theorem fk28_1 : fdOk Try.prog 28 1 = true := by kernel_rfl
theorem fs28_1 : fdS Try.prog 28 1 = true := by kernel_rfl
theorem fo28_2 : fdO Try.prog 28 2 = 2 := by kernel_rfl
theorem fn28_2 : fdN Try.prog 28 2 = 1 := by kernel_rfl
theorem fk28_2 : fdOk Try.prog 28 2 = true := by kernel_rfl
theorem fs28_2 : fdS Try.prog 28 2 = true := by kernel_rfl
theorem sl35 : slT Try.prog 35 = some 1 := by kernel_rfl
theorem slz35 : slSz Try.prog 35 = 1 := by kernel_rfl
theorem zok35 : zOk Try.prog 35 = true := by kernel_rfl
theorem by35 : byN Try.prog 35 = 16 := by kernel_rfl
theorem zs35 : zsN Try.prog 35 = [.string ⟨#[]⟩] := by kernel_rfl
theorem ag35 : agT Try.prog 35 = some false := by kernel_rfl
theorem ldA35 : ldA Try.prog 35 = false := by kernel_rfl
theorem ldS35 : ldS Try.prog 35 = true := by kernel_rfl
theorem nz35 : nzT Try.prog 35 = [some 1] := by kernel_rfl
theorem nze35 : nzE Try.prog 35 = [none] := by kernel_rfl
theorem sz35 : szT Try.prog 35 = some 1 := by kernel_rfl
theorem szn35 : szN Try.prog 35 = 1 := by kernel_rfl
theorem zv35 : zvT Try.prog 35 = some [.slice none 0 0] := by kernel_rfl
theorem ag44 : agT Try.prog 44 = some true := by kernel_rfl
theorem ldA44 : ldA Try.prog 44 = true := by kernel_rfl
theorem nz44 : nzT Try.prog 44 = [none, none, none, none] := by kernel_rfl
theorem sz44 : szT Try.prog 44 = some 4 := by kernel_rfl
theorem szn44 : szN Try.prog 44 = 4 := by kernel_rfl
theorem zv44 : zvT Try.prog 44 = some [.string ⟨#[]⟩, .int .i64 0, .int .i64 0, .int .i64 0] := by kernel_rfl
theorem bd44 : bdOk Try.prog 44 = true := by kernel_rfl
theorem pl44_0 : plT Try.prog 44 0 = some (0, 1) := by kernel_rfl
theorem pl44_1 : plT Try.prog 44 1 = some (1, 1) := by kernel_rfl
theorem pl44_2 : plT Try.prog 44 2 = some (2, 1) := by kernel_rfl
theorem pl44_3 : plT Try.prog 44 3 = some (3, 1) := by kernel_rfl
theorem fo44_0 : fdO Try.prog 44 0 = 0 := by kernel_rfl
theorem fn44_0 : fdN Try.prog 44 0 = 1 := by kernel_rfl
theorem fk44_0 : fdOk Try.prog 44 0 = true := by kernel_rfl
theorem fs44_0 : fdS Try.prog 44 0 = true := by kernel_rfl
theorem fo44_1 : fdO Try.prog 44 1 = 1 := by kernel_rfl
theorem fn44_1 : fdN Try.prog 44 1 = 1 := by kernel_rfl
theorem fk44_1 : fdOk Try.prog 44 1 = true := by kernel_rfl
theorem fs44_1 : fdS Try.prog 44 1 = true := by kernel_rfl
theorem fo44_2 : fdO Try.prog 44 2 = 2 := by kernel_rfl
theorem fn44_2 : fdN Try.prog 44 2 = 1 := by kernel_rfl
theorem fk44_2 : fdOk Try.prog 44 2 = true := by kernel_rfl
theorem fs44_2 : fdS Try.prog 44 2 = true := by kernel_rfl
theorem fo44_3 : fdO Try.prog 44 3 = 3 := by kernel_rfl
theorem fn44_3 : fdN Try.prog 44 3 = 1 := by kernel_rfl
theorem fk44_3 : fdOk Try.prog 44 3 = true := by kernel_rfl
theorem fs44_3 : fdS Try.prog 44 3 = true := by kernel_rfl
theorem ag45 : agT Try.prog 45 = some true := by kernel_rfl
theorem ldA45 : ldA Try.prog 45 = true := by kernel_rfl
theorem nz45 : nzT Try.prog 45 = [none, none, none, none] := by kernel_rfl
theorem sz45 : szT Try.prog 45 = some 4 := by kernel_rfl
theorem szn45 : szN Try.prog 45 = 4 := by kernel_rfl
theorem zv45 : zvT Try.prog 45 = some [.string ⟨#[]⟩, .int .i64 0, .int .i64 0, .int .i64 0] := by kernel_rfl
theorem bd45 : bdOk Try.prog 45 = true := by kernel_rfl
theorem pl45_0 : plT Try.prog 45 0 = some (0, 1) := by kernel_rfl
theorem pl45_1 : plT Try.prog 45 1 = some (1, 1) := by kernel_rfl
theorem pl45_2 : plT Try.prog 45 2 = some (2, 1) := by kernel_rfl
theorem pl45_3 : plT Try.prog 45 3 = some (3, 1) := by kernel_rfl
theorem fo45_0 : fdO Try.prog 45 0 = 0 := by kernel_rfl
theorem fn45_0 : fdN Try.prog 45 0 = 1 := by kernel_rfl
theorem fk45_0 : fdOk Try.prog 45 0 = true := by kernel_rfl
theorem fs45_0 : fdS Try.prog 45 0 = true := by kernel_rfl
theorem fo45_1 : fdO Try.prog 45 1 = 1 := by kernel_rfl
theorem fn45_1 : fdN Try.prog 45 1 = 1 := by kernel_rfl
theorem fk45_1 : fdOk Try.prog 45 1 = true := by kernel_rfl
theorem fs45_1 : fdS Try.prog 45 1 = true := by kernel_rfl
theorem fo45_2 : fdO Try.prog 45 2 = 2 := by kernel_rfl
theorem fn45_2 : fdN Try.prog 45 2 = 1 := by kernel_rfl
theorem fk45_2 : fdOk Try.prog 45 2 = true := by kernel_rfl
theorem fs45_2 : fdS Try.prog 45 2 = true := by kernel_rfl
theorem fo45_3 : fdO Try.prog 45 3 = 3 := by kernel_rfl
theorem fn45_3 : fdN Try.prog 45 3 = 1 := by kernel_rfl
theorem fk45_3 : fdOk Try.prog 45 3 = true := by kernel_rfl
theorem fs45_3 : fdS Try.prog 45 3 = true := by kernel_rfl
theorem ag60 : agT Try.prog 60 = some true := by kernel_rfl
theorem ldA60 : ldA Try.prog 60 = true := by kernel_rfl
theorem nz60 : nzT Try.prog 60 = [none, none, none, none] := by kernel_rfl
theorem sz60 : szT Try.prog 60 = some 4 := by kernel_rfl
theorem szn60 : szN Try.prog 60 = 4 := by kernel_rfl
theorem zv60 : zvT Try.prog 60 = some [.string ⟨#[]⟩, .int .i64 0, .int .i64 0, .int .i64 0] := by kernel_rfl
theorem bd60 : bdOk Try.prog 60 = true := by kernel_rfl
theorem pl60_0 : plT Try.prog 60 0 = some (0, 1) := by kernel_rfl
theorem pl60_1 : plT Try.prog 60 1 = some (1, 1) := by kernel_rfl
theorem pl60_2 : plT Try.prog 60 2 = some (2, 1) := by kernel_rfl
theorem pl60_3 : plT Try.prog 60 3 = some (3, 1) := by kernel_rfl
theorem fo60_0 : fdO Try.prog 60 0 = 0 := by kernel_rfl
theorem fn60_0 : fdN Try.prog 60 0 = 1 := by kernel_rfl
theorem fk60_0 : fdOk Try.prog 60 0 = true := by kernel_rfl
theorem fs60_0 : fdS Try.prog 60 0 = true := by kernel_rfl
theorem fo60_1 : fdO Try.prog 60 1 = 1 := by kernel_rfl
theorem fn60_1 : fdN Try.prog 60 1 = 1 := by kernel_rfl
theorem fk60_1 : fdOk Try.prog 60 1 = true := by kernel_rfl
theorem fs60_1 : fdS Try.prog 60 1 = true := by kernel_rfl
theorem fo60_2 : fdO Try.prog 60 2 = 2 := by kernel_rfl
theorem fn60_2 : fdN Try.prog 60 2 = 1 := by kernel_rfl
theorem fk60_2 : fdOk Try.prog 60 2 = true := by kernel_rfl
theorem fs60_2 : fdS Try.prog 60 2 = true := by kernel_rfl
theorem fo60_3 : fdO Try.prog 60 3 = 3 := by kernel_rfl
theorem fn60_3 : fdN Try.prog 60 3 = 1 := by kernel_rfl
theorem fk60_3 : fdOk Try.prog 60 3 = true := by kernel_rfl
theorem fs60_3 : fdS Try.prog 60 3 = true := by kernel_rfl
theorem sl72 : slT Try.prog 72 = some 1 := by kernel_rfl
theorem slz72 : slSz Try.prog 72 = 1 := by kernel_rfl
theorem zok72 : zOk Try.prog 72 = true := by kernel_rfl
theorem by72 : byN Try.prog 72 = 1 := by kernel_rfl
theorem zs72 : zsN Try.prog 72 = [.int .u8 0] := by kernel_rfl
theorem ag72 : agT Try.prog 72 = some false := by kernel_rfl
theorem ldA72 : ldA Try.prog 72 = false := by kernel_rfl
theorem ldS72 : ldS Try.prog 72 = true := by kernel_rfl
theorem nz72 : nzT Try.prog 72 = [some 1] := by kernel_rfl
theorem nze72 : nzE Try.prog 72 = [none] := by kernel_rfl
theorem sz72 : szT Try.prog 72 = some 1 := by kernel_rfl
theorem szn72 : szN Try.prog 72 = 1 := by kernel_rfl
theorem zv72 : zvT Try.prog 72 = some [.slice none 0 0] := by kernel_rfl
theorem u872 : u8sl Try.prog 72 = true := by kernel_rfl
theorem ag74 : agT Try.prog 74 = some false := by kernel_rfl
theorem ldA74 : ldA Try.prog 74 = false := by kernel_rfl
theorem ldS74 : ldS Try.prog 74 = true := by kernel_rfl
theorem nz74 : nzT Try.prog 74 = [none] := by kernel_rfl
theorem sz74 : szT Try.prog 74 = some 1 := by kernel_rfl
theorem szn74 : szN Try.prog 74 = 1 := by kernel_rfl
theorem zv74 : zvT Try.prog 74 = some [.int .u64 0] := by kernel_rfl
theorem int74 : intKd Try.prog 74 = some .u64 := by kernel_rfl
theorem ag77 : agT Try.prog 77 = some true := by kernel_rfl
theorem ldA77 : ldA Try.prog 77 = true := by kernel_rfl
theorem nz77 : nzT Try.prog 77 = [none, none, none, none] := by kernel_rfl
theorem sz77 : szT Try.prog 77 = some 4 := by kernel_rfl
theorem szn77 : szN Try.prog 77 = 4 := by kernel_rfl
theorem zv77 : zvT Try.prog 77 = some [.pointer none, .pointer none, .pointer none, .string ⟨#[]⟩] := by kernel_rfl
theorem bd77 : bdOk Try.prog 77 = true := by kernel_rfl
theorem pl77_0 : plT Try.prog 77 0 = some (0, 1) := by kernel_rfl
theorem pl77_1 : plT Try.prog 77 1 = some (1, 1) := by kernel_rfl
theorem pl77_2 : plT Try.prog 77 2 = some (2, 1) := by kernel_rfl
theorem pl77_3 : plT Try.prog 77 3 = some (3, 1) := by kernel_rfl
theorem fo77_0 : fdO Try.prog 77 0 = 0 := by kernel_rfl
theorem fn77_0 : fdN Try.prog 77 0 = 1 := by kernel_rfl
theorem fk77_0 : fdOk Try.prog 77 0 = true := by kernel_rfl
theorem fs77_0 : fdS Try.prog 77 0 = true := by kernel_rfl
theorem fo77_1 : fdO Try.prog 77 1 = 1 := by kernel_rfl
theorem fn77_1 : fdN Try.prog 77 1 = 1 := by kernel_rfl
theorem fk77_1 : fdOk Try.prog 77 1 = true := by kernel_rfl
theorem fs77_1 : fdS Try.prog 77 1 = true := by kernel_rfl
theorem fo77_2 : fdO Try.prog 77 2 = 2 := by kernel_rfl
theorem fn77_2 : fdN Try.prog 77 2 = 1 := by kernel_rfl
theorem fk77_2 : fdOk Try.prog 77 2 = true := by kernel_rfl
theorem fs77_2 : fdS Try.prog 77 2 = true := by kernel_rfl
theorem fo77_3 : fdO Try.prog 77 3 = 3 := by kernel_rfl
theorem fn77_3 : fdN Try.prog 77 3 = 1 := by kernel_rfl
theorem fk77_3 : fdOk Try.prog 77 3 = true := by kernel_rfl
theorem fs77_3 : fdS Try.prog 77 3 = true := by kernel_rfl
theorem ag78 : agT Try.prog 78 = some true := by kernel_rfl
theorem ldA78 : ldA Try.prog 78 = true := by kernel_rfl
theorem nz78 : nzT Try.prog 78 = [none, none, none, none] := by kernel_rfl
theorem sz78 : szT Try.prog 78 = some 4 := by kernel_rfl
theorem szn78 : szN Try.prog 78 = 4 := by kernel_rfl
theorem zv78 : zvT Try.prog 78 = some [.pointer none, .pointer none, .pointer none, .string ⟨#[]⟩] := by kernel_rfl
theorem bd78 : bdOk Try.prog 78 = true := by kernel_rfl
theorem pl78_0 : plT Try.prog 78 0 = some (0, 1) := by kernel_rfl
theorem pl78_1 : plT Try.prog 78 1 = some (1, 1) := by kernel_rfl
theorem pl78_2 : plT Try.prog 78 2 = some (2, 1) := by kernel_rfl
theorem pl78_3 : plT Try.prog 78 3 = some (3, 1) := by kernel_rfl
theorem fo78_0 : fdO Try.prog 78 0 = 0 := by kernel_rfl
theorem fn78_0 : fdN Try.prog 78 0 = 1 := by kernel_rfl
theorem fk78_0 : fdOk Try.prog 78 0 = true := by kernel_rfl
theorem fs78_0 : fdS Try.prog 78 0 = true := by kernel_rfl
theorem fo78_1 : fdO Try.prog 78 1 = 1 := by kernel_rfl
theorem fn78_1 : fdN Try.prog 78 1 = 1 := by kernel_rfl
theorem fk78_1 : fdOk Try.prog 78 1 = true := by kernel_rfl
theorem fs78_1 : fdS Try.prog 78 1 = true := by kernel_rfl
theorem fo78_2 : fdO Try.prog 78 2 = 2 := by kernel_rfl
theorem fn78_2 : fdN Try.prog 78 2 = 1 := by kernel_rfl
theorem fk78_2 : fdOk Try.prog 78 2 = true := by kernel_rfl
theorem fs78_2 : fdS Try.prog 78 2 = true := by kernel_rfl
theorem fo78_3 : fdO Try.prog 78 3 = 3 := by kernel_rfl
theorem fn78_3 : fdN Try.prog 78 3 = 1 := by kernel_rfl
theorem fk78_3 : fdOk Try.prog 78 3 = true := by kernel_rfl
theorem fs78_3 : fdS Try.prog 78 3 = true := by kernel_rfl
theorem ag79 : agT Try.prog 79 = some true := by kernel_rfl
theorem ldA79 : ldA Try.prog 79 = true := by kernel_rfl
theorem nz79 : nzT Try.prog 79 = [] := by kernel_rfl
theorem sz79 : szT Try.prog 79 = some 0 := by kernel_rfl
theorem szn79 : szN Try.prog 79 = 0 := by kernel_rfl
theorem bd79 : bdOk Try.prog 79 = true := by kernel_rfl
theorem ag80 : agT Try.prog 80 = some true := by kernel_rfl
theorem ldA80 : ldA Try.prog 80 = true := by kernel_rfl
theorem nz80 : nzT Try.prog 80 = [] := by kernel_rfl
theorem sz80 : szT Try.prog 80 = some 0 := by kernel_rfl
theorem szn80 : szN Try.prog 80 = 0 := by kernel_rfl
theorem bd80 : bdOk Try.prog 80 = true := by kernel_rfl
theorem pl80_0 : plT Try.prog 80 0 = some (0, 0) := by kernel_rfl
theorem fo80_0 : fdO Try.prog 80 0 = 0 := by kernel_rfl
theorem fn80_0 : fdN Try.prog 80 0 = 0 := by kernel_rfl
theorem ag81 : agT Try.prog 81 = some true := by kernel_rfl
theorem ldA81 : ldA Try.prog 81 = true := by kernel_rfl
theorem nz81 : nzT Try.prog 81 = [] := by kernel_rfl
theorem sz81 : szT Try.prog 81 = some 0 := by kernel_rfl
theorem szn81 : szN Try.prog 81 = 0 := by kernel_rfl
theorem bd81 : bdOk Try.prog 81 = true := by kernel_rfl
theorem pl81_0 : plT Try.prog 81 0 = some (0, 0) := by kernel_rfl
theorem fo81_0 : fdO Try.prog 81 0 = 0 := by kernel_rfl
theorem fn81_0 : fdN Try.prog 81 0 = 0 := by kernel_rfl
theorem ag83 : agT Try.prog 83 = some false := by kernel_rfl
theorem ldA83 : ldA Try.prog 83 = false := by kernel_rfl
theorem ldS83 : ldS Try.prog 83 = true := by kernel_rfl
theorem nz83 : nzT Try.prog 83 = [none] := by kernel_rfl
theorem sz83 : szT Try.prog 83 = some 1 := by kernel_rfl
theorem szn83 : szN Try.prog 83 = 1 := by kernel_rfl
theorem zv83 : zvT Try.prog 83 = some [.int .u32 0] := by kernel_rfl
theorem int83 : intKd Try.prog 83 = some .u32 := by kernel_rfl
theorem ag84 : agT Try.prog 84 = some false := by kernel_rfl
theorem ldA84 : ldA Try.prog 84 = false := by kernel_rfl
theorem ldS84 : ldS Try.prog 84 = true := by kernel_rfl
theorem nz84 : nzT Try.prog 84 = [none] := by kernel_rfl
theorem sz84 : szT Try.prog 84 = some 1 := by kernel_rfl
theorem szn84 : szN Try.prog 84 = 1 := by kernel_rfl
theorem zv84 : zvT Try.prog 84 = some [.int .u8 0] := by kernel_rfl
theorem int84 : intKd Try.prog 84 = some .u8 := by kernel_rfl
theorem ag85 : agT Try.prog 85 = some false := by kernel_rfl
theorem ldA85 : ldA Try.prog 85 = false := by kernel_rfl
theorem ldS85 : ldS Try.prog 85 = true := by kernel_rfl
theorem nz85 : nzT Try.prog 85 = [none] := by kernel_rfl
theorem sz85 : szT Try.prog 85 = some 1 := by kernel_rfl
theorem szn85 : szN Try.prog 85 = 1 := by kernel_rfl
theorem zv85 : zvT Try.prog 85 = some [.int .u8 0] := by kernel_rfl
theorem int85 : intKd Try.prog 85 = some .u8 := by kernel_rfl
theorem ag87 : agT Try.prog 87 = some false := by kernel_rfl
theorem ldA87 : ldA Try.prog 87 = false := by kernel_rfl
theorem ldS87 : ldS Try.prog 87 = true := by kernel_rfl
theorem nz87 : nzT Try.prog 87 = [none] := by kernel_rfl
theorem sz87 : szT Try.prog 87 = some 1 := by kernel_rfl
theorem szn87 : szN Try.prog 87 = 1 := by kernel_rfl
theorem zv87 : zvT Try.prog 87 = some [.pointer none] := by kernel_rfl
theorem ag88 : agT Try.prog 88 = some false := by kernel_rfl
theorem ldA88 : ldA Try.prog 88 = false := by kernel_rfl
theorem ldS88 : ldS Try.prog 88 = true := by kernel_rfl
theorem nz88 : nzT Try.prog 88 = [none] := by kernel_rfl
theorem sz88 : szT Try.prog 88 = some 1 := by kernel_rfl
theorem szn88 : szN Try.prog 88 = 1 := by kernel_rfl
theorem zv88 : zvT Try.prog 88 = some [.int .i32 0] := by kernel_rfl
theorem int88 : intKd Try.prog 88 = some .i32 := by kernel_rfl
theorem ag89 : agT Try.prog 89 = some false := by kernel_rfl
theorem ldA89 : ldA Try.prog 89 = false := by kernel_rfl
theorem ldS89 : ldS Try.prog 89 = true := by kernel_rfl
theorem nz89 : nzT Try.prog 89 = [none] := by kernel_rfl
theorem sz89 : szT Try.prog 89 = some 1 := by kernel_rfl
theorem szn89 : szN Try.prog 89 = 1 := by kernel_rfl
theorem zv89 : zvT Try.prog 89 = some [.int .i32 0] := by kernel_rfl
theorem int89 : intKd Try.prog 89 = some .i32 := by kernel_rfl
theorem ag90 : agT Try.prog 90 = some true := by kernel_rfl
theorem ldA90 : ldA Try.prog 90 = true := by kernel_rfl
theorem nz90 : nzT Try.prog 90 = [none, none, none, none, none, none, none, none, none, none, none] := by kernel_rfl
theorem sz90 : szT Try.prog 90 = some 11 := by kernel_rfl
theorem szn90 : szN Try.prog 90 = 11 := by kernel_rfl
theorem zv90 : zvT Try.prog 90 = some [.int .u64 0, .int .u64 0, .int .u32 0, .int .u8 0, .int .u8 0, .int .u8 0, .int .u8 0, .nilFunc, .pointer none, .int .i32 0, .int .i32 0] := by kernel_rfl
theorem bd90 : bdOk Try.prog 90 = true := by kernel_rfl
theorem pl90_0 : plT Try.prog 90 0 = some (0, 1) := by kernel_rfl
theorem pl90_1 : plT Try.prog 90 1 = some (1, 1) := by kernel_rfl
theorem pl90_2 : plT Try.prog 90 2 = some (2, 1) := by kernel_rfl
theorem pl90_3 : plT Try.prog 90 3 = some (3, 1) := by kernel_rfl
theorem pl90_4 : plT Try.prog 90 4 = some (4, 1) := by kernel_rfl
theorem pl90_5 : plT Try.prog 90 5 = some (5, 1) := by kernel_rfl
theorem pl90_6 : plT Try.prog 90 6 = some (6, 1) := by kernel_rfl
theorem pl90_8 : plT Try.prog 90 8 = some (8, 1) := by kernel_rfl
theorem pl90_9 : plT Try.prog 90 9 = some (9, 1) := by kernel_rfl
theorem pl90_10 : plT Try.prog 90 10 = some (10, 1) := by kernel_rfl
theorem fo90_0 : fdO Try.prog 90 0 = 0 := by kernel_rfl
theorem fn90_0 : fdN Try.prog 90 0 = 1 := by kernel_rfl
theorem fk90_0 : fdOk Try.prog 90 0 = true := by kernel_rfl
theorem fs90_0 : fdS Try.prog 90 0 = true := by kernel_rfl
theorem fo90_1 : fdO Try.prog 90 1 = 1 := by kernel_rfl
theorem fn90_1 : fdN Try.prog 90 1 = 1 := by kernel_rfl
theorem fk90_1 : fdOk Try.prog 90 1 = true := by kernel_rfl
theorem fs90_1 : fdS Try.prog 90 1 = true := by kernel_rfl
theorem fo90_2 : fdO Try.prog 90 2 = 2 := by kernel_rfl
theorem fn90_2 : fdN Try.prog 90 2 = 1 := by kernel_rfl
theorem fk90_2 : fdOk Try.prog 90 2 = true := by kernel_rfl
theorem fs90_2 : fdS Try.prog 90 2 = true := by kernel_rfl
theorem fo90_3 : fdO Try.prog 90 3 = 3 := by kernel_rfl
theorem fn90_3 : fdN Try.prog 90 3 = 1 := by kernel_rfl
theorem fk90_3 : fdOk Try.prog 90 3 = true := by kernel_rfl
theorem fs90_3 : fdS Try.prog 90 3 = true := by kernel_rfl
theorem fo90_4 : fdO Try.prog 90 4 = 4 := by kernel_rfl
theorem fn90_4 : fdN Try.prog 90 4 = 1 := by kernel_rfl
theorem fk90_4 : fdOk Try.prog 90 4 = true := by kernel_rfl
theorem fs90_4 : fdS Try.prog 90 4 = true := by kernel_rfl
theorem fo90_5 : fdO Try.prog 90 5 = 5 := by kernel_rfl
theorem fn90_5 : fdN Try.prog 90 5 = 1 := by kernel_rfl
theorem fk90_5 : fdOk Try.prog 90 5 = true := by kernel_rfl
theorem fs90_5 : fdS Try.prog 90 5 = true := by kernel_rfl
theorem fo90_6 : fdO Try.prog 90 6 = 6 := by kernel_rfl
theorem fn90_6 : fdN Try.prog 90 6 = 1 := by kernel_rfl
theorem fk90_6 : fdOk Try.prog 90 6 = true := by kernel_rfl
theorem fs90_6 : fdS Try.prog 90 6 = true := by kernel_rfl
theorem fo90_8 : fdO Try.prog 90 8 = 8 := by kernel_rfl
theorem fn90_8 : fdN Try.prog 90 8 = 1 := by kernel_rfl
theorem fk90_8 : fdOk Try.prog 90 8 = true := by kernel_rfl
theorem fs90_8 : fdS Try.prog 90 8 = true := by kernel_rfl
theorem fo90_9 : fdO Try.prog 90 9 = 9 := by kernel_rfl
theorem fn90_9 : fdN Try.prog 90 9 = 1 := by kernel_rfl
theorem fk90_9 : fdOk Try.prog 90 9 = true := by kernel_rfl
theorem fs90_9 : fdS Try.prog 90 9 = true := by kernel_rfl
theorem fo90_10 : fdO Try.prog 90 10 = 10 := by kernel_rfl
theorem fn90_10 : fdN Try.prog 90 10 = 1 := by kernel_rfl
theorem fk90_10 : fdOk Try.prog 90 10 = true := by kernel_rfl
theorem fs90_10 : fdS Try.prog 90 10 = true := by kernel_rfl
theorem ag91 : agT Try.prog 91 = some true := by kernel_rfl
theorem ldA91 : ldA Try.prog 91 = true := by kernel_rfl
theorem nz91 : nzT Try.prog 91 = [none, none, none, none, none, none, none, none, none, none, none] := by kernel_rfl
theorem sz91 : szT Try.prog 91 = some 11 := by kernel_rfl
theorem szn91 : szN Try.prog 91 = 11 := by kernel_rfl
theorem zv91 : zvT Try.prog 91 = some [.int .u64 0, .int .u64 0, .int .u32 0, .int .u8 0, .int .u8 0, .int .u8 0, .int .u8 0, .nilFunc, .pointer none, .int .i32 0, .int .i32 0] := by kernel_rfl
theorem bd91 : bdOk Try.prog 91 = true := by kernel_rfl
theorem pl91_0 : plT Try.prog 91 0 = some (0, 1) := by kernel_rfl
theorem pl91_1 : plT Try.prog 91 1 = some (1, 1) := by kernel_rfl
theorem pl91_2 : plT Try.prog 91 2 = some (2, 1) := by kernel_rfl
theorem pl91_3 : plT Try.prog 91 3 = some (3, 1) := by kernel_rfl
theorem pl91_4 : plT Try.prog 91 4 = some (4, 1) := by kernel_rfl
theorem pl91_5 : plT Try.prog 91 5 = some (5, 1) := by kernel_rfl
theorem pl91_6 : plT Try.prog 91 6 = some (6, 1) := by kernel_rfl
theorem pl91_8 : plT Try.prog 91 8 = some (8, 1) := by kernel_rfl
theorem pl91_9 : plT Try.prog 91 9 = some (9, 1) := by kernel_rfl
theorem pl91_10 : plT Try.prog 91 10 = some (10, 1) := by kernel_rfl
theorem fo91_0 : fdO Try.prog 91 0 = 0 := by kernel_rfl
theorem fn91_0 : fdN Try.prog 91 0 = 1 := by kernel_rfl
theorem fk91_0 : fdOk Try.prog 91 0 = true := by kernel_rfl
theorem fs91_0 : fdS Try.prog 91 0 = true := by kernel_rfl
theorem fo91_1 : fdO Try.prog 91 1 = 1 := by kernel_rfl
theorem fn91_1 : fdN Try.prog 91 1 = 1 := by kernel_rfl
theorem fk91_1 : fdOk Try.prog 91 1 = true := by kernel_rfl
theorem fs91_1 : fdS Try.prog 91 1 = true := by kernel_rfl
theorem fo91_2 : fdO Try.prog 91 2 = 2 := by kernel_rfl
theorem fn91_2 : fdN Try.prog 91 2 = 1 := by kernel_rfl
theorem fk91_2 : fdOk Try.prog 91 2 = true := by kernel_rfl
theorem fs91_2 : fdS Try.prog 91 2 = true := by kernel_rfl
theorem fo91_3 : fdO Try.prog 91 3 = 3 := by kernel_rfl
theorem fn91_3 : fdN Try.prog 91 3 = 1 := by kernel_rfl
theorem fk91_3 : fdOk Try.prog 91 3 = true := by kernel_rfl
theorem fs91_3 : fdS Try.prog 91 3 = true := by kernel_rfl
theorem fo91_4 : fdO Try.prog 91 4 = 4 := by kernel_rfl
theorem fn91_4 : fdN Try.prog 91 4 = 1 := by kernel_rfl
theorem fk91_4 : fdOk Try.prog 91 4 = true := by kernel_rfl
theorem fs91_4 : fdS Try.prog 91 4 = true := by kernel_rfl
theorem fo91_5 : fdO Try.prog 91 5 = 5 := by kernel_rfl
theorem fn91_5 : fdN Try.prog 91 5 = 1 := by kernel_rfl
theorem fk91_5 : fdOk Try.prog 91 5 = true := by kernel_rfl
theorem fs91_5 : fdS Try.prog 91 5 = true := by kernel_rfl
theorem fo91_6 : fdO Try.prog 91 6 = 6 := by kernel_rfl
theorem fn91_6 : fdN Try.prog 91 6 = 1 := by kernel_rfl
theorem fk91_6 : fdOk Try.prog 91 6 = true := by kernel_rfl
theorem fs91_6 : fdS Try.prog 91 6 = true := by kernel_rfl
theorem fo91_8 : fdO Try.prog 91 8 = 8 := by kernel_rfl
theorem fn91_8 : fdN Try.prog 91 8 = 1 := by kernel_rfl
theorem fk91_8 : fdOk Try.prog 91 8 = true := by kernel_rfl
theorem fs91_8 : fdS Try.prog 91 8 = true := by kernel_rfl
theorem fo91_9 : fdO Try.prog 91 9 = 9 := by kernel_rfl
theorem fn91_9 : fdN Try.prog 91 9 = 1 := by kernel_rfl
theorem fk91_9 : fdOk Try.prog 91 9 = true := by kernel_rfl
theorem fs91_9 : fdS Try.prog 91 9 = true := by kernel_rfl
theorem fo91_10 : fdO Try.prog 91 10 = 10 := by kernel_rfl
theorem fn91_10 : fdN Try.prog 91 10 = 1 := by kernel_rfl
theorem fk91_10 : fdOk Try.prog 91 10 = true := by kernel_rfl
theorem fs91_10 : fdS Try.prog 91 10 = true := by kernel_rfl
end Ty
end Go.Av
