/- What the types of this translation are. -/
import Derived.Test.YtohjaenckkppaaaBZzN
import Derived.Test.YtohjaenckkppaaaProg
/-! What the types of this translation are. -/
namespace Go.Av
open Go.Proofs
namespace Ty
theorem ag2 : agT Try.prog 2 = some false := by kernel_rfl
theorem ldA2 : ldA Try.prog 2 = false := by kernel_rfl
theorem ldS2 : ldS Try.prog 2 = true := by kernel_rfl
theorem nz2 : nzT Try.prog 2 = [none] := by kernel_rfl
theorem sz2 : szT Try.prog 2 = some 1 := by kernel_rfl
theorem szn2 : szN Try.prog 2 = 1 := by kernel_rfl
theorem zv2 : zvT Try.prog 2 = some [.int .i64 0] := by kernel_rfl
theorem int2 : intKd Try.prog 2 = some .i64 := by kernel_rfl
theorem ag3 : agT Try.prog 3 = some false := by kernel_rfl
theorem ldA3 : ldA Try.prog 3 = false := by kernel_rfl
theorem ldS3 : ldS Try.prog 3 = true := by kernel_rfl
theorem nz3 : nzT Try.prog 3 = [none] := by kernel_rfl
theorem sz3 : szT Try.prog 3 = some 1 := by kernel_rfl
theorem szn3 : szN Try.prog 3 = 1 := by kernel_rfl
theorem zv3 : zvT Try.prog 3 = some [.int .i64 0] := by kernel_rfl
theorem int3 : intKd Try.prog 3 = some .i64 := by kernel_rfl
theorem ag4 : agT Try.prog 4 = some false := by kernel_rfl
theorem ldA4 : ldA Try.prog 4 = false := by kernel_rfl
theorem ldS4 : ldS Try.prog 4 = true := by kernel_rfl
theorem nz4 : nzT Try.prog 4 = [none] := by kernel_rfl
theorem sz4 : szT Try.prog 4 = some 1 := by kernel_rfl
theorem szn4 : szN Try.prog 4 = 1 := by kernel_rfl
theorem zv4 : zvT Try.prog 4 = some [.bool false] := by kernel_rfl
theorem bl4 : isBl Try.prog 4 = true := by kernel_rfl
theorem ag5 : agT Try.prog 5 = some false := by kernel_rfl
theorem ldA5 : ldA Try.prog 5 = false := by kernel_rfl
theorem ldS5 : ldS Try.prog 5 = true := by kernel_rfl
theorem nz5 : nzT Try.prog 5 = [none] := by kernel_rfl
theorem sz5 : szT Try.prog 5 = some 1 := by kernel_rfl
theorem szn5 : szN Try.prog 5 = 1 := by kernel_rfl
theorem zv5 : zvT Try.prog 5 = some [.int .u8 0] := by kernel_rfl
theorem int5 : intKd Try.prog 5 = some .u8 := by kernel_rfl
theorem ag6 : agT Try.prog 6 = some false := by kernel_rfl
theorem ldA6 : ldA Try.prog 6 = false := by kernel_rfl
theorem ldS6 : ldS Try.prog 6 = true := by kernel_rfl
theorem nz6 : nzT Try.prog 6 = [none] := by kernel_rfl
theorem sz6 : szT Try.prog 6 = some 1 := by kernel_rfl
theorem szn6 : szN Try.prog 6 = 1 := by kernel_rfl
theorem zv6 : zvT Try.prog 6 = some [.int .u8 0] := by kernel_rfl
theorem int6 : intKd Try.prog 6 = some .u8 := by kernel_rfl
theorem ag7 : agT Try.prog 7 = some true := by kernel_rfl
theorem ldA7 : ldA Try.prog 7 = true := by kernel_rfl
theorem nz7 : nzT Try.prog 7 = [none, none, none, none] := by kernel_rfl
theorem sz7 : szT Try.prog 7 = some 4 := by kernel_rfl
theorem szn7 : szN Try.prog 7 = 4 := by kernel_rfl
theorem zv7 : zvT Try.prog 7 = some [.int .i64 0, .int .i64 0, .bool false, .int .u8 0] := by kernel_rfl
theorem bd7 : bdOk Try.prog 7 = true := by kernel_rfl
theorem pl7_0 : plT Try.prog 7 0 = some (0, 1) := by kernel_rfl
theorem pl7_1 : plT Try.prog 7 1 = some (1, 1) := by kernel_rfl
theorem pl7_2 : plT Try.prog 7 2 = some (2, 1) := by kernel_rfl
theorem pl7_3 : plT Try.prog 7 3 = some (3, 1) := by kernel_rfl
theorem fo7_0 : fdO Try.prog 7 0 = 0 := by kernel_rfl
theorem fn7_0 : fdN Try.prog 7 0 = 1 := by kernel_rfl
theorem fk7_0 : fdOk Try.prog 7 0 = true := by kernel_rfl
theorem fs7_0 : fdS Try.prog 7 0 = true := by kernel_rfl
theorem fo7_1 : fdO Try.prog 7 1 = 1 := by kernel_rfl
theorem fn7_1 : fdN Try.prog 7 1 = 1 := by kernel_rfl
theorem fk7_1 : fdOk Try.prog 7 1 = true := by kernel_rfl
theorem fs7_1 : fdS Try.prog 7 1 = true := by kernel_rfl
theorem fo7_2 : fdO Try.prog 7 2 = 2 := by kernel_rfl
theorem fn7_2 : fdN Try.prog 7 2 = 1 := by kernel_rfl
theorem fk7_2 : fdOk Try.prog 7 2 = true := by kernel_rfl
theorem fs7_2 : fdS Try.prog 7 2 = true := by kernel_rfl
theorem fo7_3 : fdO Try.prog 7 3 = 3 := by kernel_rfl
theorem fn7_3 : fdN Try.prog 7 3 = 1 := by kernel_rfl
theorem fk7_3 : fdOk Try.prog 7 3 = true := by kernel_rfl
theorem fs7_3 : fdS Try.prog 7 3 = true := by kernel_rfl
theorem ag8 : agT Try.prog 8 = some true := by kernel_rfl
theorem ldA8 : ldA Try.prog 8 = true := by kernel_rfl
theorem nz8 : nzT Try.prog 8 = [none, none, none, none] := by kernel_rfl
theorem sz8 : szT Try.prog 8 = some 4 := by kernel_rfl
theorem szn8 : szN Try.prog 8 = 4 := by kernel_rfl
theorem zv8 : zvT Try.prog 8 = some [.int .i64 0, .int .i64 0, .bool false, .int .u8 0] := by kernel_rfl
theorem bd8 : bdOk Try.prog 8 = true := by kernel_rfl
theorem pl8_0 : plT Try.prog 8 0 = some (0, 1) := by kernel_rfl
theorem pl8_1 : plT Try.prog 8 1 = some (1, 1) := by kernel_rfl
theorem pl8_2 : plT Try.prog 8 2 = some (2, 1) := by kernel_rfl
theorem pl8_3 : plT Try.prog 8 3 = some (3, 1) := by kernel_rfl
theorem fo8_0 : fdO Try.prog 8 0 = 0 := by kernel_rfl
theorem fn8_0 : fdN Try.prog 8 0 = 1 := by kernel_rfl
theorem fk8_0 : fdOk Try.prog 8 0 = true := by kernel_rfl
theorem fs8_0 : fdS Try.prog 8 0 = true := by kernel_rfl
theorem fo8_1 : fdO Try.prog 8 1 = 1 := by kernel_rfl
theorem fn8_1 : fdN Try.prog 8 1 = 1 := by kernel_rfl
theorem fk8_1 : fdOk Try.prog 8 1 = true := by kernel_rfl
theorem fs8_1 : fdS Try.prog 8 1 = true := by kernel_rfl
theorem fo8_2 : fdO Try.prog 8 2 = 2 := by kernel_rfl
theorem fn8_2 : fdN Try.prog 8 2 = 1 := by kernel_rfl
theorem fk8_2 : fdOk Try.prog 8 2 = true := by kernel_rfl
theorem fs8_2 : fdS Try.prog 8 2 = true := by kernel_rfl
theorem fo8_3 : fdO Try.prog 8 3 = 3 := by kernel_rfl
theorem fn8_3 : fdN Try.prog 8 3 = 1 := by kernel_rfl
theorem fk8_3 : fdOk Try.prog 8 3 = true := by kernel_rfl
theorem fs8_3 : fdS Try.prog 8 3 = true := by kernel_rfl
theorem ag9 : agT Try.prog 9 = some false := by kernel_rfl
theorem ldA9 : ldA Try.prog 9 = false := by kernel_rfl
theorem ldS9 : ldS Try.prog 9 = true := by kernel_rfl
theorem nz9 : nzT Try.prog 9 = [none] := by kernel_rfl
theorem sz9 : szT Try.prog 9 = some 1 := by kernel_rfl
theorem szn9 : szN Try.prog 9 = 1 := by kernel_rfl
theorem zv9 : zvT Try.prog 9 = some [.string ⟨#[]⟩] := by kernel_rfl
theorem str9 : isStr Try.prog 9 = true := by kernel_rfl
theorem ag10 : agT Try.prog 10 = some false := by kernel_rfl
theorem ldA10 : ldA Try.prog 10 = false := by kernel_rfl
theorem ldS10 : ldS Try.prog 10 = true := by kernel_rfl
theorem nz10 : nzT Try.prog 10 = [none] := by kernel_rfl
theorem sz10 : szT Try.prog 10 = some 1 := by kernel_rfl
theorem szn10 : szN Try.prog 10 = 1 := by kernel_rfl
theorem zv10 : zvT Try.prog 10 = some [.string ⟨#[]⟩] := by kernel_rfl
theorem str10 : isStr Try.prog 10 = true := by kernel_rfl
theorem ag11 : agT Try.prog 11 = some false := by kernel_rfl
theorem ldA11 : ldA Try.prog 11 = false := by kernel_rfl
theorem ldS11 : ldS Try.prog 11 = true := by kernel_rfl
theorem nz11 : nzT Try.prog 11 = [none] := by kernel_rfl
theorem sz11 : szT Try.prog 11 = some 1 := by kernel_rfl
theorem szn11 : szN Try.prog 11 = 1 := by kernel_rfl
theorem zv11 : zvT Try.prog 11 = some [.string ⟨#[]⟩] := by kernel_rfl
theorem str11 : isStr Try.prog 11 = true := by kernel_rfl
theorem ag12 : agT Try.prog 12 = some false := by kernel_rfl
theorem ldA12 : ldA Try.prog 12 = false := by kernel_rfl
theorem ldS12 : ldS Try.prog 12 = true := by kernel_rfl
theorem nz12 : nzT Try.prog 12 = [none] := by kernel_rfl
theorem sz12 : szT Try.prog 12 = some 1 := by kernel_rfl
theorem szn12 : szN Try.prog 12 = 1 := by kernel_rfl
theorem zv12 : zvT Try.prog 12 = some [.int .u64 0] := by kernel_rfl
theorem int12 : intKd Try.prog 12 = some .u64 := by kernel_rfl
theorem ag13 : agT Try.prog 13 = some true := by kernel_rfl
theorem ldA13 : ldA Try.prog 13 = true := by kernel_rfl
theorem nz13 : nzT Try.prog 13 = [none, none] := by kernel_rfl
theorem sz13 : szT Try.prog 13 = some 2 := by kernel_rfl
theorem szn13 : szN Try.prog 13 = 2 := by kernel_rfl
theorem zv13 : zvT Try.prog 13 = some [.string ⟨#[]⟩, .int .u64 0] := by kernel_rfl
theorem bd13 : bdOk Try.prog 13 = true := by kernel_rfl
theorem pl13_0 : plT Try.prog 13 0 = some (0, 1) := by kernel_rfl
theorem pl13_1 : plT Try.prog 13 1 = some (1, 1) := by kernel_rfl
theorem fo13_0 : fdO Try.prog 13 0 = 0 := by kernel_rfl
theorem fn13_0 : fdN Try.prog 13 0 = 1 := by kernel_rfl
theorem fk13_0 : fdOk Try.prog 13 0 = true := by kernel_rfl
theorem fs13_0 : fdS Try.prog 13 0 = true := by kernel_rfl
theorem fo13_1 : fdO Try.prog 13 1 = 1 := by kernel_rfl
theorem fn13_1 : fdN Try.prog 13 1 = 1 := by kernel_rfl
theorem fk13_1 : fdOk Try.prog 13 1 = true := by kernel_rfl
theorem fs13_1 : fdS Try.prog 13 1 = true := by kernel_rfl
theorem ag14 : agT Try.prog 14 = some true := by kernel_rfl
theorem ldA14 : ldA Try.prog 14 = true := by kernel_rfl
theorem nz14 : nzT Try.prog 14 = [none, none] := by kernel_rfl
theorem sz14 : szT Try.prog 14 = some 2 := by kernel_rfl
theorem szn14 : szN Try.prog 14 = 2 := by kernel_rfl
theorem zv14 : zvT Try.prog 14 = some [.string ⟨#[]⟩, .int .u64 0] := by kernel_rfl
theorem bd14 : bdOk Try.prog 14 = true := by kernel_rfl
theorem pl14_0 : plT Try.prog 14 0 = some (0, 1) := by kernel_rfl
theorem pl14_1 : plT Try.prog 14 1 = some (1, 1) := by kernel_rfl
theorem fo14_0 : fdO Try.prog 14 0 = 0 := by kernel_rfl
theorem fn14_0 : fdN Try.prog 14 0 = 1 := by kernel_rfl
theorem fk14_0 : fdOk Try.prog 14 0 = true := by kernel_rfl
theorem fs14_0 : fdS Try.prog 14 0 = true := by kernel_rfl
theorem fo14_1 : fdO Try.prog 14 1 = 1 := by kernel_rfl
theorem fn14_1 : fdN Try.prog 14 1 = 1 := by kernel_rfl
theorem fk14_1 : fdOk Try.prog 14 1 = true := by kernel_rfl
theorem fs14_1 : fdS Try.prog 14 1 = true := by kernel_rfl
theorem ag15 : agT Try.prog 15 = some false := by kernel_rfl
theorem ldA15 : ldA Try.prog 15 = false := by kernel_rfl
theorem ldS15 : ldS Try.prog 15 = true := by kernel_rfl
theorem nz15 : nzT Try.prog 15 = [none] := by kernel_rfl
theorem sz15 : szT Try.prog 15 = some 1 := by kernel_rfl
theorem szn15 : szN Try.prog 15 = 1 := by kernel_rfl
theorem zv15 : zvT Try.prog 15 = some [.pointer none] := by kernel_rfl
theorem ag16 : agT Try.prog 16 = some false := by kernel_rfl
theorem ldA16 : ldA Try.prog 16 = false := by kernel_rfl
theorem ldS16 : ldS Try.prog 16 = true := by kernel_rfl
theorem nz16 : nzT Try.prog 16 = [none] := by kernel_rfl
theorem sz16 : szT Try.prog 16 = some 1 := by kernel_rfl
theorem szn16 : szN Try.prog 16 = 1 := by kernel_rfl
theorem zv16 : zvT Try.prog 16 = some [.pointer none] := by kernel_rfl
theorem ag17 : agT Try.prog 17 = some false := by kernel_rfl
theorem ldA17 : ldA Try.prog 17 = false := by kernel_rfl
theorem ldS17 : ldS Try.prog 17 = true := by kernel_rfl
theorem nz17 : nzT Try.prog 17 = [none] := by kernel_rfl
theorem sz17 : szT Try.prog 17 = some 1 := by kernel_rfl
theorem szn17 : szN Try.prog 17 = 1 := by kernel_rfl
theorem zv17 : zvT Try.prog 17 = some [.pointer none] := by kernel_rfl
theorem ag18 : agT Try.prog 18 = some true := by kernel_rfl
theorem ldA18 : ldA Try.prog 18 = true := by kernel_rfl
theorem nz18 : nzT Try.prog 18 = [none] := by kernel_rfl
theorem sz18 : szT Try.prog 18 = some 1 := by kernel_rfl
theorem szn18 : szN Try.prog 18 = 1 := by kernel_rfl
theorem zv18 : zvT Try.prog 18 = some [.pointer none] := by kernel_rfl
theorem bd18 : bdOk Try.prog 18 = true := by kernel_rfl
theorem pl18_0 : plT Try.prog 18 0 = some (0, 1) := by kernel_rfl
theorem fo18_0 : fdO Try.prog 18 0 = 0 := by kernel_rfl
theorem fn18_0 : fdN Try.prog 18 0 = 1 := by kernel_rfl
theorem fk18_0 : fdOk Try.prog 18 0 = true := by kernel_rfl
theorem fs18_0 : fdS Try.prog 18 0 = true := by kernel_rfl
theorem ag19 : agT Try.prog 19 = some true := by kernel_rfl
theorem ldA19 : ldA Try.prog 19 = true := by kernel_rfl
theorem nz19 : nzT Try.prog 19 = [none] := by kernel_rfl
theorem sz19 : szT Try.prog 19 = some 1 := by kernel_rfl
theorem szn19 : szN Try.prog 19 = 1 := by kernel_rfl
theorem zv19 : zvT Try.prog 19 = some [.pointer none] := by kernel_rfl
theorem bd19 : bdOk Try.prog 19 = true := by kernel_rfl
theorem pl19_0 : plT Try.prog 19 0 = some (0, 1) := by kernel_rfl
theorem fo19_0 : fdO Try.prog 19 0 = 0 := by kernel_rfl
theorem fn19_0 : fdN Try.prog 19 0 = 1 := by kernel_rfl
theorem fk19_0 : fdOk Try.prog 19 0 = true := by kernel_rfl
theorem fs19_0 : fdS Try.prog 19 0 = true := by kernel_rfl
theorem ag21 : agT Try.prog 21 = some false := by kernel_rfl
theorem ldA21 : ldA Try.prog 21 = false := by kernel_rfl
theorem ldS21 : ldS Try.prog 21 = true := by kernel_rfl
theorem nz21 : nzT Try.prog 21 = [none] := by kernel_rfl
theorem sz21 : szT Try.prog 21 = some 1 := by kernel_rfl
theorem szn21 : szN Try.prog 21 = 1 := by kernel_rfl
theorem zv21 : zvT Try.prog 21 = some [.int .i32 0] := by kernel_rfl
theorem int21 : intKd Try.prog 21 = some .i32 := by kernel_rfl
theorem sl22 : slT Try.prog 22 = some 2 := by kernel_rfl
theorem slz22 : slSz Try.prog 22 = 2 := by kernel_rfl
theorem zok22 : zOk Try.prog 22 = true := by kernel_rfl
theorem by22 : byN Try.prog 22 = 32 := by kernel_rfl
theorem zs22 : zsN Try.prog 22 = [.int .i64 0, .slice none 0 0] := by kernel_rfl
theorem ag22 : agT Try.prog 22 = some false := by kernel_rfl
theorem ldA22 : ldA Try.prog 22 = false := by kernel_rfl
theorem ldS22 : ldS Try.prog 22 = true := by kernel_rfl
theorem nz22 : nzT Try.prog 22 = [some 2] := by kernel_rfl
theorem nze22 : nzE Try.prog 22 = [none, some 3] := by kernel_rfl
theorem sz22 : szT Try.prog 22 = some 1 := by kernel_rfl
theorem szn22 : szN Try.prog 22 = 1 := by kernel_rfl
theorem zv22 : zvT Try.prog 22 = some [.slice none 0 0] := by kernel_rfl
theorem ag23 : agT Try.prog 23 = some true := by kernel_rfl
theorem ldA23 : ldA Try.prog 23 = true := by kernel_rfl
theorem nz23 : nzT Try.prog 23 = [none, none, some 2] := by kernel_rfl
theorem sz23 : szT Try.prog 23 = some 3 := by kernel_rfl
theorem szn23 : szN Try.prog 23 = 3 := by kernel_rfl
theorem zv23 : zvT Try.prog 23 = some [.int .i64 0, .int .i64 0, .slice none 0 0] := by kernel_rfl
theorem bd23 : bdOk Try.prog 23 = true := by kernel_rfl
theorem pl23_0 : plT Try.prog 23 0 = some (0, 1) := by kernel_rfl
theorem pl23_1 : plT Try.prog 23 1 = some (1, 1) := by kernel_rfl
theorem pl23_2 : plT Try.prog 23 2 = some (2, 1) := by kernel_rfl
theorem fo23_0 : fdO Try.prog 23 0 = 0 := by kernel_rfl
theorem fn23_0 : fdN Try.prog 23 0 = 1 := by kernel_rfl
theorem fk23_0 : fdOk Try.prog 23 0 = true := by kernel_rfl
theorem fs23_0 : fdS Try.prog 23 0 = true := by kernel_rfl
theorem fo23_1 : fdO Try.prog 23 1 = 1 := by kernel_rfl
theorem fn23_1 : fdN Try.prog 23 1 = 1 := by kernel_rfl
theorem fk23_1 : fdOk Try.prog 23 1 = true := by kernel_rfl
theorem fs23_1 : fdS Try.prog 23 1 = true := by kernel_rfl
theorem fo23_2 : fdO Try.prog 23 2 = 2 := by kernel_rfl
theorem fn23_2 : fdN Try.prog 23 2 = 1 := by kernel_rfl
theorem fk23_2 : fdOk Try.prog 23 2 = true := by kernel_rfl
theorem fs23_2 : fdS Try.prog 23 2 = true := by kernel_rfl
theorem ag24 : agT Try.prog 24 = some true := by kernel_rfl
theorem ldA24 : ldA Try.prog 24 = true := by kernel_rfl
theorem nz24 : nzT Try.prog 24 = [none, none, some 2] := by kernel_rfl
theorem sz24 : szT Try.prog 24 = some 3 := by kernel_rfl
theorem szn24 : szN Try.prog 24 = 3 := by kernel_rfl
theorem zv24 : zvT Try.prog 24 = some [.int .i64 0, .int .i64 0, .slice none 0 0] := by kernel_rfl
theorem bd24 : bdOk Try.prog 24 = true := by kernel_rfl
theorem pl24_0 : plT Try.prog 24 0 = some (0, 1) := by kernel_rfl
theorem pl24_1 : plT Try.prog 24 1 = some (1, 1) := by kernel_rfl
theorem pl24_2 : plT Try.prog 24 2 = some (2, 1) := by kernel_rfl
theorem fo24_0 : fdO Try.prog 24 0 = 0 := by kernel_rfl
theorem fn24_0 : fdN Try.prog 24 0 = 1 := by kernel_rfl
theorem fk24_0 : fdOk Try.prog 24 0 = true := by kernel_rfl
theorem fs24_0 : fdS Try.prog 24 0 = true := by kernel_rfl
theorem fo24_1 : fdO Try.prog 24 1 = 1 := by kernel_rfl
theorem fn24_1 : fdN Try.prog 24 1 = 1 := by kernel_rfl
theorem fk24_1 : fdOk Try.prog 24 1 = true := by kernel_rfl
theorem fs24_1 : fdS Try.prog 24 1 = true := by kernel_rfl
theorem fo24_2 : fdO Try.prog 24 2 = 2 := by kernel_rfl
theorem fn24_2 : fdN Try.prog 24 2 = 1 := by kernel_rfl
theorem fk24_2 : fdOk Try.prog 24 2 = true := by kernel_rfl
theorem fs24_2 : fdS Try.prog 24 2 = true := by kernel_rfl
theorem sl26 : slT Try.prog 26 = some 2 := by kernel_rfl
theorem slz26 : slSz Try.prog 26 = 2 := by kernel_rfl
theorem zok26 : zOk Try.prog 26 = true := by kernel_rfl
theorem by26 : byN Try.prog 26 = 32 := by kernel_rfl
theorem zs26 : zsN Try.prog 26 = [.int .i64 0, .slice none 0 0] := by kernel_rfl
theorem ag26 : agT Try.prog 26 = some false := by kernel_rfl
theorem ldA26 : ldA Try.prog 26 = false := by kernel_rfl
theorem ldS26 : ldS Try.prog 26 = true := by kernel_rfl
theorem nz26 : nzT Try.prog 26 = [some 2] := by kernel_rfl
theorem nze26 : nzE Try.prog 26 = [none, some 3] := by kernel_rfl
theorem sz26 : szT Try.prog 26 = some 1 := by kernel_rfl
theorem szn26 : szN Try.prog 26 = 1 := by kernel_rfl
theorem zv26 : zvT Try.prog 26 = some [.slice none 0 0] := by kernel_rfl
theorem ag27 : agT Try.prog 27 = some true := by kernel_rfl
theorem ldA27 : ldA Try.prog 27 = true := by kernel_rfl
theorem nz27 : nzT Try.prog 27 = [none, none, some 2] := by kernel_rfl
theorem sz27 : szT Try.prog 27 = some 3 := by kernel_rfl
theorem szn27 : szN Try.prog 27 = 3 := by kernel_rfl
theorem zv27 : zvT Try.prog 27 = some [.int .i64 0, .int .i64 0, .slice none 0 0] := by kernel_rfl
theorem bd27 : bdOk Try.prog 27 = true := by kernel_rfl
theorem pl27_0 : plT Try.prog 27 0 = some (0, 1) := by kernel_rfl
theorem pl27_1 : plT Try.prog 27 1 = some (1, 1) := by kernel_rfl
theorem pl27_2 : plT Try.prog 27 2 = some (2, 1) := by kernel_rfl
theorem fo27_0 : fdO Try.prog 27 0 = 0 := by kernel_rfl
theorem fn27_0 : fdN Try.prog 27 0 = 1 := by kernel_rfl
theorem fk27_0 : fdOk Try.prog 27 0 = true := by kernel_rfl
theorem fs27_0 : fdS Try.prog 27 0 = true := by kernel_rfl
theorem fo27_1 : fdO Try.prog 27 1 = 1 := by kernel_rfl
theorem fn27_1 : fdN Try.prog 27 1 = 1 := by kernel_rfl
theorem fk27_1 : fdOk Try.prog 27 1 = true := by kernel_rfl
theorem fs27_1 : fdS Try.prog 27 1 = true := by kernel_rfl
theorem fo27_2 : fdO Try.prog 27 2 = 2 := by kernel_rfl
theorem fn27_2 : fdN Try.prog 27 2 = 1 := by kernel_rfl
theorem fk27_2 : fdOk Try.prog 27 2 = true := by kernel_rfl
theorem fs27_2 : fdS Try.prog 27 2 = true := by kernel_rfl
theorem ag28 : agT Try.prog 28 = some true := by kernel_rfl
theorem ldA28 : ldA Try.prog 28 = true := by kernel_rfl
theorem nz28 : nzT Try.prog 28 = [none, none, some 2] := by kernel_rfl
theorem sz28 : szT Try.prog 28 = some 3 := by kernel_rfl
theorem szn28 : szN Try.prog 28 = 3 := by kernel_rfl
theorem zv28 : zvT Try.prog 28 = some [.int .i64 0, .int .i64 0, .slice none 0 0] := by kernel_rfl
theorem bd28 : bdOk Try.prog 28 = true := by kernel_rfl
theorem pl28_0 : plT Try.prog 28 0 = some (0, 1) := by kernel_rfl
theorem pl28_1 : plT Try.prog 28 1 = some (1, 1) := by kernel_rfl
theorem pl28_2 : plT Try.prog 28 2 = some (2, 1) := by kernel_rfl
theorem fo28_0 : fdO Try.prog 28 0 = 0 := by kernel_rfl
theorem fn28_0 : fdN Try.prog 28 0 = 1 := by kernel_rfl
theorem fk28_0 : fdOk Try.prog 28 0 = true := by kernel_rfl
theorem fs28_0 : fdS Try.prog 28 0 = true := by kernel_rfl
theorem fo28_1 : fdO Try.prog 28 1 = 1 := by kernel_rfl
theorem fn28_1 : fdN Try.prog 28 1 = 1 := by kernel_rfl
theorem fk28_1 : fdOk Try.prog 28 1 = true := by kernel_rfl
theorem fs28_1 : fdS Try.prog 28 1 = true := by kernel_rfl
theorem fo28_2 : fdO Try.prog 28 2 = 2 := by kernel_rfl
theorem fn28_2 : fdN Try.prog 28 2 = 1 := by kernel_rfl
theorem fk28_2 : fdOk Try.prog 28 2 = true := by kernel_rfl
theorem fs28_2 : fdS Try.prog 28 2 = true := by kernel_rfl
theorem sl44 : slT Try.prog 44 = some 3 := by kernel_rfl
theorem slz44 : slSz Try.prog 44 = 3 := by kernel_rfl
theorem zok44 : zOk Try.prog 44 = true := by kernel_rfl
theorem by44 : byN Try.prog 44 = 32 := by kernel_rfl
theorem zs44 : zsN Try.prog 44 = [.string ⟨#[]⟩, .int .i64 0, .int .i64 0] := by kernel_rfl
theorem ag44 : agT Try.prog 44 = some false := by kernel_rfl
theorem ldA44 : ldA Try.prog 44 = false := by kernel_rfl
theorem ldS44 : ldS Try.prog 44 = true := by kernel_rfl
theorem nz44 : nzT Try.prog 44 = [some 3] := by kernel_rfl
theorem nze44 : nzE Try.prog 44 = [none, none, none] := by kernel_rfl
theorem sz44 : szT Try.prog 44 = some 1 := by kernel_rfl
theorem szn44 : szN Try.prog 44 = 1 := by kernel_rfl
theorem zv44 : zvT Try.prog 44 = some [.slice none 0 0] := by kernel_rfl
theorem ag45 : agT Try.prog 45 = some true := by kernel_rfl
theorem ldA45 : ldA Try.prog 45 = true := by kernel_rfl
theorem nz45 : nzT Try.prog 45 = [none, some 3] := by kernel_rfl
theorem sz45 : szT Try.prog 45 = some 2 := by kernel_rfl
theorem szn45 : szN Try.prog 45 = 2 := by kernel_rfl
theorem zv45 : zvT Try.prog 45 = some [.int .i64 0, .slice none 0 0] := by kernel_rfl
theorem bd45 : bdOk Try.prog 45 = true := by kernel_rfl
theorem pl45_0 : plT Try.prog 45 0 = some (0, 1) := by kernel_rfl
theorem pl45_1 : plT Try.prog 45 1 = some (1, 1) := by kernel_rfl
theorem fo45_0 : fdO Try.prog 45 0 = 0 := by kernel_rfl
theorem fn45_0 : fdN Try.prog 45 0 = 1 := by kernel_rfl
theorem fk45_0 : fdOk Try.prog 45 0 = true := by kernel_rfl
theorem fs45_0 : fdS Try.prog 45 0 = true := by kernel_rfl
theorem fo45_1 : fdO Try.prog 45 1 = 1 := by kernel_rfl
theorem fn45_1 : fdN Try.prog 45 1 = 1 := by kernel_rfl
theorem fk45_1 : fdOk Try.prog 45 1 = true := by kernel_rfl
theorem fs45_1 : fdS Try.prog 45 1 = true := by kernel_rfl
theorem ag46 : agT Try.prog 46 = some true := by kernel_rfl
theorem ldA46 : ldA Try.prog 46 = true := by kernel_rfl
theorem nz46 : nzT Try.prog 46 = [none, some 3] := by kernel_rfl
theorem sz46 : szT Try.prog 46 = some 2 := by kernel_rfl
theorem szn46 : szN Try.prog 46 = 2 := by kernel_rfl
theorem zv46 : zvT Try.prog 46 = some [.int .i64 0, .slice none 0 0] := by kernel_rfl
theorem bd46 : bdOk Try.prog 46 = true := by kernel_rfl
theorem pl46_0 : plT Try.prog 46 0 = some (0, 1) := by kernel_rfl
theorem pl46_1 : plT Try.prog 46 1 = some (1, 1) := by kernel_rfl
theorem fo46_0 : fdO Try.prog 46 0 = 0 := by kernel_rfl
theorem fn46_0 : fdN Try.prog 46 0 = 1 := by kernel_rfl
theorem fk46_0 : fdOk Try.prog 46 0 = true := by kernel_rfl
theorem fs46_0 : fdS Try.prog 46 0 = true := by kernel_rfl
theorem fo46_1 : fdO Try.prog 46 1 = 1 := by kernel_rfl
theorem fn46_1 : fdN Try.prog 46 1 = 1 := by kernel_rfl
theorem fk46_1 : fdOk Try.prog 46 1 = true := by kernel_rfl
theorem fs46_1 : fdS Try.prog 46 1 = true := by kernel_rfl
theorem ag53 : agT Try.prog 53 = some false := by kernel_rfl
theorem ldA53 : ldA Try.prog 53 = false := by kernel_rfl
theorem ldS53 : ldS Try.prog 53 = true := by kernel_rfl
theorem nz53 : nzT Try.prog 53 = [none] := by kernel_rfl
theorem sz53 : szT Try.prog 53 = some 1 := by kernel_rfl
theorem szn53 : szN Try.prog 53 = 1 := by kernel_rfl
theorem zv53 : zvT Try.prog 53 = some [.pointer none] := by kernel_rfl
theorem ag57 : agT Try.prog 57 = some true := by kernel_rfl
theorem ldA57 : ldA Try.prog 57 = true := by kernel_rfl
theorem nz57 : nzT Try.prog 57 = [none, none, none] := by kernel_rfl
theorem sz57 : szT Try.prog 57 = some 3 := by kernel_rfl
theorem szn57 : szN Try.prog 57 = 3 := by kernel_rfl
theorem zv57 : zvT Try.prog 57 = some [.string ⟨#[]⟩, .int .i64 0, .int .i64 0] := by kernel_rfl
theorem bd57 : bdOk Try.prog 57 = true := by kernel_rfl
theorem pl57_0 : plT Try.prog 57 0 = some (0, 1) := by kernel_rfl
theorem pl57_1 : plT Try.prog 57 1 = some (1, 1) := by kernel_rfl
theorem pl57_2 : plT Try.prog 57 2 = some (2, 1) := by kernel_rfl
theorem fo57_0 : fdO Try.prog 57 0 = 0 := by kernel_rfl
theorem fn57_0 : fdN Try.prog 57 0 = 1 := by kernel_rfl
theorem fk57_0 : fdOk Try.prog 57 0 = true := by kernel_rfl
theorem fs57_0 : fdS Try.prog 57 0 = true := by kernel_rfl
theorem fo57_1 : fdO Try.prog 57 1 = 1 := by kernel_rfl
theorem fn57_1 : fdN Try.prog 57 1 = 1 := by kernel_rfl
theorem fk57_1 : fdOk Try.prog 57 1 = true := by kernel_rfl
theorem fs57_1 : fdS Try.prog 57 1 = true := by kernel_rfl
theorem fo57_2 : fdO Try.prog 57 2 = 2 := by kernel_rfl
theorem fn57_2 : fdN Try.prog 57 2 = 1 := by kernel_rfl
theorem fk57_2 : fdOk Try.prog 57 2 = true := by kernel_rfl
theorem fs57_2 : fdS Try.prog 57 2 = true := by kernel_rfl
theorem ag58 : agT Try.prog 58 = some true := by kernel_rfl
theorem ldA58 : ldA Try.prog 58 = true := by kernel_rfl
theorem nz58 : nzT Try.prog 58 = [none, none, none] := by kernel_rfl
theorem sz58 : szT Try.prog 58 = some 3 := by kernel_rfl
theorem szn58 : szN Try.prog 58 = 3 := by kernel_rfl
theorem zv58 : zvT Try.prog 58 = some [.string ⟨#[]⟩, .int .i64 0, .int .i64 0] := by kernel_rfl
theorem bd58 : bdOk Try.prog 58 = true := by kernel_rfl
theorem pl58_0 : plT Try.prog 58 0 = some (0, 1) := by kernel_rfl
theorem pl58_1 : plT Try.prog 58 1 = some (1, 1) := by kernel_rfl
theorem pl58_2 : plT Try.prog 58 2 = some (2, 1) := by kernel_rfl
theorem fo58_0 : fdO Try.prog 58 0 = 0 := by kernel_rfl
theorem fn58_0 : fdN Try.prog 58 0 = 1 := by kernel_rfl
theorem fk58_0 : fdOk Try.prog 58 0 = true := by kernel_rfl
theorem fs58_0 : fdS Try.prog 58 0 = true := by kernel_rfl
theorem fo58_1 : fdO Try.prog 58 1 = 1 := by kernel_rfl
theorem fn58_1 : fdN Try.prog 58 1 = 1 := by kernel_rfl
theorem fk58_1 : fdOk Try.prog 58 1 = true := by kernel_rfl
theorem fs58_1 : fdS Try.prog 58 1 = true := by kernel_rfl
theorem fo58_2 : fdO Try.prog 58 2 = 2 := by kernel_rfl
theorem fn58_2 : fdN Try.prog 58 2 = 1 := by kernel_rfl
theorem fk58_2 : fdOk Try.prog 58 2 = true := by kernel_rfl
theorem fs58_2 : fdS Try.prog 58 2 = true := by kernel_rfl
theorem sl60 : slT Try.prog 60 = some 3 := by kernel_rfl
theorem slz60 : slSz Try.prog 60 = 3 := by kernel_rfl
theorem zok60 : zOk Try.prog 60 = true := by kernel_rfl
theorem by60 : byN Try.prog 60 = 32 := by kernel_rfl
theorem zs60 : zsN Try.prog 60 = [.string ⟨#[]⟩, .int .i64 0, .int .i64 0] := by kernel_rfl
theorem ag60 : agT Try.prog 60 = some false := by kernel_rfl
theorem ldA60 : ldA Try.prog 60 = false := by kernel_rfl
theorem ldS60 : ldS Try.prog 60 = true := by kernel_rfl
theorem nz60 : nzT Try.prog 60 = [some 3] := by kernel_rfl
theorem nze60 : nzE Try.prog 60 = [none, none, none] := by kernel_rfl
theorem sz60 : szT Try.prog 60 = some 1 := by kernel_rfl
theorem szn60 : szN Try.prog 60 = 1 := by kernel_rfl
theorem zv60 : zvT Try.prog 60 = some [.slice none 0 0] := by kernel_rfl
theorem ag61 : agT Try.prog 61 = some true := by kernel_rfl
theorem ldA61 : ldA Try.prog 61 = true := by kernel_rfl
theorem nz61 : nzT Try.prog 61 = [none, some 3] := by kernel_rfl
theorem sz61 : szT Try.prog 61 = some 2 := by kernel_rfl
theorem szn61 : szN Try.prog 61 = 2 := by kernel_rfl
theorem zv61 : zvT Try.prog 61 = some [.int .i64 0, .slice none 0 0] := by kernel_rfl
theorem bd61 : bdOk Try.prog 61 = true := by kernel_rfl
theorem pl61_0 : plT Try.prog 61 0 = some (0, 1) := by kernel_rfl
theorem pl61_1 : plT Try.prog 61 1 = some (1, 1) := by kernel_rfl
theorem fo61_0 : fdO Try.prog 61 0 = 0 := by kernel_rfl
theorem fn61_0 : fdN Try.prog 61 0 = 1 := by kernel_rfl
theorem fk61_0 : fdOk Try.prog 61 0 = true := by kernel_rfl
theorem fs61_0 : fdS Try.prog 61 0 = true := by kernel_rfl
theorem fo61_1 : fdO Try.prog 61 1 = 1 := by kernel_rfl
theorem fn61_1 : fdN Try.prog 61 1 = 1 := by kernel_rfl
theorem fk61_1 : fdOk Try.prog 61 1 = true := by kernel_rfl
theorem fs61_1 : fdS Try.prog 61 1 = true := by kernel_rfl
theorem ag62 : agT Try.prog 62 = some true := by kernel_rfl
theorem ldA62 : ldA Try.prog 62 = true := by kernel_rfl
theorem nz62 : nzT Try.prog 62 = [none, some 3] := by kernel_rfl
theorem sz62 : szT Try.prog 62 = some 2 := by kernel_rfl
theorem szn62 : szN Try.prog 62 = 2 := by kernel_rfl
theorem zv62 : zvT Try.prog 62 = some [.int .i64 0, .slice none 0 0] := by kernel_rfl
theorem bd62 : bdOk Try.prog 62 = true := by kernel_rfl
theorem pl62_0 : plT Try.prog 62 0 = some (0, 1) := by kernel_rfl
theorem pl62_1 : plT Try.prog 62 1 = some (1, 1) := by kernel_rfl
theorem fo62_0 : fdO Try.prog 62 0 = 0 := by kernel_rfl
theorem fn62_0 : fdN Try.prog 62 0 = 1 := by kernel_rfl
theorem fk62_0 : fdOk Try.prog 62 0 = true := by kernel_rfl
theorem fs62_0 : fdS Try.prog 62 0 = true := by kernel_rfl
theorem fo62_1 : fdO Try.prog 62 1 = 1 := by kernel_rfl
theorem fn62_1 : fdN Try.prog 62 1 = 1 := by kernel_rfl
theorem fk62_1 : fdOk Try.prog 62 1 = true := by kernel_rfl
theorem fs62_1 : fdS Try.prog 62 1 = true := by kernel_rfl
theorem ag79 : agT Try.prog 79 = some false := by kernel_rfl
theorem ldA79 : ldA Try.prog 79 = false := by kernel_rfl
theorem ldS79 : ldS Try.prog 79 = true := by kernel_rfl
theorem nz79 : nzT Try.prog 79 = [none] := by kernel_rfl
theorem sz79 : szT Try.prog 79 = some 1 := by kernel_rfl
theorem szn79 : szN Try.prog 79 = 1 := by kernel_rfl
theorem zv79 : zvT Try.prog 79 = some [.int .u64 0] := by kernel_rfl
theorem int79 : intKd Try.prog 79 = some .u64 := by kernel_rfl
theorem ag81 : agT Try.prog 81 = some true := by kernel_rfl
theorem ldA81 : ldA Try.prog 81 = true := by kernel_rfl
theorem nz81 : nzT Try.prog 81 = [none, none, none] := by kernel_rfl
theorem sz81 : szT Try.prog 81 = some 3 := by kernel_rfl
theorem szn81 : szN Try.prog 81 = 3 := by kernel_rfl
theorem zv81 : zvT Try.prog 81 = some [.string ⟨#[]⟩, .int .i64 0, .int .i64 0] := by kernel_rfl
theorem bd81 : bdOk Try.prog 81 = true := by kernel_rfl
theorem pl81_0 : plT Try.prog 81 0 = some (0, 1) := by kernel_rfl
theorem pl81_1 : plT Try.prog 81 1 = some (1, 1) := by kernel_rfl
theorem pl81_2 : plT Try.prog 81 2 = some (2, 1) := by kernel_rfl
theorem fo81_0 : fdO Try.prog 81 0 = 0 := by kernel_rfl
theorem fn81_0 : fdN Try.prog 81 0 = 1 := by kernel_rfl
theorem fk81_0 : fdOk Try.prog 81 0 = true := by kernel_rfl
theorem fs81_0 : fdS Try.prog 81 0 = true := by kernel_rfl
theorem fo81_1 : fdO Try.prog 81 1 = 1 := by kernel_rfl
theorem fn81_1 : fdN Try.prog 81 1 = 1 := by kernel_rfl
theorem fk81_1 : fdOk Try.prog 81 1 = true := by kernel_rfl
theorem fs81_1 : fdS Try.prog 81 1 = true := by kernel_rfl
theorem fo81_2 : fdO Try.prog 81 2 = 2 := by kernel_rfl
theorem fn81_2 : fdN Try.prog 81 2 = 1 := by kernel_rfl
theorem fk81_2 : fdOk Try.prog 81 2 = true := by kernel_rfl
theorem fs81_2 : fdS Try.prog 81 2 = true := by kernel_rfl
theorem sl84 : slT Try.prog 84 = some 1 := by kernel_rfl
theorem slz84 : slSz Try.prog 84 = 1 := by kernel_rfl
theorem zok84 : zOk Try.prog 84 = true := by kernel_rfl
theorem by84 : byN Try.prog 84 = 1 := by kernel_rfl
theorem zs84 : zsN Try.prog 84 = [.int .u8 0] := by kernel_rfl
theorem ag84 : agT Try.prog 84 = some false := by kernel_rfl
theorem ldA84 : ldA Try.prog 84 = false := by kernel_rfl
theorem ldS84 : ldS Try.prog 84 = true := by kernel_rfl
theorem nz84 : nzT Try.prog 84 = [some 1] := by kernel_rfl
theorem nze84 : nzE Try.prog 84 = [none] := by kernel_rfl
theorem sz84 : szT Try.prog 84 = some 1 := by kernel_rfl
theorem szn84 : szN Try.prog 84 = 1 := by kernel_rfl
theorem zv84 : zvT Try.prog 84 = some [.slice none 0 0] := by kernel_rfl
theorem u884 : u8sl Try.prog 84 = true := by kernel_rfl
theorem ag86 : agT Try.prog 86 = some true := by kernel_rfl
theorem ldA86 : ldA Try.prog 86 = true := by kernel_rfl
theorem nz86 : nzT Try.prog 86 = [none, none, none, none] := by kernel_rfl
theorem sz86 : szT Try.prog 86 = some 4 := by kernel_rfl
theorem szn86 : szN Try.prog 86 = 4 := by kernel_rfl
theorem zv86 : zvT Try.prog 86 = some [.pointer none, .pointer none, .pointer none, .string ⟨#[]⟩] := by kernel_rfl
theorem bd86 : bdOk Try.prog 86 = true := by kernel_rfl
theorem pl86_0 : plT Try.prog 86 0 = some (0, 1) := by kernel_rfl
theorem pl86_1 : plT Try.prog 86 1 = some (1, 1) := by kernel_rfl
theorem pl86_2 : plT Try.prog 86 2 = some (2, 1) := by kernel_rfl
theorem pl86_3 : plT Try.prog 86 3 = some (3, 1) := by kernel_rfl
theorem fo86_0 : fdO Try.prog 86 0 = 0 := by kernel_rfl
theorem fn86_0 : fdN Try.prog 86 0 = 1 := by kernel_rfl
theorem fk86_0 : fdOk Try.prog 86 0 = true := by kernel_rfl
theorem fs86_0 : fdS Try.prog 86 0 = true := by kernel_rfl
theorem fo86_1 : fdO Try.prog 86 1 = 1 := by kernel_rfl
theorem fn86_1 : fdN Try.prog 86 1 = 1 := by kernel_rfl
theorem fk86_1 : fdOk Try.prog 86 1 = true := by kernel_rfl
theorem fs86_1 : fdS Try.prog 86 1 = true := by kernel_rfl
theorem fo86_2 : fdO Try.prog 86 2 = 2 := by kernel_rfl
theorem fn86_2 : fdN Try.prog 86 2 = 1 := by kernel_rfl
theorem fk86_2 : fdOk Try.prog 86 2 = true := by kernel_rfl
theorem fs86_2 : fdS Try.prog 86 2 = true := by kernel_rfl
theorem fo86_3 : fdO Try.prog 86 3 = 3 := by kernel_rfl
theorem fn86_3 : fdN Try.prog 86 3 = 1 := by kernel_rfl
theorem fk86_3 : fdOk Try.prog 86 3 = true := by kernel_rfl
theorem fs86_3 : fdS Try.prog 86 3 = true := by kernel_rfl
theorem ag87 : agT Try.prog 87 = some true := by kernel_rfl
theorem ldA87 : ldA Try.prog 87 = true := by kernel_rfl
theorem nz87 : nzT Try.prog 87 = [none, none, none, none] := by kernel_rfl
theorem sz87 : szT Try.prog 87 = some 4 := by kernel_rfl
theorem szn87 : szN Try.prog 87 = 4 := by kernel_rfl
theorem zv87 : zvT Try.prog 87 = some [.pointer none, .pointer none, .pointer none, .string ⟨#[]⟩] := by kernel_rfl
theorem bd87 : bdOk Try.prog 87 = true := by kernel_rfl
theorem pl87_0 : plT Try.prog 87 0 = some (0, 1) := by kernel_rfl
theorem pl87_1 : plT Try.prog 87 1 = some (1, 1) := by kernel_rfl
theorem pl87_2 : plT Try.prog 87 2 = some (2, 1) := by kernel_rfl
theorem pl87_3 : plT Try.prog 87 3 = some (3, 1) := by kernel_rfl
theorem fo87_0 : fdO Try.prog 87 0 = 0 := by kernel_rfl
theorem fn87_0 : fdN Try.prog 87 0 = 1 := by kernel_rfl
theorem fk87_0 : fdOk Try.prog 87 0 = true := by kernel_rfl
theorem fs87_0 : fdS Try.prog 87 0 = true := by kernel_rfl
theorem fo87_1 : fdO Try.prog 87 1 = 1 := by kernel_rfl
theorem fn87_1 : fdN Try.prog 87 1 = 1 := by kernel_rfl
theorem fk87_1 : fdOk Try.prog 87 1 = true := by kernel_rfl
theorem fs87_1 : fdS Try.prog 87 1 = true := by kernel_rfl
theorem fo87_2 : fdO Try.prog 87 2 = 2 := by kernel_rfl
theorem fn87_2 : fdN Try.prog 87 2 = 1 := by kernel_rfl
theorem fk87_2 : fdOk Try.prog 87 2 = true := by kernel_rfl
theorem fs87_2 : fdS Try.prog 87 2 = true := by kernel_rfl
theorem fo87_3 : fdO Try.prog 87 3 = 3 := by kernel_rfl
theorem fn87_3 : fdN Try.prog 87 3 = 1 := by kernel_rfl
theorem fk87_3 : fdOk Try.prog 87 3 = true := by kernel_rfl
theorem fs87_3 : fdS Try.prog 87 3 = true := by kernel_rfl
theorem ag88 : agT Try.prog 88 = some true := by kernel_rfl
theorem ldA88 : ldA Try.prog 88 = true := by kernel_rfl
theorem nz88 : nzT Try.prog 88 = [] := by kernel_rfl
theorem sz88 : szT Try.prog 88 = some 0 := by kernel_rfl
theorem szn88 : szN Try.prog 88 = 0 := by kernel_rfl
theorem bd88 : bdOk Try.prog 88 = true := by kernel_rfl
theorem ag89 : agT Try.prog 89 = some true := by kernel_rfl
theorem ldA89 : ldA Try.prog 89 = true := by kernel_rfl
theorem nz89 : nzT Try.prog 89 = [] := by kernel_rfl
theorem sz89 : szT Try.prog 89 = some 0 := by kernel_rfl
theorem szn89 : szN Try.prog 89 = 0 := by kernel_rfl
theorem bd89 : bdOk Try.prog 89 = true := by kernel_rfl
theorem pl89_0 : plT Try.prog 89 0 = some (0, 0) := by kernel_rfl
theorem fo89_0 : fdO Try.prog 89 0 = 0 := by kernel_rfl
theorem fn89_0 : fdN Try.prog 89 0 = 0 := by kernel_rfl
theorem ag90 : agT Try.prog 90 = some true := by kernel_rfl
theorem ldA90 : ldA Try.prog 90 = true := by kernel_rfl
theorem nz90 : nzT Try.prog 90 = [] := by kernel_rfl
theorem sz90 : szT Try.prog 90 = some 0 := by kernel_rfl
theorem szn90 : szN Try.prog 90 = 0 := by kernel_rfl
theorem bd90 : bdOk Try.prog 90 = true := by kernel_rfl
theorem pl90_0 : plT Try.prog 90 0 = some (0, 0) := by kernel_rfl
theorem fo90_0 : fdO Try.prog 90 0 = 0 := by kernel_rfl
theorem fn90_0 : fdN Try.prog 90 0 = 0 := by kernel_rfl
theorem ag92 : agT Try.prog 92 = some false := by kernel_rfl
theorem ldA92 : ldA Try.prog 92 = false := by kernel_rfl
theorem ldS92 : ldS Try.prog 92 = true := by kernel_rfl
theorem nz92 : nzT Try.prog 92 = [none] := by kernel_rfl
theorem sz92 : szT Try.prog 92 = some 1 := by kernel_rfl
theorem szn92 : szN Try.prog 92 = 1 := by kernel_rfl
theorem zv92 : zvT Try.prog 92 = some [.int .u32 0] := by kernel_rfl
theorem int92 : intKd Try.prog 92 = some .u32 := by kernel_rfl
theorem ag93 : agT Try.prog 93 = some false := by kernel_rfl
theorem ldA93 : ldA Try.prog 93 = false := by kernel_rfl
theorem ldS93 : ldS Try.prog 93 = true := by kernel_rfl
theorem nz93 : nzT Try.prog 93 = [none] := by kernel_rfl
theorem sz93 : szT Try.prog 93 = some 1 := by kernel_rfl
theorem szn93 : szN Try.prog 93 = 1 := by kernel_rfl
theorem zv93 : zvT Try.prog 93 = some [.int .u8 0] := by kernel_rfl
theorem int93 : intKd Try.prog 93 = some .u8 := by kernel_rfl
theorem ag94 : agT Try.prog 94 = some false := by kernel_rfl
theorem ldA94 : ldA Try.prog 94 = false := by kernel_rfl
theorem ldS94 : ldS Try.prog 94 = true := by kernel_rfl
theorem nz94 : nzT Try.prog 94 = [none] := by kernel_rfl
theorem sz94 : szT Try.prog 94 = some 1 := by kernel_rfl
theorem szn94 : szN Try.prog 94 = 1 := by kernel_rfl
theorem zv94 : zvT Try.prog 94 = some [.int .u8 0] := by kernel_rfl
theorem int94 : intKd Try.prog 94 = some .u8 := by kernel_rfl
theorem ag96 : agT Try.prog 96 = some false := by kernel_rfl
theorem ldA96 : ldA Try.prog 96 = false := by kernel_rfl
theorem ldS96 : ldS Try.prog 96 = true := by kernel_rfl
theorem nz96 : nzT Try.prog 96 = [none] := by kernel_rfl
theorem sz96 : szT Try.prog 96 = some 1 := by kernel_rfl
theorem szn96 : szN Try.prog 96 = 1 := by kernel_rfl
theorem zv96 : zvT Try.prog 96 = some [.pointer none] := by kernel_rfl
theorem ag97 : agT Try.prog 97 = some false := by kernel_rfl
theorem ldA97 : ldA Try.prog 97 = false := by kernel_rfl
theorem ldS97 : ldS Try.prog 97 = true := by kernel_rfl
theorem nz97 : nzT Try.prog 97 = [none] := by kernel_rfl
theorem sz97 : szT Try.prog 97 = some 1 := by kernel_rfl
theorem szn97 : szN Try.prog 97 = 1 := by kernel_rfl
theorem zv97 : zvT Try.prog 97 = some [.int .i32 0] := by kernel_rfl
theorem int97 : intKd Try.prog 97 = some .i32 := by kernel_rfl
theorem ag98 : agT Try.prog 98 = some false := by kernel_rfl
theorem ldA98 : ldA Try.prog 98 = false := by kernel_rfl
theorem ldS98 : ldS Try.prog 98 = true := by kernel_rfl
theorem nz98 : nzT Try.prog 98 = [none] := by kernel_rfl
theorem sz98 : szT Try.prog 98 = some 1 := by kernel_rfl
theorem szn98 : szN Try.prog 98 = 1 := by kernel_rfl
theorem zv98 : zvT Try.prog 98 = some [.int .i32 0] := by kernel_rfl
theorem int98 : intKd Try.prog 98 = some .i32 := by kernel_rfl
theorem ag99 : agT Try.prog 99 = some true := by kernel_rfl
theorem ldA99 : ldA Try.prog 99 = true := by kernel_rfl
theorem nz99 : nzT Try.prog 99 = [none, none, none, none, none, none, none, none, none, none, none] := by kernel_rfl
theorem sz99 : szT Try.prog 99 = some 11 := by kernel_rfl
theorem szn99 : szN Try.prog 99 = 11 := by kernel_rfl
theorem zv99 : zvT Try.prog 99 = some [.int .u64 0, .int .u64 0, .int .u32 0, .int .u8 0, .int .u8 0, .int .u8 0, .int .u8 0, .nilFunc, .pointer none, .int .i32 0, .int .i32 0] := by kernel_rfl
theorem bd99 : bdOk Try.prog 99 = true := by kernel_rfl
theorem pl99_0 : plT Try.prog 99 0 = some (0, 1) := by kernel_rfl
theorem pl99_1 : plT Try.prog 99 1 = some (1, 1) := by kernel_rfl
theorem pl99_2 : plT Try.prog 99 2 = some (2, 1) := by kernel_rfl
theorem pl99_3 : plT Try.prog 99 3 = some (3, 1) := by kernel_rfl
theorem pl99_4 : plT Try.prog 99 4 = some (4, 1) := by kernel_rfl
theorem pl99_5 : plT Try.prog 99 5 = some (5, 1) := by kernel_rfl
theorem pl99_6 : plT Try.prog 99 6 = some (6, 1) := by kernel_rfl
theorem pl99_8 : plT Try.prog 99 8 = some (8, 1) := by kernel_rfl
theorem pl99_9 : plT Try.prog 99 9 = some (9, 1) := by kernel_rfl
theorem pl99_10 : plT Try.prog 99 10 = some (10, 1) := by kernel_rfl
theorem fo99_0 : fdO Try.prog 99 0 = 0 := by kernel_rfl
theorem fn99_0 : fdN Try.prog 99 0 = 1 := by kernel_rfl
theorem fk99_0 : fdOk Try.prog 99 0 = true := by kernel_rfl
theorem fs99_0 : fdS Try.prog 99 0 = true := by kernel_rfl
theorem fo99_1 : fdO Try.prog 99 1 = 1 := by kernel_rfl
theorem fn99_1 : fdN Try.prog 99 1 = 1 := by kernel_rfl
theorem fk99_1 : fdOk Try.prog 99 1 = true := by kernel_rfl
theorem fs99_1 : fdS Try.prog 99 1 = true := by kernel_rfl
theorem fo99_2 : fdO Try.prog 99 2 = 2 := by kernel_rfl
theorem fn99_2 : fdN Try.prog 99 2 = 1 := by kernel_rfl
theorem fk99_2 : fdOk Try.prog 99 2 = true := by kernel_rfl
theorem fs99_2 : fdS Try.prog 99 2 = true := by kernel_rfl
theorem fo99_3 : fdO Try.prog 99 3 = 3 := by kernel_rfl
theorem fn99_3 : fdN Try.prog 99 3 = 1 := by kernel_rfl
theorem fk99_3 : fdOk Try.prog 99 3 = true := by kernel_rfl
theorem fs99_3 : fdS Try.prog 99 3 = true := by kernel_rfl
theorem fo99_4 : fdO Try.prog 99 4 = 4 := by kernel_rfl
theorem fn99_4 : fdN Try.prog 99 4 = 1 := by kernel_rfl
theorem fk99_4 : fdOk Try.prog 99 4 = true := by kernel_rfl
theorem fs99_4 : fdS Try.prog 99 4 = true := by kernel_rfl
theorem fo99_5 : fdO Try.prog 99 5 = 5 := by kernel_rfl
theorem fn99_5 : fdN Try.prog 99 5 = 1 := by kernel_rfl
theorem fk99_5 : fdOk Try.prog 99 5 = true := by kernel_rfl
theorem fs99_5 : fdS Try.prog 99 5 = true := by kernel_rfl
theorem fo99_6 : fdO Try.prog 99 6 = 6 := by kernel_rfl
theorem fn99_6 : fdN Try.prog 99 6 = 1 := by kernel_rfl
theorem fk99_6 : fdOk Try.prog 99 6 = true := by kernel_rfl
theorem fs99_6 : fdS Try.prog 99 6 = true := by kernel_rfl
theorem fo99_8 : fdO Try.prog 99 8 = 8 := by kernel_rfl
theorem fn99_8 : fdN Try.prog 99 8 = 1 := by kernel_rfl
theorem fk99_8 : fdOk Try.prog 99 8 = true := by kernel_rfl
theorem fs99_8 : fdS Try.prog 99 8 = true := by kernel_rfl
theorem fo99_9 : fdO Try.prog 99 9 = 9 := by kernel_rfl
theorem fn99_9 : fdN Try.prog 99 9 = 1 := by kernel_rfl
theorem fk99_9 : fdOk Try.prog 99 9 = true := by kernel_rfl
theorem fs99_9 : fdS Try.prog 99 9 = true := by kernel_rfl
theorem fo99_10 : fdO Try.prog 99 10 = 10 := by kernel_rfl
theorem fn99_10 : fdN Try.prog 99 10 = 1 := by kernel_rfl
theorem fk99_10 : fdOk Try.prog 99 10 = true := by kernel_rfl
theorem fs99_10 : fdS Try.prog 99 10 = true := by kernel_rfl
theorem ag100 : agT Try.prog 100 = some true := by kernel_rfl
theorem ldA100 : ldA Try.prog 100 = true := by kernel_rfl
theorem nz100 : nzT Try.prog 100 = [none, none, none, none, none, none, none, none, none, none, none] := by kernel_rfl
theorem sz100 : szT Try.prog 100 = some 11 := by kernel_rfl
theorem szn100 : szN Try.prog 100 = 11 := by kernel_rfl
theorem zv100 : zvT Try.prog 100 = some [.int .u64 0, .int .u64 0, .int .u32 0, .int .u8 0, .int .u8 0, .int .u8 0, .int .u8 0, .nilFunc, .pointer none, .int .i32 0, .int .i32 0] := by kernel_rfl
theorem bd100 : bdOk Try.prog 100 = true := by kernel_rfl
theorem pl100_0 : plT Try.prog 100 0 = some (0, 1) := by kernel_rfl
theorem pl100_1 : plT Try.prog 100 1 = some (1, 1) := by kernel_rfl
theorem pl100_2 : plT Try.prog 100 2 = some (2, 1) := by kernel_rfl
theorem pl100_3 : plT Try.prog 100 3 = some (3, 1) := by kernel_rfl
theorem pl100_4 : plT Try.prog 100 4 = some (4, 1) := by kernel_rfl
theorem pl100_5 : plT Try.prog 100 5 = some (5, 1) := by kernel_rfl
theorem pl100_6 : plT Try.prog 100 6 = some (6, 1) := by kernel_rfl
theorem pl100_8 : plT Try.prog 100 8 = some (8, 1) := by kernel_rfl
theorem pl100_9 : plT Try.prog 100 9 = some (9, 1) := by kernel_rfl
theorem pl100_10 : plT Try.prog 100 10 = some (10, 1) := by kernel_rfl
theorem fo100_0 : fdO Try.prog 100 0 = 0 := by kernel_rfl
theorem fn100_0 : fdN Try.prog 100 0 = 1 := by kernel_rfl
theorem fk100_0 : fdOk Try.prog 100 0 = true := by kernel_rfl
theorem fs100_0 : fdS Try.prog 100 0 = true := by kernel_rfl
theorem fo100_1 : fdO Try.prog 100 1 = 1 := by kernel_rfl
theorem fn100_1 : fdN Try.prog 100 1 = 1 := by kernel_rfl
theorem fk100_1 : fdOk Try.prog 100 1 = true := by kernel_rfl
theorem fs100_1 : fdS Try.prog 100 1 = true := by kernel_rfl
theorem fo100_2 : fdO Try.prog 100 2 = 2 := by kernel_rfl
theorem fn100_2 : fdN Try.prog 100 2 = 1 := by kernel_rfl
theorem fk100_2 : fdOk Try.prog 100 2 = true := by kernel_rfl
theorem fs100_2 : fdS Try.prog 100 2 = true := by kernel_rfl
theorem fo100_3 : fdO Try.prog 100 3 = 3 := by kernel_rfl
theorem fn100_3 : fdN Try.prog 100 3 = 1 := by kernel_rfl
theorem fk100_3 : fdOk Try.prog 100 3 = true := by kernel_rfl
theorem fs100_3 : fdS Try.prog 100 3 = true := by kernel_rfl
theorem fo100_4 : fdO Try.prog 100 4 = 4 := by kernel_rfl
theorem fn100_4 : fdN Try.prog 100 4 = 1 := by kernel_rfl
theorem fk100_4 : fdOk Try.prog 100 4 = true := by kernel_rfl
theorem fs100_4 : fdS Try.prog 100 4 = true := by kernel_rfl
theorem fo100_5 : fdO Try.prog 100 5 = 5 := by kernel_rfl
theorem fn100_5 : fdN Try.prog 100 5 = 1 := by kernel_rfl
theorem fk100_5 : fdOk Try.prog 100 5 = true := by kernel_rfl
theorem fs100_5 : fdS Try.prog 100 5 = true := by kernel_rfl
theorem fo100_6 : fdO Try.prog 100 6 = 6 := by kernel_rfl
theorem fn100_6 : fdN Try.prog 100 6 = 1 := by kernel_rfl
theorem fk100_6 : fdOk Try.prog 100 6 = true := by kernel_rfl
theorem fs100_6 : fdS Try.prog 100 6 = true := by kernel_rfl
theorem fo100_8 : fdO Try.prog 100 8 = 8 := by kernel_rfl
theorem fn100_8 : fdN Try.prog 100 8 = 1 := by kernel_rfl
theorem fk100_8 : fdOk Try.prog 100 8 = true := by kernel_rfl
theorem fs100_8 : fdS Try.prog 100 8 = true := by kernel_rfl
theorem fo100_9 : fdO Try.prog 100 9 = 9 := by kernel_rfl
theorem fn100_9 : fdN Try.prog 100 9 = 1 := by kernel_rfl
theorem fk100_9 : fdOk Try.prog 100 9 = true := by kernel_rfl
theorem fs100_9 : fdS Try.prog 100 9 = true := by kernel_rfl
theorem fo100_10 : fdO Try.prog 100 10 = 10 := by kernel_rfl
theorem fn100_10 : fdN Try.prog 100 10 = 1 := by kernel_rfl
theorem fk100_10 : fdOk Try.prog 100 10 = true := by kernel_rfl
theorem fs100_10 : fdS Try.prog 100 10 = true := by kernel_rfl
end Ty
end Go.Av
