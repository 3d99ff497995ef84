/- What the types of this translation are. -/
import Derived.Test.YtheheedekbhonaaAZzN
import Derived.Test.YtheheedekbhonaaProg
/-! What the types of this translation are. -/
namespace Go.Av
open Go.Proofs
namespace Ty
theorem ag2 : agT Try.prog 2 = some false := by kernel_rfl
theorem ldA2 : ldA Try.prog 2 = false := by kernel_rfl
theorem ldS2 : ldS Try.prog 2 = true := by kernel_rfl
theorem nz2 : nzT Try.prog 2 = [none] := by kernel_rfl
theorem sz2 : szT Try.prog 2 = some 1 := by kernel_rfl
theorem szn2 : szN Try.prog 2 = 1 := by kernel_rfl
theorem zv2 : zvT Try.prog 2 = some [.int .i64 0] := by kernel_rfl
theorem int2 : intKd Try.prog 2 = some .i64 := by kernel_rfl
theorem ag3 : agT Try.prog 3 = some false := by kernel_rfl
theorem ldA3 : ldA Try.prog 3 = false := by kernel_rfl
theorem ldS3 : ldS Try.prog 3 = true := by kernel_rfl
theorem nz3 : nzT Try.prog 3 = [none] := by kernel_rfl
theorem sz3 : szT Try.prog 3 = some 1 := by kernel_rfl
theorem szn3 : szN Try.prog 3 = 1 := by kernel_rfl
theorem zv3 : zvT Try.prog 3 = some [.int .i64 0] := by kernel_rfl
theorem int3 : intKd Try.prog 3 = some .i64 := by kernel_rfl
theorem ag4 : agT Try.prog 4 = some false := by kernel_rfl
theorem ldA4 : ldA Try.prog 4 = false := by kernel_rfl
theorem ldS4 : ldS Try.prog 4 = true := by kernel_rfl
theorem nz4 : nzT Try.prog 4 = [none] := by kernel_rfl
theorem sz4 : szT Try.prog 4 = some 1 := by kernel_rfl
theorem szn4 : szN Try.prog 4 = 1 := by kernel_rfl
theorem zv4 : zvT Try.prog 4 = some [.bool false] := by kernel_rfl
theorem bl4 : isBl Try.prog 4 = true := by kernel_rfl
theorem ag5 : agT Try.prog 5 = some false := by kernel_rfl
theorem ldA5 : ldA Try.prog 5 = false := by kernel_rfl
theorem ldS5 : ldS Try.prog 5 = true := by kernel_rfl
theorem nz5 : nzT Try.prog 5 = [none] := by kernel_rfl
theorem sz5 : szT Try.prog 5 = some 1 := by kernel_rfl
theorem szn5 : szN Try.prog 5 = 1 := by kernel_rfl
theorem zv5 : zvT Try.prog 5 = some [.int .u8 0] := by kernel_rfl
theorem int5 : intKd Try.prog 5 = some .u8 := by kernel_rfl
theorem ag6 : agT Try.prog 6 = some false := by kernel_rfl
theorem ldA6 : ldA Try.prog 6 = false := by kernel_rfl
theorem ldS6 : ldS Try.prog 6 = true := by kernel_rfl
theorem nz6 : nzT Try.prog 6 = [none] := by kernel_rfl
theorem sz6 : szT Try.prog 6 = some 1 := by kernel_rfl
theorem szn6 : szN Try.prog 6 = 1 := by kernel_rfl
theorem zv6 : zvT Try.prog 6 = some [.int .u8 0] := by kernel_rfl
theorem int6 : intKd Try.prog 6 = some .u8 := by kernel_rfl
theorem ag7 : agT Try.prog 7 = some true := by kernel_rfl
theorem ldA7 : ldA Try.prog 7 = true := by kernel_rfl
theorem nz7 : nzT Try.prog 7 = [none, none, none, none] := by kernel_rfl
theorem sz7 : szT Try.prog 7 = some 4 := by kernel_rfl
theorem szn7 : szN Try.prog 7 = 4 := by kernel_rfl
theorem zv7 : zvT Try.prog 7 = some [.int .i64 0, .int .i64 0, .bool false, .int .u8 0] := by kernel_rfl
theorem bd7 : bdOk Try.prog 7 = true := by kernel_rfl
theorem pl7_0 : plT Try.prog 7 0 = some (0, 1) := by kernel_rfl
theorem pl7_1 : plT Try.prog 7 1 = some (1, 1) := by kernel_rfl
theorem pl7_2 : plT Try.prog 7 2 = some (2, 1) := by kernel_rfl
theorem pl7_3 : plT Try.prog 7 3 = some (3, 1) := by kernel_rfl
theorem fo7_0 : fdO Try.prog 7 0 = 0 := by kernel_rfl
theorem fn7_0 : fdN Try.prog 7 0 = 1 := by kernel_rfl
theorem fk7_0 : fdOk Try.prog 7 0 = true := by kernel_rfl
theorem fs7_0 : fdS Try.prog 7 0 = true := by kernel_rfl
theorem fo7_1 : fdO Try.prog 7 1 = 1 := by kernel_rfl
theorem fn7_1 : fdN Try.prog 7 1 = 1 := by kernel_rfl
theorem fk7_1 : fdOk Try.prog 7 1 = true := by kernel_rfl
theorem fs7_1 : fdS Try.prog 7 1 = true := by kernel_rfl
theorem fo7_2 : fdO Try.prog 7 2 = 2 := by kernel_rfl
theorem fn7_2 : fdN Try.prog 7 2 = 1 := by kernel_rfl
theorem fk7_2 : fdOk Try.prog 7 2 = true := by kernel_rfl
theorem fs7_2 : fdS Try.prog 7 2 = true := by kernel_rfl
theorem fo7_3 : fdO Try.prog 7 3 = 3 := by kernel_rfl
theorem fn7_3 : fdN Try.prog 7 3 = 1 := by kernel_rfl
theorem fk7_3 : fdOk Try.prog 7 3 = true := by kernel_rfl
theorem fs7_3 : fdS Try.prog 7 3 = true := by kernel_rfl
theorem ag8 : agT Try.prog 8 = some true := by kernel_rfl
theorem ldA8 : ldA Try.prog 8 = true := by kernel_rfl
theorem nz8 : nzT Try.prog 8 = [none, none, none, none] := by kernel_rfl
theorem sz8 : szT Try.prog 8 = some 4 := by kernel_rfl
theorem szn8 : szN Try.prog 8 = 4 := by kernel_rfl
theorem zv8 : zvT Try.prog 8 = some [.int .i64 0, .int .i64 0, .bool false, .int .u8 0] := by kernel_rfl
theorem bd8 : bdOk Try.prog 8 = true := by kernel_rfl
theorem pl8_0 : plT Try.prog 8 0 = some (0, 1) := by kernel_rfl
theorem pl8_1 : plT Try.prog 8 1 = some (1, 1) := by kernel_rfl
theorem pl8_2 : plT Try.prog 8 2 = some (2, 1) := by kernel_rfl
theorem pl8_3 : plT Try.prog 8 3 = some (3, 1) := by kernel_rfl
theorem fo8_0 : fdO Try.prog 8 0 = 0 := by kernel_rfl
theorem fn8_0 : fdN Try.prog 8 0 = 1 := by kernel_rfl
theorem fk8_0 : fdOk Try.prog 8 0 = true := by kernel_rfl
theorem fs8_0 : fdS Try.prog 8 0 = true := by kernel_rfl
theorem fo8_1 : fdO Try.prog 8 1 = 1 := by kernel_rfl
theorem fn8_1 : fdN Try.prog 8 1 = 1 := by kernel_rfl
theorem fk8_1 : fdOk Try.prog 8 1 = true := by kernel_rfl
theorem fs8_1 : fdS Try.prog 8 1 = true := by kernel_rfl
theorem fo8_2 : fdO Try.prog 8 2 = 2 := by kernel_rfl
theorem fn8_2 : fdN Try.prog 8 2 = 1 := by kernel_rfl
theorem fk8_2 : fdOk Try.prog 8 2 = true := by kernel_rfl
theorem fs8_2 : fdS Try.prog 8 2 = true := by kernel_rfl
theorem fo8_3 : fdO Try.prog 8 3 = 3 := by kernel_rfl
theorem fn8_3 : fdN Try.prog 8 3 = 1 := by kernel_rfl
theorem fk8_3 : fdOk Try.prog 8 3 = true := by kernel_rfl
theorem fs8_3 : fdS Try.prog 8 3 = true := by kernel_rfl
theorem ag9 : agT Try.prog 9 = some false := by kernel_rfl
theorem ldA9 : ldA Try.prog 9 = false := by kernel_rfl
theorem ldS9 : ldS Try.prog 9 = true := by kernel_rfl
theorem nz9 : nzT Try.prog 9 = [none] := by kernel_rfl
theorem sz9 : szT Try.prog 9 = some 1 := by kernel_rfl
theorem szn9 : szN Try.prog 9 = 1 := by kernel_rfl
theorem zv9 : zvT Try.prog 9 = some [.string ⟨#[]⟩] := by kernel_rfl
theorem str9 : isStr Try.prog 9 = true := by kernel_rfl
theorem ag10 : agT Try.prog 10 = some false := by kernel_rfl
theorem ldA10 : ldA Try.prog 10 = false := by kernel_rfl
theorem ldS10 : ldS Try.prog 10 = true := by kernel_rfl
theorem nz10 : nzT Try.prog 10 = [none] := by kernel_rfl
theorem sz10 : szT Try.prog 10 = some 1 := by kernel_rfl
theorem szn10 : szN Try.prog 10 = 1 := by kernel_rfl
theorem zv10 : zvT Try.prog 10 = some [.string ⟨#[]⟩] := by kernel_rfl
theorem str10 : isStr Try.prog 10 = true := by kernel_rfl
theorem ag11 : agT Try.prog 11 = some false := by kernel_rfl
theorem ldA11 : ldA Try.prog 11 = false := by kernel_rfl
theorem ldS11 : ldS Try.prog 11 = true := by kernel_rfl
theorem nz11 : nzT Try.prog 11 = [none] := by kernel_rfl
theorem sz11 : szT Try.prog 11 = some 1 := by kernel_rfl
theorem szn11 : szN Try.prog 11 = 1 := by kernel_rfl
theorem zv11 : zvT Try.prog 11 = some [.string ⟨#[]⟩] := by kernel_rfl
theorem str11 : isStr Try.prog 11 = true := by kernel_rfl
theorem ag12 : agT Try.prog 12 = some false := by kernel_rfl
theorem ldA12 : ldA Try.prog 12 = false := by kernel_rfl
theorem ldS12 : ldS Try.prog 12 = true := by kernel_rfl
theorem nz12 : nzT Try.prog 12 = [none] := by kernel_rfl
theorem sz12 : szT Try.prog 12 = some 1 := by kernel_rfl
theorem szn12 : szN Try.prog 12 = 1 := by kernel_rfl
theorem zv12 : zvT Try.prog 12 = some [.int .u64 0] := by kernel_rfl
theorem int12 : intKd Try.prog 12 = some .u64 := by kernel_rfl
theorem ag13 : agT Try.prog 13 = some true := by kernel_rfl
theorem ldA13 : ldA Try.prog 13 = true := by kernel_rfl
theorem nz13 : nzT Try.prog 13 = [none, none] := by kernel_rfl
theorem sz13 : szT Try.prog 13 = some 2 := by kernel_rfl
theorem szn13 : szN Try.prog 13 = 2 := by kernel_rfl
theorem zv13 : zvT Try.prog 13 = some [.string ⟨#[]⟩, .int .u64 0] := by kernel_rfl
theorem bd13 : bdOk Try.prog 13 = true := by kernel_rfl
theorem pl13_0 : plT Try.prog 13 0 = some (0, 1) := by kernel_rfl
theorem pl13_1 : plT Try.prog 13 1 = some (1, 1) := by kernel_rfl
theorem fo13_0 : fdO Try.prog 13 0 = 0 := by kernel_rfl
theorem fn13_0 : fdN Try.prog 13 0 = 1 := by kernel_rfl
theorem fk13_0 : fdOk Try.prog 13 0 = true := by kernel_rfl
theorem fs13_0 : fdS Try.prog 13 0 = true := by kernel_rfl
theorem fo13_1 : fdO Try.prog 13 1 = 1 := by kernel_rfl
theorem fn13_1 : fdN Try.prog 13 1 = 1 := by kernel_rfl
theorem fk13_1 : fdOk Try.prog 13 1 = true := by kernel_rfl
theorem fs13_1 : fdS Try.prog 13 1 = true := by kernel_rfl
theorem ag14 : agT Try.prog 14 = some true := by kernel_rfl
theorem ldA14 : ldA Try.prog 14 = true := by kernel_rfl
theorem nz14 : nzT Try.prog 14 = [none, none] := by kernel_rfl
theorem sz14 : szT Try.prog 14 = some 2 := by kernel_rfl
theorem szn14 : szN Try.prog 14 = 2 := by kernel_rfl
theorem zv14 : zvT Try.prog 14 = some [.string ⟨#[]⟩, .int .u64 0] := by kernel_rfl
theorem bd14 : bdOk Try.prog 14 = true := by kernel_rfl
theorem pl14_0 : plT Try.prog 14 0 = some (0, 1) := by kernel_rfl
theorem pl14_1 : plT Try.prog 14 1 = some (1, 1) := by kernel_rfl
theorem fo14_0 : fdO Try.prog 14 0 = 0 := by kernel_rfl
theorem fn14_0 : fdN Try.prog 14 0 = 1 := by kernel_rfl
theorem fk14_0 : fdOk Try.prog 14 0 = true := by kernel_rfl
theorem fs14_0 : fdS Try.prog 14 0 = true := by kernel_rfl
theorem fo14_1 : fdO Try.prog 14 1 = 1 := by kernel_rfl
theorem fn14_1 : fdN Try.prog 14 1 = 1 := by kernel_rfl
theorem fk14_1 : fdOk Try.prog 14 1 = true := by kernel_rfl
theorem fs14_1 : fdS Try.prog 14 1 = true := by kernel_rfl
theorem ag15 : agT Try.prog 15 = some false := by kernel_rfl
theorem ldA15 : ldA Try.prog 15 = false := by kernel_rfl
theorem ldS15 : ldS Try.prog 15 = true := by kernel_rfl
theorem nz15 : nzT Try.prog 15 = [none] := by kernel_rfl
theorem sz15 : szT Try.prog 15 = some 1 := by kernel_rfl
theorem szn15 : szN Try.prog 15 = 1 := by kernel_rfl
theorem zv15 : zvT Try.prog 15 = some [.pointer none] := by kernel_rfl
theorem ag16 : agT Try.prog 16 = some false := by kernel_rfl
theorem ldA16 : ldA Try.prog 16 = false := by kernel_rfl
theorem ldS16 : ldS Try.prog 16 = true := by kernel_rfl
theorem nz16 : nzT Try.prog 16 = [none] := by kernel_rfl
theorem sz16 : szT Try.prog 16 = some 1 := by kernel_rfl
theorem szn16 : szN Try.prog 16 = 1 := by kernel_rfl
theorem zv16 : zvT Try.prog 16 = some [.pointer none] := by kernel_rfl
theorem ag17 : agT Try.prog 17 = some false := by kernel_rfl
theorem ldA17 : ldA Try.prog 17 = false := by kernel_rfl
theorem ldS17 : ldS Try.prog 17 = true := by kernel_rfl
theorem nz17 : nzT Try.prog 17 = [none] := by kernel_rfl
theorem sz17 : szT Try.prog 17 = some 1 := by kernel_rfl
theorem szn17 : szN Try.prog 17 = 1 := by kernel_rfl
theorem zv17 : zvT Try.prog 17 = some [.pointer none] := by kernel_rfl
theorem ag18 : agT Try.prog 18 = some true := by kernel_rfl
theorem ldA18 : ldA Try.prog 18 = true := by kernel_rfl
theorem nz18 : nzT Try.prog 18 = [none] := by kernel_rfl
theorem sz18 : szT Try.prog 18 = some 1 := by kernel_rfl
theorem szn18 : szN Try.prog 18 = 1 := by kernel_rfl
theorem zv18 : zvT Try.prog 18 = some [.pointer none] := by kernel_rfl
theorem bd18 : bdOk Try.prog 18 = true := by kernel_rfl
theorem pl18_0 : plT Try.prog 18 0 = some (0, 1) := by kernel_rfl
theorem fo18_0 : fdO Try.prog 18 0 = 0 := by kernel_rfl
theorem fn18_0 : fdN Try.prog 18 0 = 1 := by kernel_rfl
theorem fk18_0 : fdOk Try.prog 18 0 = true := by kernel_rfl
theorem fs18_0 : fdS Try.prog 18 0 = true := by kernel_rfl
theorem ag19 : agT Try.prog 19 = some true := by kernel_rfl
theorem ldA19 : ldA Try.prog 19 = true := by kernel_rfl
theorem nz19 : nzT Try.prog 19 = [none] := by kernel_rfl
theorem sz19 : szT Try.prog 19 = some 1 := by kernel_rfl
theorem szn19 : szN Try.prog 19 = 1 := by kernel_rfl
theorem zv19 : zvT Try.prog 19 = some [.pointer none] := by kernel_rfl
theorem bd19 : bdOk Try.prog 19 = true := by kernel_rfl
theorem pl19_0 : plT Try.prog 19 0 = some (0, 1) := by kernel_rfl
theorem fo19_0 : fdO Try.prog 19 0 = 0 := by kernel_rfl
theorem fn19_0 : fdN Try.prog 19 0 = 1 := by kernel_rfl
theorem fk19_0 : fdOk Try.prog 19 0 = true := by kernel_rfl
theorem fs19_0 : fdS Try.prog 19 0 = true := by kernel_rfl
theorem ag21 : agT Try.prog 21 = some false := by kernel_rfl
theorem ldA21 : ldA Try.prog 21 = false := by kernel_rfl
theorem ldS21 : ldS Try.prog 21 = true := by kernel_rfl
theorem nz21 : nzT Try.prog 21 = [none] := by kernel_rfl
theorem sz21 : szT Try.prog 21 = some 1 := by kernel_rfl
theorem szn21 : szN Try.prog 21 = 1 := by kernel_rfl
theorem zv21 : zvT Try.prog 21 = some [.int .i32 0] := by kernel_rfl
theorem int21 : intKd Try.prog 21 = some .i32 := by kernel_rfl
theorem sl22 : slT Try.prog 22 = some 1 := by kernel_rfl
theorem slz22 : slSz Try.prog 22 = 1 := by kernel_rfl
theorem zok22 : zOk Try.prog 22 = true := by kernel_rfl
theorem by22 : byN Try.prog 22 = 8 := by kernel_rfl
theorem zs22 : zsN Try.prog 22 = [.int .i64 0] := by kernel_rfl
theorem ag22 : agT Try.prog 22 = some false := by kernel_rfl
theorem ldA22 : ldA Try.prog 22 = false := by kernel_rfl
theorem ldS22 : ldS Try.prog 22 = true := by kernel_rfl
theorem nz22 : nzT Try.prog 22 = [some 1] := by kernel_rfl
theorem nze22 : nzE Try.prog 22 = [none] := by kernel_rfl
theorem sz22 : szT Try.prog 22 = some 1 := by kernel_rfl
theorem szn22 : szN Try.prog 22 = 1 := by kernel_rfl
theorem zv22 : zvT Try.prog 22 = some [.slice none 0 0] := by kernel_rfl
theorem ag23 : agT Try.prog 23 = some true := by kernel_rfl
theorem ldA23 : ldA Try.prog 23 = true := by kernel_rfl
theorem nz23 : nzT Try.prog 23 = [none, none, some 1] := by kernel_rfl
theorem sz23 : szT Try.prog 23 = some 3 := by kernel_rfl
theorem szn23 : szN Try.prog 23 = 3 := by kernel_rfl
theorem zv23 : zvT Try.prog 23 = some [.int .i64 0, .int .i64 0, .slice none 0 0] := by kernel_rfl
theorem bd23 : bdOk Try.prog 23 = true := by kernel_rfl
theorem pl23_0 : plT Try.prog 23 0 = some (0, 1) := by kernel_rfl
theorem pl23_1 : plT Try.prog 23 1 = some (1, 1) := by kernel_rfl
theorem pl23_2 : plT Try.prog 23 2 = some (2, 1) := by kernel_rfl
theorem fo23_0 : fdO Try.prog 23 0 = 0 := by kernel_rfl
theorem fn23_0 : fdN Try.prog 23 0 = 1 := by kernel_rfl
theorem fk23_0 : fdOk Try.prog 23 0 = true := by kernel_rfl
theorem fs23_0 : fdS Try.prog 23 0 = true := by kernel_rfl
theorem fo23_1 : fdO Try.prog 23 1 = 1 := by kernel_rfl
theorem fn23_1 : fdN Try.prog 23 1 = 1 := by kernel_rfl
theorem fk23_1 : fdOk Try.prog 23 1 = true := by kernel_rfl
theorem fs23_1 : fdS Try.prog 23 1 = true := by kernel_rfl
theorem fo23_2 : fdO Try.prog 23 2 = 2 := by kernel_rfl
theorem fn23_2 : fdN Try.prog 23 2 = 1 := by kernel_rfl
theorem fk23_2 : fdOk Try.prog 23 2 = true := by kernel_rfl
theorem fs23_2 : fdS Try.prog 23 2 = true := by kernel_rfl
theorem ag24 : agT Try.prog 24 = some true := by kernel_rfl
theorem ldA24 : ldA Try.prog 24 = true := by kernel_rfl
theorem nz24 : nzT Try.prog 24 = [none, none, some 1] := by kernel_rfl
theorem sz24 : szT Try.prog 24 = some 3 := by kernel_rfl
theorem szn24 : szN Try.prog 24 = 3 := by kernel_rfl
theorem zv24 : zvT Try.prog 24 = some [.int .i64 0, .int .i64 0, .slice none 0 0] := by kernel_rfl
theorem bd24 : bdOk Try.prog 24 = true := by kernel_rfl
theorem pl24_0 : plT Try.prog 24 0 = some (0, 1) := by kernel_rfl
theorem pl24_1 : plT Try.prog 24 1 = some (1, 1) := by kernel_rfl
theorem pl24_2 : plT Try.prog 24 2 = some (2, 1) := by kernel_rfl
theorem fo24_0 : fdO Try.prog 24 0 = 0 := by kernel_rfl
theorem fn24_0 : fdN Try.prog 24 0 = 1 := by kernel_rfl
theorem fk24_0 : fdOk Try.prog 24 0 = true := by kernel_rfl
theorem fs24_0 : fdS Try.prog 24 0 = true := by kernel_rfl
theorem fo24_1 : fdO Try.prog 24 1 = 1 := by kernel_rfl
theorem fn24_1 : fdN Try.prog 24 1 = 1 := by kernel_rfl
theorem fk24_1 : fdOk Try.prog 24 1 = true := by kernel_rfl
theorem fs24_1 : fdS Try.prog 24 1 = true := by kernel_rfl
theorem fo24_2 : fdO Try.prog 24 2 = 2 := by kernel_rfl
theorem fn24_2 : fdN Try.prog 24 2 = 1 := by kernel_rfl
theorem fk24_2 : fdOk Try.prog 24 2 = true := by kernel_rfl
theorem fs24_2 : fdS Try.prog 24 2 = true := by kernel_rfl
theorem ag25 : agT Try.prog 25 = some true := by kernel_rfl
theorem ldA25 : ldA Try.prog 25 = true := by kernel_rfl
theorem nz25 : nzT Try.prog 25 = [none, none, none, none] := by kernel_rfl
theorem sz25 : szT Try.prog 25 = some 4 := by kernel_rfl
theorem szn25 : szN Try.prog 25 = 4 := by kernel_rfl
theorem zv25 : zvT Try.prog 25 = some [.int .i64 0, .int .i64 0, .int .i64 0, .int .i64 0] := by kernel_rfl
theorem bd25 : bdOk Try.prog 25 = true := by kernel_rfl
theorem pl25_0 : plT Try.prog 25 0 = some (0, 1) := by kernel_rfl
theorem pl25_1 : plT Try.prog 25 1 = some (1, 1) := by kernel_rfl
theorem pl25_2 : plT Try.prog 25 2 = some (2, 1) := by kernel_rfl
theorem pl25_3 : plT Try.prog 25 3 = some (3, 1) := by kernel_rfl
theorem fo25_0 : fdO Try.prog 25 0 = 0 := by kernel_rfl
theorem fn25_0 : fdN Try.prog 25 0 = 1 := by kernel_rfl
theorem fk25_0 : fdOk Try.prog 25 0 = true := by kernel_rfl
theorem fs25_0 : fdS Try.prog 25 0 = true := by kernel_rfl
theorem fo25_1 : fdO Try.prog 25 1 = 1 := by kernel_rfl
theorem fn25_1 : fdN Try.prog 25 1 = 1 := by kernel_rfl
theorem fk25_1 : fdOk Try.prog 25 1 = true := by kernel_rfl
theorem fs25_1 : fdS Try.prog 25 1 = true := by kernel_rfl
theorem fo25_2 : fdO Try.prog 25 2 = 2 := by kernel_rfl
theorem fn25_2 : fdN Try.prog 25 2 = 1 := by kernel_rfl
theorem fk25_2 : fdOk Try.prog 25 2 = true := by kernel_rfl
theorem fs25_2 : fdS Try.prog 25 2 = true := by kernel_rfl
theorem fo25_3 : fdO Try.prog 25 3 = 3 := by kernel_rfl
theorem fn25_3 : fdN Try.prog 25 3 = 1 := by kernel_rfl
theorem fk25_3 : fdOk Try.prog 25 3 = true := by kernel_rfl
theorem fs25_3 : fdS Try.prog 25 3 = true := by kernel_rfl
theorem ag26 : agT Try.prog 26 = some true := by kernel_rfl
theorem ldA26 : ldA Try.prog 26 = true := by kernel_rfl
theorem nz26 : nzT Try.prog 26 = [none, none, none, none] := by kernel_rfl
theorem sz26 : szT Try.prog 26 = some 4 := by kernel_rfl
theorem szn26 : szN Try.prog 26 = 4 := by kernel_rfl
theorem zv26 : zvT Try.prog 26 = some [.int .i64 0, .int .i64 0, .int .i64 0, .int .i64 0] := by kernel_rfl
theorem bd26 : bdOk Try.prog 26 = true := by kernel_rfl
theorem pl26_0 : plT Try.prog 26 0 = some (0, 1) := by kernel_rfl
theorem pl26_1 : plT Try.prog 26 1 = some (1, 1) := by kernel_rfl
theorem pl26_2 : plT Try.prog 26 2 = some (2, 1) := by kernel_rfl
theorem pl26_3 : plT Try.prog 26 3 = some (3, 1) := by kernel_rfl
theorem fo26_0 : fdO Try.prog 26 0 = 0 := by kernel_rfl
theorem fn26_0 : fdN Try.prog 26 0 = 1 := by kernel_rfl
theorem fk26_0 : fdOk Try.prog 26 0 = true := by kernel_rfl
theorem fs26_0 : fdS Try.prog 26 0 = true := by kernel_rfl
theorem fo26_1 : fdO Try.prog 26 1 = 1 := by kernel_rfl
theorem fn26_1 : fdN Try.prog 26 1 = 1 := by kernel_rfl
theorem fk26_1 : fdOk Try.prog 26 1 = true := by kernel_rfl
theorem fs26_1 : fdS Try.prog 26 1 = true := by kernel_rfl
theorem fo26_2 : fdO Try.prog 26 2 = 2 := by kernel_rfl
theorem fn26_2 : fdN Try.prog 26 2 = 1 := by kernel_rfl
theorem fk26_2 : fdOk Try.prog 26 2 = true := by kernel_rfl
theorem fs26_2 : fdS Try.prog 26 2 = true := by kernel_rfl
theorem fo26_3 : fdO Try.prog 26 3 = 3 := by kernel_rfl
theorem fn26_3 : fdN Try.prog 26 3 = 1 := by kernel_rfl
theorem fk26_3 : fdOk Try.prog 26 3 = true := by kernel_rfl
theorem fs26_3 : fdS Try.prog 26 3 = true := by kernel_rfl
theorem ag28 : agT Try.prog 28 = some true := by kernel_rfl
theorem ldA28 : ldA Try.prog 28 = true := by kernel_rfl
theorem nz28 : nzT Try.prog 28 = [none, none, some 1] := by kernel_rfl
theorem sz28 : szT Try.prog 28 = some 3 := by kernel_rfl
theorem szn28 : szN Try.prog 28 = 3 := by kernel_rfl
theorem zv28 : zvT Try.prog 28 = some [.int .i64 0, .int .i64 0, .slice none 0 0] := by kernel_rfl
theorem bd28 : bdOk Try.prog 28 = true := by kernel_rfl
theorem pl28_0 : plT Try.prog 28 0 = some (0, 1) := by kernel_rfl
theorem pl28_1 : plT Try.prog 28 1 = some (1, 1) := by kernel_rfl
theorem pl28_2 : plT Try.prog 28 2 = some (2, 1) := by kernel_rfl
theorem fo28_0 : fdO Try.prog 28 0 = 0 := by kernel_rfl
theorem fn28_0 : fdN Try.prog 28 0 = 1 := by kernel_rfl
theorem fk28_0 : fdOk Try.prog 28 0 = true := by kernel_rfl
theorem fs28_0 : fdS Try.prog 28 0 = true := by kernel_rfl
theorem fo28_1 : fdO Try.prog 28 1 = 1 := by kernel_rfl
theorem fn28_1 : fdN Try.prog 28 1 = 1 := by kernel_rfl
theorem fk28_1 : fdOk Try.prog 28 1 = true := by kernel_rfl
theorem fs28_1 : fdS Try.prog 28 1 = true := by kernel_rfl
theorem fo28_2 : fdO Try.prog 28 2 = 2 := by kernel_rfl
theorem fn28_2 : fdN Try.prog 28 2 = 1 := by kernel_rfl
theorem fk28_2 : fdOk Try.prog 28 2 = true := by kernel_rfl
theorem fs28_2 : fdS Try.prog 28 2 = true := by kernel_rfl
theorem ag32 : agT Try.prog 32 = some true := by kernel_rfl
theorem ldA32 : ldA Try.prog 32 = true := by kernel_rfl
theorem nz32 : nzT Try.prog 32 = [none, none, none, none] := by kernel_rfl
theorem sz32 : szT Try.prog 32 = some 4 := by kernel_rfl
theorem szn32 : szN Try.prog 32 = 4 := by kernel_rfl
theorem zv32 : zvT Try.prog 32 = some [.int .i64 0, .int .i64 0, .int .i64 0, .int .i64 0] := by kernel_rfl
theorem bd32 : bdOk Try.prog 32 = true := by kernel_rfl
theorem pl32_0 : plT Try.prog 32 0 = some (0, 1) := by kernel_rfl
theorem pl32_1 : plT Try.prog 32 1 = some (1, 1) := by kernel_rfl
theorem pl32_2 : plT Try.prog 32 2 = some (2, 1) := by kernel_rfl
theorem pl32_3 : plT Try.prog 32 3 = some (3, 1) := by kernel_rfl
theorem fo32_0 : fdO Try.prog 32 0 = 0 := by kernel_rfl
theorem fn32_0 : fdN Try.prog 32 0 = 1 := by kernel_rfl
theorem fk32_0 : fdOk Try.prog 32 0 = true := by kernel_rfl
theorem fs32_0 : fdS Try.prog 32 0 = true := by kernel_rfl
theorem fo32_1 : fdO Try.prog 32 1 = 1 := by kernel_rfl
theorem fn32_1 : fdN Try.prog 32 1 = 1 := by kernel_rfl
theorem fk32_1 : fdOk Try.prog 32 1 = true := by kernel_rfl
theorem fs32_1 : fdS Try.prog 32 1 = true := by kernel_rfl
theorem fo32_2 : fdO Try.prog 32 2 = 2 := by kernel_rfl
theorem fn32_2 : fdN Try.prog 32 2 = 1 := by kernel_rfl
theorem fk32_2 : fdOk Try.prog 32 2 = true := by kernel_rfl
theorem fs32_2 : fdS Try.prog 32 2 = true := by kernel_rfl
theorem fo32_3 : fdO Try.prog 32 3 = 3 := by kernel_rfl
theorem fn32_3 : fdN Try.prog 32 3 = 1 := by kernel_rfl
theorem fk32_3 : fdOk Try.prog 32 3 = true := by kernel_rfl
theorem fs32_3 : fdS Try.prog 32 3 = true := by kernel_rfl
theorem ag54 : agT Try.prog 54 = some true := by kernel_rfl
theorem ldA54 : ldA Try.prog 54 = true := by kernel_rfl
theorem nz54 : nzT Try.prog 54 = [none, none, none, none] := by kernel_rfl
theorem sz54 : szT Try.prog 54 = some 4 := by kernel_rfl
theorem szn54 : szN Try.prog 54 = 4 := by kernel_rfl
theorem zv54 : zvT Try.prog 54 = some [.pointer none, .pointer none, .pointer none, .string ⟨#[]⟩] := by kernel_rfl
theorem bd54 : bdOk Try.prog 54 = true := by kernel_rfl
theorem pl54_0 : plT Try.prog 54 0 = some (0, 1) := by kernel_rfl
theorem pl54_1 : plT Try.prog 54 1 = some (1, 1) := by kernel_rfl
theorem pl54_2 : plT Try.prog 54 2 = some (2, 1) := by kernel_rfl
theorem pl54_3 : plT Try.prog 54 3 = some (3, 1) := by kernel_rfl
theorem fo54_0 : fdO Try.prog 54 0 = 0 := by kernel_rfl
theorem fn54_0 : fdN Try.prog 54 0 = 1 := by kernel_rfl
theorem fk54_0 : fdOk Try.prog 54 0 = true := by kernel_rfl
theorem fs54_0 : fdS Try.prog 54 0 = true := by kernel_rfl
theorem fo54_1 : fdO Try.prog 54 1 = 1 := by kernel_rfl
theorem fn54_1 : fdN Try.prog 54 1 = 1 := by kernel_rfl
theorem fk54_1 : fdOk Try.prog 54 1 = true := by kernel_rfl
theorem fs54_1 : fdS Try.prog 54 1 = true := by kernel_rfl
theorem fo54_2 : fdO Try.prog 54 2 = 2 := by kernel_rfl
theorem fn54_2 : fdN Try.prog 54 2 = 1 := by kernel_rfl
theorem fk54_2 : fdOk Try.prog 54 2 = true := by kernel_rfl
theorem fs54_2 : fdS Try.prog 54 2 = true := by kernel_rfl
theorem fo54_3 : fdO Try.prog 54 3 = 3 := by kernel_rfl
theorem fn54_3 : fdN Try.prog 54 3 = 1 := by kernel_rfl
theorem fk54_3 : fdOk Try.prog 54 3 = true := by kernel_rfl
theorem fs54_3 : fdS Try.prog 54 3 = true := by kernel_rfl
theorem ag55 : agT Try.prog 55 = some true := by kernel_rfl
theorem ldA55 : ldA Try.prog 55 = true := by kernel_rfl
theorem nz55 : nzT Try.prog 55 = [none, none, none, none] := by kernel_rfl
theorem sz55 : szT Try.prog 55 = some 4 := by kernel_rfl
theorem szn55 : szN Try.prog 55 = 4 := by kernel_rfl
theorem zv55 : zvT Try.prog 55 = some [.pointer none, .pointer none, .pointer none, .string ⟨#[]⟩] := by kernel_rfl
theorem bd55 : bdOk Try.prog 55 = true := by kernel_rfl
theorem pl55_0 : plT Try.prog 55 0 = some (0, 1) := by kernel_rfl
theorem pl55_1 : plT Try.prog 55 1 = some (1, 1) := by kernel_rfl
theorem pl55_2 : plT Try.prog 55 2 = some (2, 1) := by kernel_rfl
theorem pl55_3 : plT Try.prog 55 3 = some (3, 1) := by kernel_rfl
theorem fo55_0 : fdO Try.prog 55 0 = 0 := by kernel_rfl
theorem fn55_0 : fdN Try.prog 55 0 = 1 := by kernel_rfl
theorem fk55_0 : fdOk Try.prog 55 0 = true := by kernel_rfl
theorem fs55_0 : fdS Try.prog 55 0 = true := by kernel_rfl
theorem fo55_1 : fdO Try.prog 55 1 = 1 := by kernel_rfl
theorem fn55_1 : fdN Try.prog 55 1 = 1 := by kernel_rfl
theorem fk55_1 : fdOk Try.prog 55 1 = true := by kernel_rfl
theorem fs55_1 : fdS Try.prog 55 1 = true := by kernel_rfl
theorem fo55_2 : fdO Try.prog 55 2 = 2 := by kernel_rfl
theorem fn55_2 : fdN Try.prog 55 2 = 1 := by kernel_rfl
theorem fk55_2 : fdOk Try.prog 55 2 = true := by kernel_rfl
theorem fs55_2 : fdS Try.prog 55 2 = true := by kernel_rfl
theorem fo55_3 : fdO Try.prog 55 3 = 3 := by kernel_rfl
theorem fn55_3 : fdN Try.prog 55 3 = 1 := by kernel_rfl
theorem fk55_3 : fdOk Try.prog 55 3 = true := by kernel_rfl
theorem fs55_3 : fdS Try.prog 55 3 = true := by kernel_rfl
theorem ag56 : agT Try.prog 56 = some true := by kernel_rfl
theorem ldA56 : ldA Try.prog 56 = true := by kernel_rfl
theorem nz56 : nzT Try.prog 56 = [] := by kernel_rfl
theorem sz56 : szT Try.prog 56 = some 0 := by kernel_rfl
theorem szn56 : szN Try.prog 56 = 0 := by kernel_rfl
theorem bd56 : bdOk Try.prog 56 = true := by kernel_rfl
theorem ag57 : agT Try.prog 57 = some true := by kernel_rfl
theorem ldA57 : ldA Try.prog 57 = true := by kernel_rfl
theorem nz57 : nzT Try.prog 57 = [] := by kernel_rfl
theorem sz57 : szT Try.prog 57 = some 0 := by kernel_rfl
theorem szn57 : szN Try.prog 57 = 0 := by kernel_rfl
theorem bd57 : bdOk Try.prog 57 = true := by kernel_rfl
theorem pl57_0 : plT Try.prog 57 0 = some (0, 0) := by kernel_rfl
theorem fo57_0 : fdO Try.prog 57 0 = 0 := by kernel_rfl
theorem fn57_0 : fdN Try.prog 57 0 = 0 := by kernel_rfl
theorem ag58 : agT Try.prog 58 = some true := by kernel_rfl
theorem ldA58 : ldA Try.prog 58 = true := by kernel_rfl
theorem nz58 : nzT Try.prog 58 = [] := by kernel_rfl
theorem sz58 : szT Try.prog 58 = some 0 := by kernel_rfl
theorem szn58 : szN Try.prog 58 = 0 := by kernel_rfl
theorem bd58 : bdOk Try.prog 58 = true := by kernel_rfl
theorem pl58_0 : plT Try.prog 58 0 = some (0, 0) := by kernel_rfl
theorem fo58_0 : fdO Try.prog 58 0 = 0 := by kernel_rfl
theorem fn58_0 : fdN Try.prog 58 0 = 0 := by kernel_rfl
theorem ag60 : agT Try.prog 60 = some false := by kernel_rfl
theorem ldA60 : ldA Try.prog 60 = false := by kernel_rfl
theorem ldS60 : ldS Try.prog 60 = true := by kernel_rfl
theorem nz60 : nzT Try.prog 60 = [none] := by kernel_rfl
theorem sz60 : szT Try.prog 60 = some 1 := by kernel_rfl
theorem szn60 : szN Try.prog 60 = 1 := by kernel_rfl
theorem zv60 : zvT Try.prog 60 = some [.int .u32 0] := by kernel_rfl
theorem int60 : intKd Try.prog 60 = some .u32 := by kernel_rfl
theorem ag61 : agT Try.prog 61 = some false := by kernel_rfl
theorem ldA61 : ldA Try.prog 61 = false := by kernel_rfl
theorem ldS61 : ldS Try.prog 61 = true := by kernel_rfl
theorem nz61 : nzT Try.prog 61 = [none] := by kernel_rfl
theorem sz61 : szT Try.prog 61 = some 1 := by kernel_rfl
theorem szn61 : szN Try.prog 61 = 1 := by kernel_rfl
theorem zv61 : zvT Try.prog 61 = some [.int .u8 0] := by kernel_rfl
theorem int61 : intKd Try.prog 61 = some .u8 := by kernel_rfl
theorem ag62 : agT Try.prog 62 = some false := by kernel_rfl
theorem ldA62 : ldA Try.prog 62 = false := by kernel_rfl
theorem ldS62 : ldS Try.prog 62 = true := by kernel_rfl
theorem nz62 : nzT Try.prog 62 = [none] := by kernel_rfl
theorem sz62 : szT Try.prog 62 = some 1 := by kernel_rfl
theorem szn62 : szN Try.prog 62 = 1 := by kernel_rfl
theorem zv62 : zvT Try.prog 62 = some [.int .u8 0] := by kernel_rfl
theorem int62 : intKd Try.prog 62 = some .u8 := by kernel_rfl
theorem ag64 : agT Try.prog 64 = some false := by kernel_rfl
theorem ldA64 : ldA Try.prog 64 = false := by kernel_rfl
theorem ldS64 : ldS Try.prog 64 = true := by kernel_rfl
theorem nz64 : nzT Try.prog 64 = [none] := by kernel_rfl
theorem sz64 : szT Try.prog 64 = some 1 := by kernel_rfl
theorem szn64 : szN Try.prog 64 = 1 := by kernel_rfl
theorem zv64 : zvT Try.prog 64 = some [.pointer none] := by kernel_rfl
theorem ag65 : agT Try.prog 65 = some false := by kernel_rfl
theorem ldA65 : ldA Try.prog 65 = false := by kernel_rfl
theorem ldS65 : ldS Try.prog 65 = true := by kernel_rfl
theorem nz65 : nzT Try.prog 65 = [none] := by kernel_rfl
theorem sz65 : szT Try.prog 65 = some 1 := by kernel_rfl
theorem szn65 : szN Try.prog 65 = 1 := by kernel_rfl
theorem zv65 : zvT Try.prog 65 = some [.int .i32 0] := by kernel_rfl
theorem int65 : intKd Try.prog 65 = some .i32 := by kernel_rfl
theorem ag66 : agT Try.prog 66 = some false := by kernel_rfl
theorem ldA66 : ldA Try.prog 66 = false := by kernel_rfl
theorem ldS66 : ldS Try.prog 66 = true := by kernel_rfl
theorem nz66 : nzT Try.prog 66 = [none] := by kernel_rfl
theorem sz66 : szT Try.prog 66 = some 1 := by kernel_rfl
theorem szn66 : szN Try.prog 66 = 1 := by kernel_rfl
theorem zv66 : zvT Try.prog 66 = some [.int .i32 0] := by kernel_rfl
theorem int66 : intKd Try.prog 66 = some .i32 := by kernel_rfl
theorem ag67 : agT Try.prog 67 = some true := by kernel_rfl
theorem ldA67 : ldA Try.prog 67 = true := by kernel_rfl
theorem nz67 : nzT Try.prog 67 = [none, none, none, none, none, none, none, none, none, none, none] := by kernel_rfl
theorem sz67 : szT Try.prog 67 = some 11 := by kernel_rfl
theorem szn67 : szN Try.prog 67 = 11 := by kernel_rfl
theorem zv67 : zvT Try.prog 67 = some [.int .u64 0, .int .u64 0, .int .u32 0, .int .u8 0, .int .u8 0, .int .u8 0, .int .u8 0, .nilFunc, .pointer none, .int .i32 0, .int .i32 0] := by kernel_rfl
theorem bd67 : bdOk Try.prog 67 = true := by kernel_rfl
theorem pl67_0 : plT Try.prog 67 0 = some (0, 1) := by kernel_rfl
theorem pl67_1 : plT Try.prog 67 1 = some (1, 1) := by kernel_rfl
theorem pl67_2 : plT Try.prog 67 2 = some (2, 1) := by kernel_rfl
theorem pl67_3 : plT Try.prog 67 3 = some (3, 1) := by kernel_rfl
theorem pl67_4 : plT Try.prog 67 4 = some (4, 1) := by kernel_rfl
theorem pl67_5 : plT Try.prog 67 5 = some (5, 1) := by kernel_rfl
theorem pl67_6 : plT Try.prog 67 6 = some (6, 1) := by kernel_rfl
theorem pl67_8 : plT Try.prog 67 8 = some (8, 1) := by kernel_rfl
theorem pl67_9 : plT Try.prog 67 9 = some (9, 1) := by kernel_rfl
theorem pl67_10 : plT Try.prog 67 10 = some (10, 1) := by kernel_rfl
theorem fo67_0 : fdO Try.prog 67 0 = 0 := by kernel_rfl
theorem fn67_0 : fdN Try.prog 67 0 = 1 := by kernel_rfl
theorem fk67_0 : fdOk Try.prog 67 0 = true := by kernel_rfl
theorem fs67_0 : fdS Try.prog 67 0 = true := by kernel_rfl
theorem fo67_1 : fdO Try.prog 67 1 = 1 := by kernel_rfl
theorem fn67_1 : fdN Try.prog 67 1 = 1 := by kernel_rfl
theorem fk67_1 : fdOk Try.prog 67 1 = true := by kernel_rfl
theorem fs67_1 : fdS Try.prog 67 1 = true := by kernel_rfl
theorem fo67_2 : fdO Try.prog 67 2 = 2 := by kernel_rfl
theorem fn67_2 : fdN Try.prog 67 2 = 1 := by kernel_rfl
theorem fk67_2 : fdOk Try.prog 67 2 = true := by kernel_rfl
theorem fs67_2 : fdS Try.prog 67 2 = true := by kernel_rfl
theorem fo67_3 : fdO Try.prog 67 3 = 3 := by kernel_rfl
theorem fn67_3 : fdN Try.prog 67 3 = 1 := by kernel_rfl
theorem fk67_3 : fdOk Try.prog 67 3 = true := by kernel_rfl
theorem fs67_3 : fdS Try.prog 67 3 = true := by kernel_rfl
theorem fo67_4 : fdO Try.prog 67 4 = 4 := by kernel_rfl
theorem fn67_4 : fdN Try.prog 67 4 = 1 := by kernel_rfl
theorem fk67_4 : fdOk Try.prog 67 4 = true := by kernel_rfl
theorem fs67_4 : fdS Try.prog 67 4 = true := by kernel_rfl
theorem fo67_5 : fdO Try.prog 67 5 = 5 := by kernel_rfl
theorem fn67_5 : fdN Try.prog 67 5 = 1 := by kernel_rfl
theorem fk67_5 : fdOk Try.prog 67 5 = true := by kernel_rfl
theorem fs67_5 : fdS Try.prog 67 5 = true := by kernel_rfl
theorem fo67_6 : fdO Try.prog 67 6 = 6 := by kernel_rfl
theorem fn67_6 : fdN Try.prog 67 6 = 1 := by kernel_rfl
theorem fk67_6 : fdOk Try.prog 67 6 = true := by kernel_rfl
theorem fs67_6 : fdS Try.prog 67 6 = true := by kernel_rfl
theorem fo67_8 : fdO Try.prog 67 8 = 8 := by kernel_rfl
theorem fn67_8 : fdN Try.prog 67 8 = 1 := by kernel_rfl
theorem fk67_8 : fdOk Try.prog 67 8 = true := by kernel_rfl
theorem fs67_8 : fdS Try.prog 67 8 = true := by kernel_rfl
theorem fo67_9 : fdO Try.prog 67 9 = 9 := by kernel_rfl
theorem fn67_9 : fdN Try.prog 67 9 = 1 := by kernel_rfl
theorem fk67_9 : fdOk Try.prog 67 9 = true := by kernel_rfl
theorem fs67_9 : fdS Try.prog 67 9 = true := by kernel_rfl
theorem fo67_10 : fdO Try.prog 67 10 = 10 := by kernel_rfl
theorem fn67_10 : fdN Try.prog 67 10 = 1 := by kernel_rfl
theorem fk67_10 : fdOk Try.prog 67 10 = true := by kernel_rfl
theorem fs67_10 : fdS Try.prog 67 10 = true := by kernel_rfl
theorem ag68 : agT Try.prog 68 = some true := by kernel_rfl
theorem ldA68 : ldA Try.prog 68 = true := by kernel_rfl
theorem nz68 : nzT Try.prog 68 = [none, none, none, none, none, none, none, none, none, none, none] := by kernel_rfl
theorem sz68 : szT Try.prog 68 = some 11 := by kernel_rfl
theorem szn68 : szN Try.prog 68 = 11 := by kernel_rfl
theorem zv68 : zvT Try.prog 68 = some [.int .u64 0, .int .u64 0, .int .u32 0, .int .u8 0, .int .u8 0, .int .u8 0, .int .u8 0, .nilFunc, .pointer none, .int .i32 0, .int .i32 0] := by kernel_rfl
theorem bd68 : bdOk Try.prog 68 = true := by kernel_rfl
theorem pl68_0 : plT Try.prog 68 0 = some (0, 1) := by kernel_rfl
theorem pl68_1 : plT Try.prog 68 1 = some (1, 1) := by kernel_rfl
theorem pl68_2 : plT Try.prog 68 2 = some (2, 1) := by kernel_rfl
theorem pl68_3 : plT Try.prog 68 3 = some (3, 1) := by kernel_rfl
theorem pl68_4 : plT Try.prog 68 4 = some (4, 1) := by kernel_rfl
theorem pl68_5 : plT Try.prog 68 5 = some (5, 1) := by kernel_rfl
theorem pl68_6 : plT Try.prog 68 6 = some (6, 1) := by kernel_rfl
theorem pl68_8 : plT Try.prog 68 8 = some (8, 1) := by kernel_rfl
theorem pl68_9 : plT Try.prog 68 9 = some (9, 1) := by kernel_rfl
theorem pl68_10 : plT Try.prog 68 10 = some (10, 1) := by kernel_rfl
theorem fo68_0 : fdO Try.prog 68 0 = 0 := by kernel_rfl
theorem fn68_0 : fdN Try.prog 68 0 = 1 := by kernel_rfl
theorem fk68_0 : fdOk Try.prog 68 0 = true := by kernel_rfl
theorem fs68_0 : fdS Try.prog 68 0 = true := by kernel_rfl
theorem fo68_1 : fdO Try.prog 68 1 = 1 := by kernel_rfl
theorem fn68_1 : fdN Try.prog 68 1 = 1 := by kernel_rfl
theorem fk68_1 : fdOk Try.prog 68 1 = true := by kernel_rfl
theorem fs68_1 : fdS Try.prog 68 1 = true := by kernel_rfl
theorem fo68_2 : fdO Try.prog 68 2 = 2 := by kernel_rfl
theorem fn68_2 : fdN Try.prog 68 2 = 1 := by kernel_rfl
theorem fk68_2 : fdOk Try.prog 68 2 = true := by kernel_rfl
theorem fs68_2 : fdS Try.prog 68 2 = true := by kernel_rfl
theorem fo68_3 : fdO Try.prog 68 3 = 3 := by kernel_rfl
theorem fn68_3 : fdN Try.prog 68 3 = 1 := by kernel_rfl
theorem fk68_3 : fdOk Try.prog 68 3 = true := by kernel_rfl
theorem fs68_3 : fdS Try.prog 68 3 = true := by kernel_rfl
theorem fo68_4 : fdO Try.prog 68 4 = 4 := by kernel_rfl
theorem fn68_4 : fdN Try.prog 68 4 = 1 := by kernel_rfl
theorem fk68_4 : fdOk Try.prog 68 4 = true := by kernel_rfl
theorem fs68_4 : fdS Try.prog 68 4 = true := by kernel_rfl
theorem fo68_5 : fdO Try.prog 68 5 = 5 := by kernel_rfl
theorem fn68_5 : fdN Try.prog 68 5 = 1 := by kernel_rfl
theorem fk68_5 : fdOk Try.prog 68 5 = true := by kernel_rfl
theorem fs68_5 : fdS Try.prog 68 5 = true := by kernel_rfl
theorem fo68_6 : fdO Try.prog 68 6 = 6 := by kernel_rfl
theorem fn68_6 : fdN Try.prog 68 6 = 1 := by kernel_rfl
theorem fk68_6 : fdOk Try.prog 68 6 = true := by kernel_rfl
theorem fs68_6 : fdS Try.prog 68 6 = true := by kernel_rfl
theorem fo68_8 : fdO Try.prog 68 8 = 8 := by kernel_rfl
theorem fn68_8 : fdN Try.prog 68 8 = 1 := by kernel_rfl
theorem fk68_8 : fdOk Try.prog 68 8 = true := by kernel_rfl
theorem fs68_8 : fdS Try.prog 68 8 = true := by kernel_rfl
theorem fo68_9 : fdO Try.prog 68 9 = 9 := by kernel_rfl
theorem fn68_9 : fdN Try.prog 68 9 = 1 := by kernel_rfl
theorem fk68_9 : fdOk Try.prog 68 9 = true := by kernel_rfl
theorem fs68_9 : fdS Try.prog 68 9 = true := by kernel_rfl
theorem fo68_10 : fdO Try.prog 68 10 = 10 := by kernel_rfl
theorem fn68_10 : fdN Try.prog 68 10 = 1 := by kernel_rfl
theorem fk68_10 : fdOk Try.prog 68 10 = true := by kernel_rfl
theorem fs68_10 : fdS Try.prog 68 10 = true := by kernel_rfl
end Ty
end Go.Av
