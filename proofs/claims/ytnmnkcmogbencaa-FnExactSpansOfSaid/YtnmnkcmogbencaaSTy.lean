/- What the types of this translation are. -/
import Derived.Test.YtnmnkcmogbencaaSZzN
import Derived.Test.YtnmnkcmogbencaaProg
/-! What the types of this translation are. -/
namespace Go.Av
open Go.Proofs
namespace Ty
theorem ag2 : agT Try.prog 2 = some false := by kernel_rfl
theorem ldA2 : ldA Try.prog 2 = false := by kernel_rfl
theorem ldS2 : ldS Try.prog 2 = true := by kernel_rfl
theorem sz2 : szT Try.prog 2 = some 1 := by kernel_rfl
theorem szn2 : szN Try.prog 2 = 1 := by kernel_rfl
theorem zv2 : zvT Try.prog 2 = some [.int .i64 0] := by kernel_rfl
theorem int2 : intKd Try.prog 2 = some .i64 := by kernel_rfl
theorem ag3 : agT Try.prog 3 = some false := by kernel_rfl
theorem ldA3 : ldA Try.prog 3 = false := by kernel_rfl
theorem ldS3 : ldS Try.prog 3 = true := by kernel_rfl
theorem sz3 : szT Try.prog 3 = some 1 := by kernel_rfl
theorem szn3 : szN Try.prog 3 = 1 := by kernel_rfl
theorem zv3 : zvT Try.prog 3 = some [.int .i64 0] := by kernel_rfl
theorem int3 : intKd Try.prog 3 = some .i64 := by kernel_rfl
theorem ag4 : agT Try.prog 4 = some false := by kernel_rfl
theorem ldA4 : ldA Try.prog 4 = false := by kernel_rfl
theorem ldS4 : ldS Try.prog 4 = true := by kernel_rfl
theorem sz4 : szT Try.prog 4 = some 1 := by kernel_rfl
theorem szn4 : szN Try.prog 4 = 1 := by kernel_rfl
theorem zv4 : zvT Try.prog 4 = some [.bool false] := by kernel_rfl
theorem bl4 : isBl Try.prog 4 = true := by kernel_rfl
theorem ag5 : agT Try.prog 5 = some false := by kernel_rfl
theorem ldA5 : ldA Try.prog 5 = false := by kernel_rfl
theorem ldS5 : ldS Try.prog 5 = true := by kernel_rfl
theorem sz5 : szT Try.prog 5 = some 1 := by kernel_rfl
theorem szn5 : szN Try.prog 5 = 1 := by kernel_rfl
theorem zv5 : zvT Try.prog 5 = some [.int .u8 0] := by kernel_rfl
theorem int5 : intKd Try.prog 5 = some .u8 := by kernel_rfl
theorem ag6 : agT Try.prog 6 = some false := by kernel_rfl
theorem ldA6 : ldA Try.prog 6 = false := by kernel_rfl
theorem ldS6 : ldS Try.prog 6 = true := by kernel_rfl
theorem sz6 : szT Try.prog 6 = some 1 := by kernel_rfl
theorem szn6 : szN Try.prog 6 = 1 := by kernel_rfl
theorem zv6 : zvT Try.prog 6 = some [.int .u8 0] := by kernel_rfl
theorem int6 : intKd Try.prog 6 = some .u8 := by kernel_rfl
theorem ag7 : agT Try.prog 7 = some true := by kernel_rfl
theorem ldA7 : ldA Try.prog 7 = true := by kernel_rfl
theorem sz7 : szT Try.prog 7 = some 4 := by kernel_rfl
theorem szn7 : szN Try.prog 7 = 4 := by kernel_rfl
theorem zv7 : zvT Try.prog 7 = some [.int .i64 0, .int .i64 0, .bool false, .int .u8 0] := by kernel_rfl
theorem bd7 : bdOk Try.prog 7 = true := by kernel_rfl
theorem pl7_0 : plT Try.prog 7 0 = some (0, 1) := by kernel_rfl
theorem pl7_1 : plT Try.prog 7 1 = some (1, 1) := by kernel_rfl
theorem pl7_2 : plT Try.prog 7 2 = some (2, 1) := by kernel_rfl
theorem pl7_3 : plT Try.prog 7 3 = some (3, 1) := by kernel_rfl
theorem fo7_0 : fdO Try.prog 7 0 = 0 := by kernel_rfl
theorem fn7_0 : fdN Try.prog 7 0 = 1 := by kernel_rfl
theorem fk7_0 : fdOk Try.prog 7 0 = true := by kernel_rfl
theorem fs7_0 : fdS Try.prog 7 0 = true := by kernel_rfl
theorem fo7_1 : fdO Try.prog 7 1 = 1 := by kernel_rfl
theorem fn7_1 : fdN Try.prog 7 1 = 1 := by kernel_rfl
theorem fk7_1 : fdOk Try.prog 7 1 = true := by kernel_rfl
theorem fs7_1 : fdS Try.prog 7 1 = true := by kernel_rfl
theorem fo7_2 : fdO Try.prog 7 2 = 2 := by kernel_rfl
theorem fn7_2 : fdN Try.prog 7 2 = 1 := by kernel_rfl
theorem fk7_2 : fdOk Try.prog 7 2 = true := by kernel_rfl
theorem fs7_2 : fdS Try.prog 7 2 = true := by kernel_rfl
theorem fo7_3 : fdO Try.prog 7 3 = 3 := by kernel_rfl
theorem fn7_3 : fdN Try.prog 7 3 = 1 := by kernel_rfl
theorem fk7_3 : fdOk Try.prog 7 3 = true := by kernel_rfl
theorem fs7_3 : fdS Try.prog 7 3 = true := by kernel_rfl
theorem ag8 : agT Try.prog 8 = some true := by kernel_rfl
theorem ldA8 : ldA Try.prog 8 = true := by kernel_rfl
theorem sz8 : szT Try.prog 8 = some 4 := by kernel_rfl
theorem szn8 : szN Try.prog 8 = 4 := by kernel_rfl
theorem zv8 : zvT Try.prog 8 = some [.int .i64 0, .int .i64 0, .bool false, .int .u8 0] := by kernel_rfl
theorem bd8 : bdOk Try.prog 8 = true := by kernel_rfl
theorem pl8_0 : plT Try.prog 8 0 = some (0, 1) := by kernel_rfl
theorem pl8_1 : plT Try.prog 8 1 = some (1, 1) := by kernel_rfl
theorem pl8_2 : plT Try.prog 8 2 = some (2, 1) := by kernel_rfl
theorem pl8_3 : plT Try.prog 8 3 = some (3, 1) := by kernel_rfl
theorem fo8_0 : fdO Try.prog 8 0 = 0 := by kernel_rfl
theorem fn8_0 : fdN Try.prog 8 0 = 1 := by kernel_rfl
theorem fk8_0 : fdOk Try.prog 8 0 = true := by kernel_rfl
theorem fs8_0 : fdS Try.prog 8 0 = true := by kernel_rfl
theorem fo8_1 : fdO Try.prog 8 1 = 1 := by kernel_rfl
theorem fn8_1 : fdN Try.prog 8 1 = 1 := by kernel_rfl
theorem fk8_1 : fdOk Try.prog 8 1 = true := by kernel_rfl
theorem fs8_1 : fdS Try.prog 8 1 = true := by kernel_rfl
theorem fo8_2 : fdO Try.prog 8 2 = 2 := by kernel_rfl
theorem fn8_2 : fdN Try.prog 8 2 = 1 := by kernel_rfl
theorem fk8_2 : fdOk Try.prog 8 2 = true := by kernel_rfl
theorem fs8_2 : fdS Try.prog 8 2 = true := by kernel_rfl
theorem fo8_3 : fdO Try.prog 8 3 = 3 := by kernel_rfl
theorem fn8_3 : fdN Try.prog 8 3 = 1 := by kernel_rfl
theorem fk8_3 : fdOk Try.prog 8 3 = true := by kernel_rfl
theorem fs8_3 : fdS Try.prog 8 3 = true := by kernel_rfl
theorem ag9 : agT Try.prog 9 = some false := by kernel_rfl
theorem ldA9 : ldA Try.prog 9 = false := by kernel_rfl
theorem ldS9 : ldS Try.prog 9 = true := by kernel_rfl
theorem sz9 : szT Try.prog 9 = some 1 := by kernel_rfl
theorem szn9 : szN Try.prog 9 = 1 := by kernel_rfl
theorem zv9 : zvT Try.prog 9 = some [.string ⟨#[]⟩] := by kernel_rfl
theorem str9 : isStr Try.prog 9 = true := by kernel_rfl
theorem ag10 : agT Try.prog 10 = some false := by kernel_rfl
theorem ldA10 : ldA Try.prog 10 = false := by kernel_rfl
theorem ldS10 : ldS Try.prog 10 = true := by kernel_rfl
theorem sz10 : szT Try.prog 10 = some 1 := by kernel_rfl
theorem szn10 : szN Try.prog 10 = 1 := by kernel_rfl
theorem zv10 : zvT Try.prog 10 = some [.string ⟨#[]⟩] := by kernel_rfl
theorem str10 : isStr Try.prog 10 = true := by kernel_rfl
theorem ag11 : agT Try.prog 11 = some false := by kernel_rfl
theorem ldA11 : ldA Try.prog 11 = false := by kernel_rfl
theorem ldS11 : ldS Try.prog 11 = true := by kernel_rfl
theorem sz11 : szT Try.prog 11 = some 1 := by kernel_rfl
theorem szn11 : szN Try.prog 11 = 1 := by kernel_rfl
theorem zv11 : zvT Try.prog 11 = some [.string ⟨#[]⟩] := by kernel_rfl
theorem str11 : isStr Try.prog 11 = true := by kernel_rfl
theorem ag12 : agT Try.prog 12 = some false := by kernel_rfl
theorem ldA12 : ldA Try.prog 12 = false := by kernel_rfl
theorem ldS12 : ldS Try.prog 12 = true := by kernel_rfl
theorem sz12 : szT Try.prog 12 = some 1 := by kernel_rfl
theorem szn12 : szN Try.prog 12 = 1 := by kernel_rfl
theorem zv12 : zvT Try.prog 12 = some [.int .u64 0] := by kernel_rfl
theorem int12 : intKd Try.prog 12 = some .u64 := by kernel_rfl
theorem ag13 : agT Try.prog 13 = some true := by kernel_rfl
theorem ldA13 : ldA Try.prog 13 = true := by kernel_rfl
theorem sz13 : szT Try.prog 13 = some 2 := by kernel_rfl
theorem szn13 : szN Try.prog 13 = 2 := by kernel_rfl
theorem zv13 : zvT Try.prog 13 = some [.string ⟨#[]⟩, .int .u64 0] := by kernel_rfl
theorem bd13 : bdOk Try.prog 13 = true := by kernel_rfl
theorem pl13_0 : plT Try.prog 13 0 = some (0, 1) := by kernel_rfl
theorem pl13_1 : plT Try.prog 13 1 = some (1, 1) := by kernel_rfl
theorem fo13_0 : fdO Try.prog 13 0 = 0 := by kernel_rfl
theorem fn13_0 : fdN Try.prog 13 0 = 1 := by kernel_rfl
theorem fk13_0 : fdOk Try.prog 13 0 = true := by kernel_rfl
theorem fs13_0 : fdS Try.prog 13 0 = true := by kernel_rfl
theorem fo13_1 : fdO Try.prog 13 1 = 1 := by kernel_rfl
theorem fn13_1 : fdN Try.prog 13 1 = 1 := by kernel_rfl
theorem fk13_1 : fdOk Try.prog 13 1 = true := by kernel_rfl
theorem fs13_1 : fdS Try.prog 13 1 = true := by kernel_rfl
theorem ag14 : agT Try.prog 14 = some true := by kernel_rfl
theorem ldA14 : ldA Try.prog 14 = true := by kernel_rfl
theorem sz14 : szT Try.prog 14 = some 2 := by kernel_rfl
theorem szn14 : szN Try.prog 14 = 2 := by kernel_rfl
theorem zv14 : zvT Try.prog 14 = some [.string ⟨#[]⟩, .int .u64 0] := by kernel_rfl
theorem bd14 : bdOk Try.prog 14 = true := by kernel_rfl
theorem pl14_0 : plT Try.prog 14 0 = some (0, 1) := by kernel_rfl
theorem pl14_1 : plT Try.prog 14 1 = some (1, 1) := by kernel_rfl
theorem fo14_0 : fdO Try.prog 14 0 = 0 := by kernel_rfl
theorem fn14_0 : fdN Try.prog 14 0 = 1 := by kernel_rfl
theorem fk14_0 : fdOk Try.prog 14 0 = true := by kernel_rfl
theorem fs14_0 : fdS Try.prog 14 0 = true := by kernel_rfl
theorem fo14_1 : fdO Try.prog 14 1 = 1 := by kernel_rfl
theorem fn14_1 : fdN Try.prog 14 1 = 1 := by kernel_rfl
theorem fk14_1 : fdOk Try.prog 14 1 = true := by kernel_rfl
theorem fs14_1 : fdS Try.prog 14 1 = true := by kernel_rfl
theorem ag15 : agT Try.prog 15 = some false := by kernel_rfl
theorem ldA15 : ldA Try.prog 15 = false := by kernel_rfl
theorem ldS15 : ldS Try.prog 15 = true := by kernel_rfl
theorem sz15 : szT Try.prog 15 = some 1 := by kernel_rfl
theorem szn15 : szN Try.prog 15 = 1 := by kernel_rfl
theorem zv15 : zvT Try.prog 15 = some [.pointer none] := by kernel_rfl
theorem ag16 : agT Try.prog 16 = some false := by kernel_rfl
theorem ldA16 : ldA Try.prog 16 = false := by kernel_rfl
theorem ldS16 : ldS Try.prog 16 = true := by kernel_rfl
theorem sz16 : szT Try.prog 16 = some 1 := by kernel_rfl
theorem szn16 : szN Try.prog 16 = 1 := by kernel_rfl
theorem zv16 : zvT Try.prog 16 = some [.pointer none] := by kernel_rfl
theorem ag17 : agT Try.prog 17 = some false := by kernel_rfl
theorem ldA17 : ldA Try.prog 17 = false := by kernel_rfl
theorem ldS17 : ldS Try.prog 17 = true := by kernel_rfl
theorem sz17 : szT Try.prog 17 = some 1 := by kernel_rfl
theorem szn17 : szN Try.prog 17 = 1 := by kernel_rfl
theorem zv17 : zvT Try.prog 17 = some [.pointer none] := by kernel_rfl
theorem ag18 : agT Try.prog 18 = some true := by kernel_rfl
theorem ldA18 : ldA Try.prog 18 = true := by kernel_rfl
theorem sz18 : szT Try.prog 18 = some 1 := by kernel_rfl
theorem szn18 : szN Try.prog 18 = 1 := by kernel_rfl
theorem zv18 : zvT Try.prog 18 = some [.pointer none] := by kernel_rfl
theorem bd18 : bdOk Try.prog 18 = true := by kernel_rfl
theorem pl18_0 : plT Try.prog 18 0 = some (0, 1) := by kernel_rfl
theorem fo18_0 : fdO Try.prog 18 0 = 0 := by kernel_rfl
theorem fn18_0 : fdN Try.prog 18 0 = 1 := by kernel_rfl
theorem fk18_0 : fdOk Try.prog 18 0 = true := by kernel_rfl
theorem fs18_0 : fdS Try.prog 18 0 = true := by kernel_rfl
theorem ag19 : agT Try.prog 19 = some true := by kernel_rfl
theorem ldA19 : ldA Try.prog 19 = true := by kernel_rfl
theorem sz19 : szT Try.prog 19 = some 1 := by kernel_rfl
theorem szn19 : szN Try.prog 19 = 1 := by kernel_rfl
theorem zv19 : zvT Try.prog 19 = some [.pointer none] := by kernel_rfl
theorem bd19 : bdOk Try.prog 19 = true := by kernel_rfl
theorem pl19_0 : plT Try.prog 19 0 = some (0, 1) := by kernel_rfl
theorem fo19_0 : fdO Try.prog 19 0 = 0 := by kernel_rfl
theorem fn19_0 : fdN Try.prog 19 0 = 1 := by kernel_rfl
theorem fk19_0 : fdOk Try.prog 19 0 = true := by kernel_rfl
theorem fs19_0 : fdS Try.prog 19 0 = true := by kernel_rfl
theorem ag21 : agT Try.prog 21 = some false := by kernel_rfl
theorem ldA21 : ldA Try.prog 21 = false := by kernel_rfl
theorem ldS21 : ldS Try.prog 21 = true := by kernel_rfl
theorem sz21 : szT Try.prog 21 = some 1 := by kernel_rfl
theorem szn21 : szN Try.prog 21 = 1 := by kernel_rfl
theorem zv21 : zvT Try.prog 21 = some [.int .i32 0] := by kernel_rfl
theorem int21 : intKd Try.prog 21 = some .i32 := by kernel_rfl
theorem sl22 : slT Try.prog 22 = some 1 := by kernel_rfl
theorem slz22 : slSz Try.prog 22 = 1 := by kernel_rfl
theorem zok22 : zOk Try.prog 22 = true := by kernel_rfl
theorem by22 : byN Try.prog 22 = 8 := by kernel_rfl
theorem zs22 : zsN Try.prog 22 = [.int .i64 0] := by kernel_rfl
theorem ag22 : agT Try.prog 22 = some false := by kernel_rfl
theorem ldA22 : ldA Try.prog 22 = false := by kernel_rfl
theorem ldS22 : ldS Try.prog 22 = true := by kernel_rfl
theorem sz22 : szT Try.prog 22 = some 1 := by kernel_rfl
theorem szn22 : szN Try.prog 22 = 1 := by kernel_rfl
theorem zv22 : zvT Try.prog 22 = some [.slice none 0 0] := by kernel_rfl
theorem sl28 : slT Try.prog 28 = some 3 := by kernel_rfl
theorem slz28 : slSz Try.prog 28 = 3 := by kernel_rfl
theorem zok28 : zOk Try.prog 28 = true := by kernel_rfl
theorem by28 : byN Try.prog 28 = 32 := by kernel_rfl
theorem zs28 : zsN Try.prog 28 = [.string ⟨#[]⟩, .int .i64 0, .int .i64 0] := by kernel_rfl
theorem ag28 : agT Try.prog 28 = some false := by kernel_rfl
theorem ldA28 : ldA Try.prog 28 = false := by kernel_rfl
theorem ldS28 : ldS Try.prog 28 = true := by kernel_rfl
theorem sz28 : szT Try.prog 28 = some 1 := by kernel_rfl
theorem szn28 : szN Try.prog 28 = 1 := by kernel_rfl
theorem zv28 : zvT Try.prog 28 = some [.slice none 0 0] := by kernel_rfl
theorem sl31 : slT Try.prog 31 = some 3 := by kernel_rfl
theorem slz31 : slSz Try.prog 31 = 3 := by kernel_rfl
theorem zok31 : zOk Try.prog 31 = true := by kernel_rfl
theorem by31 : byN Try.prog 31 = 32 := by kernel_rfl
theorem zs31 : zsN Try.prog 31 = [.string ⟨#[]⟩, .int .i64 0, .int .i64 0] := by kernel_rfl
theorem ag31 : agT Try.prog 31 = some false := by kernel_rfl
theorem ldA31 : ldA Try.prog 31 = false := by kernel_rfl
theorem ldS31 : ldS Try.prog 31 = true := by kernel_rfl
theorem sz31 : szT Try.prog 31 = some 1 := by kernel_rfl
theorem szn31 : szN Try.prog 31 = 1 := by kernel_rfl
theorem zv31 : zvT Try.prog 31 = some [.slice none 0 0] := by kernel_rfl
theorem sl35 : slT Try.prog 35 = some 4 := by kernel_rfl
theorem slz35 : slSz Try.prog 35 = 4 := by kernel_rfl
theorem zok35 : zOk Try.prog 35 = true := by kernel_rfl
theorem by35 : byN Try.prog 35 = 40 := by kernel_rfl
theorem zs35 : zsN Try.prog 35 = [.string ⟨#[]⟩, .int .i64 0, .int .i64 0, .int .i64 0] := by kernel_rfl
theorem ag35 : agT Try.prog 35 = some false := by kernel_rfl
theorem ldA35 : ldA Try.prog 35 = false := by kernel_rfl
theorem ldS35 : ldS Try.prog 35 = true := by kernel_rfl
theorem sz35 : szT Try.prog 35 = some 1 := by kernel_rfl
theorem szn35 : szN Try.prog 35 = 1 := by kernel_rfl
theorem zv35 : zvT Try.prog 35 = some [.slice none 0 0] := by kernel_rfl
theorem sl38 : slT Try.prog 38 = some 4 := by kernel_rfl
theorem slz38 : slSz Try.prog 38 = 4 := by kernel_rfl
theorem zok38 : zOk Try.prog 38 = true := by kernel_rfl
theorem by38 : byN Try.prog 38 = 40 := by kernel_rfl
theorem zs38 : zsN Try.prog 38 = [.string ⟨#[]⟩, .int .i64 0, .int .i64 0, .int .i64 0] := by kernel_rfl
theorem ag38 : agT Try.prog 38 = some false := by kernel_rfl
theorem ldA38 : ldA Try.prog 38 = false := by kernel_rfl
theorem ldS38 : ldS Try.prog 38 = true := by kernel_rfl
theorem sz38 : szT Try.prog 38 = some 1 := by kernel_rfl
theorem szn38 : szN Try.prog 38 = 1 := by kernel_rfl
theorem zv38 : zvT Try.prog 38 = some [.slice none 0 0] := by kernel_rfl
theorem ag42 : agT Try.prog 42 = some true := by kernel_rfl
theorem ldA42 : ldA Try.prog 42 = true := by kernel_rfl
theorem sz42 : szT Try.prog 42 = some 3 := by kernel_rfl
theorem szn42 : szN Try.prog 42 = 3 := by kernel_rfl
theorem zv42 : zvT Try.prog 42 = some [.int .i64 0, .int .i64 0, .slice none 0 0] := by kernel_rfl
theorem bd42 : bdOk Try.prog 42 = true := by kernel_rfl
theorem pl42_0 : plT Try.prog 42 0 = some (0, 1) := by kernel_rfl
theorem pl42_1 : plT Try.prog 42 1 = some (1, 1) := by kernel_rfl
theorem pl42_2 : plT Try.prog 42 2 = some (2, 1) := by kernel_rfl
theorem fo42_0 : fdO Try.prog 42 0 = 0 := by kernel_rfl
theorem fn42_0 : fdN Try.prog 42 0 = 1 := by kernel_rfl
theorem fk42_0 : fdOk Try.prog 42 0 = true := by kernel_rfl
theorem fs42_0 : fdS Try.prog 42 0 = true := by kernel_rfl
theorem fo42_1 : fdO Try.prog 42 1 = 1 := by kernel_rfl
theorem fn42_1 : fdN Try.prog 42 1 = 1 := by kernel_rfl
theorem fk42_1 : fdOk Try.prog 42 1 = true := by kernel_rfl
theorem fs42_1 : fdS Try.prog 42 1 = true := by kernel_rfl
theorem fo42_2 : fdO Try.prog 42 2 = 2 := by kernel_rfl
theorem fn42_2 : fdN Try.prog 42 2 = 1 := by kernel_rfl
theorem fk42_2 : fdOk Try.prog 42 2 = true := by kernel_rfl
theorem fs42_2 : fdS Try.prog 42 2 = true := by kernel_rfl
theorem ag43 : agT Try.prog 43 = some true := by kernel_rfl
theorem ldA43 : ldA Try.prog 43 = true := by kernel_rfl
theorem sz43 : szT Try.prog 43 = some 3 := by kernel_rfl
theorem szn43 : szN Try.prog 43 = 3 := by kernel_rfl
theorem zv43 : zvT Try.prog 43 = some [.int .i64 0, .int .i64 0, .slice none 0 0] := by kernel_rfl
theorem bd43 : bdOk Try.prog 43 = true := by kernel_rfl
theorem pl43_0 : plT Try.prog 43 0 = some (0, 1) := by kernel_rfl
theorem pl43_1 : plT Try.prog 43 1 = some (1, 1) := by kernel_rfl
theorem pl43_2 : plT Try.prog 43 2 = some (2, 1) := by kernel_rfl
theorem fo43_0 : fdO Try.prog 43 0 = 0 := by kernel_rfl
theorem fn43_0 : fdN Try.prog 43 0 = 1 := by kernel_rfl
theorem fk43_0 : fdOk Try.prog 43 0 = true := by kernel_rfl
theorem fs43_0 : fdS Try.prog 43 0 = true := by kernel_rfl
theorem fo43_1 : fdO Try.prog 43 1 = 1 := by kernel_rfl
theorem fn43_1 : fdN Try.prog 43 1 = 1 := by kernel_rfl
theorem fk43_1 : fdOk Try.prog 43 1 = true := by kernel_rfl
theorem fs43_1 : fdS Try.prog 43 1 = true := by kernel_rfl
theorem fo43_2 : fdO Try.prog 43 2 = 2 := by kernel_rfl
theorem fn43_2 : fdN Try.prog 43 2 = 1 := by kernel_rfl
theorem fk43_2 : fdOk Try.prog 43 2 = true := by kernel_rfl
theorem fs43_2 : fdS Try.prog 43 2 = true := by kernel_rfl
theorem ag45 : agT Try.prog 45 = some true := by kernel_rfl
theorem ldA45 : ldA Try.prog 45 = true := by kernel_rfl
theorem sz45 : szT Try.prog 45 = some 4 := by kernel_rfl
theorem szn45 : szN Try.prog 45 = 4 := by kernel_rfl
theorem zv45 : zvT Try.prog 45 = some [.int .i64 0, .int .i64 0, .int .i64 0, .int .i64 0] := by kernel_rfl
theorem bd45 : bdOk Try.prog 45 = true := by kernel_rfl
theorem pl45_0 : plT Try.prog 45 0 = some (0, 1) := by kernel_rfl
theorem pl45_1 : plT Try.prog 45 1 = some (1, 1) := by kernel_rfl
theorem pl45_2 : plT Try.prog 45 2 = some (2, 1) := by kernel_rfl
theorem pl45_3 : plT Try.prog 45 3 = some (3, 1) := by kernel_rfl
theorem fo45_0 : fdO Try.prog 45 0 = 0 := by kernel_rfl
theorem fn45_0 : fdN Try.prog 45 0 = 1 := by kernel_rfl
theorem fk45_0 : fdOk Try.prog 45 0 = true := by kernel_rfl
theorem fs45_0 : fdS Try.prog 45 0 = true := by kernel_rfl
theorem fo45_1 : fdO Try.prog 45 1 = 1 := by kernel_rfl
theorem fn45_1 : fdN Try.prog 45 1 = 1 := by kernel_rfl
theorem fk45_1 : fdOk Try.prog 45 1 = true := by kernel_rfl
theorem fs45_1 : fdS Try.prog 45 1 = true := by kernel_rfl
theorem fo45_2 : fdO Try.prog 45 2 = 2 := by kernel_rfl
theorem fn45_2 : fdN Try.prog 45 2 = 1 := by kernel_rfl
theorem fk45_2 : fdOk Try.prog 45 2 = true := by kernel_rfl
theorem fs45_2 : fdS Try.prog 45 2 = true := by kernel_rfl
theorem fo45_3 : fdO Try.prog 45 3 = 3 := by kernel_rfl
theorem fn45_3 : fdN Try.prog 45 3 = 1 := by kernel_rfl
theorem fk45_3 : fdOk Try.prog 45 3 = true := by kernel_rfl
theorem fs45_3 : fdS Try.prog 45 3 = true := by kernel_rfl
theorem ag46 : agT Try.prog 46 = some true := by kernel_rfl
theorem ldA46 : ldA Try.prog 46 = true := by kernel_rfl
theorem sz46 : szT Try.prog 46 = some 4 := by kernel_rfl
theorem szn46 : szN Try.prog 46 = 4 := by kernel_rfl
theorem zv46 : zvT Try.prog 46 = some [.int .i64 0, .int .i64 0, .int .i64 0, .int .i64 0] := by kernel_rfl
theorem bd46 : bdOk Try.prog 46 = true := by kernel_rfl
theorem pl46_0 : plT Try.prog 46 0 = some (0, 1) := by kernel_rfl
theorem pl46_1 : plT Try.prog 46 1 = some (1, 1) := by kernel_rfl
theorem pl46_2 : plT Try.prog 46 2 = some (2, 1) := by kernel_rfl
theorem pl46_3 : plT Try.prog 46 3 = some (3, 1) := by kernel_rfl
theorem fo46_0 : fdO Try.prog 46 0 = 0 := by kernel_rfl
theorem fn46_0 : fdN Try.prog 46 0 = 1 := by kernel_rfl
theorem fk46_0 : fdOk Try.prog 46 0 = true := by kernel_rfl
theorem fs46_0 : fdS Try.prog 46 0 = true := by kernel_rfl
theorem fo46_1 : fdO Try.prog 46 1 = 1 := by kernel_rfl
theorem fn46_1 : fdN Try.prog 46 1 = 1 := by kernel_rfl
theorem fk46_1 : fdOk Try.prog 46 1 = true := by kernel_rfl
theorem fs46_1 : fdS Try.prog 46 1 = true := by kernel_rfl
theorem fo46_2 : fdO Try.prog 46 2 = 2 := by kernel_rfl
theorem fn46_2 : fdN Try.prog 46 2 = 1 := by kernel_rfl
theorem fk46_2 : fdOk Try.prog 46 2 = true := by kernel_rfl
theorem fs46_2 : fdS Try.prog 46 2 = true := by kernel_rfl
theorem fo46_3 : fdO Try.prog 46 3 = 3 := by kernel_rfl
theorem fn46_3 : fdN Try.prog 46 3 = 1 := by kernel_rfl
theorem fk46_3 : fdOk Try.prog 46 3 = true := by kernel_rfl
theorem fs46_3 : fdS Try.prog 46 3 = true := by kernel_rfl
theorem ag47 : agT Try.prog 47 = some true := by kernel_rfl
theorem ldA47 : ldA Try.prog 47 = true := by kernel_rfl
theorem sz47 : szT Try.prog 47 = some 6 := by kernel_rfl
theorem szn47 : szN Try.prog 47 = 6 := by kernel_rfl
theorem zv47 : zvT Try.prog 47 = some [.int .i64 0, .int .i64 0, .int .i64 0, .int .i64 0, .int .i64 0, .int .i64 0] := by kernel_rfl
theorem bd47 : bdOk Try.prog 47 = true := by kernel_rfl
theorem pl47_0 : plT Try.prog 47 0 = some (0, 1) := by kernel_rfl
theorem pl47_1 : plT Try.prog 47 1 = some (1, 1) := by kernel_rfl
theorem pl47_2 : plT Try.prog 47 2 = some (2, 4) := by kernel_rfl
theorem fo47_0 : fdO Try.prog 47 0 = 0 := by kernel_rfl
theorem fn47_0 : fdN Try.prog 47 0 = 1 := by kernel_rfl
theorem fk47_0 : fdOk Try.prog 47 0 = true := by kernel_rfl
theorem fs47_0 : fdS Try.prog 47 0 = true := by kernel_rfl
theorem fo47_1 : fdO Try.prog 47 1 = 1 := by kernel_rfl
theorem fn47_1 : fdN Try.prog 47 1 = 1 := by kernel_rfl
theorem fk47_1 : fdOk Try.prog 47 1 = true := by kernel_rfl
theorem fs47_1 : fdS Try.prog 47 1 = true := by kernel_rfl
theorem fo47_2 : fdO Try.prog 47 2 = 2 := by kernel_rfl
theorem fn47_2 : fdN Try.prog 47 2 = 4 := by kernel_rfl
theorem fk47_2 : fdOk Try.prog 47 2 = true := by kernel_rfl
theorem ag48 : agT Try.prog 48 = some true := by kernel_rfl
theorem ldA48 : ldA Try.prog 48 = true := by kernel_rfl
theorem sz48 : szT Try.prog 48 = some 6 := by kernel_rfl
theorem szn48 : szN Try.prog 48 = 6 := by kernel_rfl
theorem zv48 : zvT Try.prog 48 = some [.int .i64 0, .int .i64 0, .int .i64 0, .int .i64 0, .int .i64 0, .int .i64 0] := by kernel_rfl
theorem bd48 : bdOk Try.prog 48 = true := by kernel_rfl
theorem pl48_0 : plT Try.prog 48 0 = some (0, 1) := by kernel_rfl
theorem pl48_1 : plT Try.prog 48 1 = some (1, 1) := by kernel_rfl
theorem pl48_2 : plT Try.prog 48 2 = some (2, 4) := by kernel_rfl
theorem fo48_0 : fdO Try.prog 48 0 = 0 := by kernel_rfl
theorem fn48_0 : fdN Try.prog 48 0 = 1 := by kernel_rfl
theorem fk48_0 : fdOk Try.prog 48 0 = true := by kernel_rfl
theorem fs48_0 : fdS Try.prog 48 0 = true := by kernel_rfl
theorem fo48_1 : fdO Try.prog 48 1 = 1 := by kernel_rfl
theorem fn48_1 : fdN Try.prog 48 1 = 1 := by kernel_rfl
theorem fk48_1 : fdOk Try.prog 48 1 = true := by kernel_rfl
theorem fs48_1 : fdS Try.prog 48 1 = true := by kernel_rfl
theorem fo48_2 : fdO Try.prog 48 2 = 2 := by kernel_rfl
theorem fn48_2 : fdN Try.prog 48 2 = 4 := by kernel_rfl
theorem fk48_2 : fdOk Try.prog 48 2 = true := by kernel_rfl
theorem ag51 : agT Try.prog 51 = some true := by kernel_rfl
theorem ldA51 : ldA Try.prog 51 = true := by kernel_rfl
theorem sz51 : szT Try.prog 51 = some 3 := by kernel_rfl
theorem szn51 : szN Try.prog 51 = 3 := by kernel_rfl
theorem zv51 : zvT Try.prog 51 = some [.int .i64 0, .int .i64 0, .slice none 0 0] := by kernel_rfl
theorem bd51 : bdOk Try.prog 51 = true := by kernel_rfl
theorem pl51_0 : plT Try.prog 51 0 = some (0, 1) := by kernel_rfl
theorem pl51_1 : plT Try.prog 51 1 = some (1, 1) := by kernel_rfl
theorem pl51_2 : plT Try.prog 51 2 = some (2, 1) := by kernel_rfl
theorem fo51_0 : fdO Try.prog 51 0 = 0 := by kernel_rfl
theorem fn51_0 : fdN Try.prog 51 0 = 1 := by kernel_rfl
theorem fk51_0 : fdOk Try.prog 51 0 = true := by kernel_rfl
theorem fs51_0 : fdS Try.prog 51 0 = true := by kernel_rfl
theorem fo51_1 : fdO Try.prog 51 1 = 1 := by kernel_rfl
theorem fn51_1 : fdN Try.prog 51 1 = 1 := by kernel_rfl
theorem fk51_1 : fdOk Try.prog 51 1 = true := by kernel_rfl
theorem fs51_1 : fdS Try.prog 51 1 = true := by kernel_rfl
theorem fo51_2 : fdO Try.prog 51 2 = 2 := by kernel_rfl
theorem fn51_2 : fdN Try.prog 51 2 = 1 := by kernel_rfl
theorem fk51_2 : fdOk Try.prog 51 2 = true := by kernel_rfl
theorem fs51_2 : fdS Try.prog 51 2 = true := by kernel_rfl
theorem ag56 : agT Try.prog 56 = some true := by kernel_rfl
theorem ldA56 : ldA Try.prog 56 = true := by kernel_rfl
theorem sz56 : szT Try.prog 56 = some 4 := by kernel_rfl
theorem szn56 : szN Try.prog 56 = 4 := by kernel_rfl
theorem zv56 : zvT Try.prog 56 = some [.int .i64 0, .int .i64 0, .int .i64 0, .int .i64 0] := by kernel_rfl
theorem bd56 : bdOk Try.prog 56 = true := by kernel_rfl
theorem pl56_0 : plT Try.prog 56 0 = some (0, 1) := by kernel_rfl
theorem pl56_1 : plT Try.prog 56 1 = some (1, 1) := by kernel_rfl
theorem pl56_2 : plT Try.prog 56 2 = some (2, 1) := by kernel_rfl
theorem pl56_3 : plT Try.prog 56 3 = some (3, 1) := by kernel_rfl
theorem fo56_0 : fdO Try.prog 56 0 = 0 := by kernel_rfl
theorem fn56_0 : fdN Try.prog 56 0 = 1 := by kernel_rfl
theorem fk56_0 : fdOk Try.prog 56 0 = true := by kernel_rfl
theorem fs56_0 : fdS Try.prog 56 0 = true := by kernel_rfl
theorem fo56_1 : fdO Try.prog 56 1 = 1 := by kernel_rfl
theorem fn56_1 : fdN Try.prog 56 1 = 1 := by kernel_rfl
theorem fk56_1 : fdOk Try.prog 56 1 = true := by kernel_rfl
theorem fs56_1 : fdS Try.prog 56 1 = true := by kernel_rfl
theorem fo56_2 : fdO Try.prog 56 2 = 2 := by kernel_rfl
theorem fn56_2 : fdN Try.prog 56 2 = 1 := by kernel_rfl
theorem fk56_2 : fdOk Try.prog 56 2 = true := by kernel_rfl
theorem fs56_2 : fdS Try.prog 56 2 = true := by kernel_rfl
theorem fo56_3 : fdO Try.prog 56 3 = 3 := by kernel_rfl
theorem fn56_3 : fdN Try.prog 56 3 = 1 := by kernel_rfl
theorem fk56_3 : fdOk Try.prog 56 3 = true := by kernel_rfl
theorem fs56_3 : fdS Try.prog 56 3 = true := by kernel_rfl
theorem sl64 : slT Try.prog 64 = some 3 := by kernel_rfl
theorem slz64 : slSz Try.prog 64 = 3 := by kernel_rfl
theorem zok64 : zOk Try.prog 64 = true := by kernel_rfl
theorem by64 : byN Try.prog 64 = 32 := by kernel_rfl
theorem zs64 : zsN Try.prog 64 = [.int .i64 0, .string ⟨#[]⟩, .bool false] := by kernel_rfl
theorem ag64 : agT Try.prog 64 = some false := by kernel_rfl
theorem ldA64 : ldA Try.prog 64 = false := by kernel_rfl
theorem ldS64 : ldS Try.prog 64 = true := by kernel_rfl
theorem sz64 : szT Try.prog 64 = some 1 := by kernel_rfl
theorem szn64 : szN Try.prog 64 = 1 := by kernel_rfl
theorem zv64 : zvT Try.prog 64 = some [.slice none 0 0] := by kernel_rfl
theorem sl68 : slT Try.prog 68 = some 3 := by kernel_rfl
theorem slz68 : slSz Try.prog 68 = 3 := by kernel_rfl
theorem zok68 : zOk Try.prog 68 = true := by kernel_rfl
theorem by68 : byN Try.prog 68 = 32 := by kernel_rfl
theorem zs68 : zsN Try.prog 68 = [.int .i64 0, .string ⟨#[]⟩, .bool false] := by kernel_rfl
theorem ag68 : agT Try.prog 68 = some false := by kernel_rfl
theorem ldA68 : ldA Try.prog 68 = false := by kernel_rfl
theorem ldS68 : ldS Try.prog 68 = true := by kernel_rfl
theorem sz68 : szT Try.prog 68 = some 1 := by kernel_rfl
theorem szn68 : szN Try.prog 68 = 1 := by kernel_rfl
theorem zv68 : zvT Try.prog 68 = some [.slice none 0 0] := by kernel_rfl
theorem sl74 : slT Try.prog 74 = some 1 := by kernel_rfl
theorem slz74 : slSz Try.prog 74 = 1 := by kernel_rfl
theorem zok74 : zOk Try.prog 74 = true := by kernel_rfl
theorem by74 : byN Try.prog 74 = 16 := by kernel_rfl
theorem zs74 : zsN Try.prog 74 = [.string ⟨#[]⟩] := by kernel_rfl
theorem ag74 : agT Try.prog 74 = some false := by kernel_rfl
theorem ldA74 : ldA Try.prog 74 = false := by kernel_rfl
theorem ldS74 : ldS Try.prog 74 = true := by kernel_rfl
theorem sz74 : szT Try.prog 74 = some 1 := by kernel_rfl
theorem szn74 : szN Try.prog 74 = 1 := by kernel_rfl
theorem zv74 : zvT Try.prog 74 = some [.slice none 0 0] := by kernel_rfl
theorem sl79 : slT Try.prog 79 = some 4 := by kernel_rfl
theorem slz79 : slSz Try.prog 79 = 4 := by kernel_rfl
theorem zok79 : zOk Try.prog 79 = true := by kernel_rfl
theorem by79 : byN Try.prog 79 = 40 := by kernel_rfl
theorem zs79 : zsN Try.prog 79 = [.string ⟨#[]⟩, .int .i64 0, .int .i64 0, .int .i64 0] := by kernel_rfl
theorem ag79 : agT Try.prog 79 = some false := by kernel_rfl
theorem ldA79 : ldA Try.prog 79 = false := by kernel_rfl
theorem ldS79 : ldS Try.prog 79 = true := by kernel_rfl
theorem sz79 : szT Try.prog 79 = some 1 := by kernel_rfl
theorem szn79 : szN Try.prog 79 = 1 := by kernel_rfl
theorem zv79 : zvT Try.prog 79 = some [.slice none 0 0] := by kernel_rfl
theorem sl86 : slT Try.prog 86 = some 1 := by kernel_rfl
theorem slz86 : slSz Try.prog 86 = 1 := by kernel_rfl
theorem zok86 : zOk Try.prog 86 = true := by kernel_rfl
theorem by86 : byN Try.prog 86 = 1 := by kernel_rfl
theorem zs86 : zsN Try.prog 86 = [.int .u8 0] := by kernel_rfl
theorem ag86 : agT Try.prog 86 = some false := by kernel_rfl
theorem ldA86 : ldA Try.prog 86 = false := by kernel_rfl
theorem ldS86 : ldS Try.prog 86 = true := by kernel_rfl
theorem sz86 : szT Try.prog 86 = some 1 := by kernel_rfl
theorem szn86 : szN Try.prog 86 = 1 := by kernel_rfl
theorem zv86 : zvT Try.prog 86 = some [.slice none 0 0] := by kernel_rfl
theorem u886 : u8sl Try.prog 86 = true := by kernel_rfl
theorem ag88 : agT Try.prog 88 = some true := by kernel_rfl
theorem ldA88 : ldA Try.prog 88 = true := by kernel_rfl
theorem sz88 : szT Try.prog 88 = some 4 := by kernel_rfl
theorem szn88 : szN Try.prog 88 = 4 := by kernel_rfl
theorem zv88 : zvT Try.prog 88 = some [.string ⟨#[]⟩, .int .i64 0, .int .i64 0, .int .i64 0] := by kernel_rfl
theorem bd88 : bdOk Try.prog 88 = true := by kernel_rfl
theorem pl88_0 : plT Try.prog 88 0 = some (0, 1) := by kernel_rfl
theorem pl88_1 : plT Try.prog 88 1 = some (1, 1) := by kernel_rfl
theorem pl88_2 : plT Try.prog 88 2 = some (2, 1) := by kernel_rfl
theorem pl88_3 : plT Try.prog 88 3 = some (3, 1) := by kernel_rfl
theorem fo88_0 : fdO Try.prog 88 0 = 0 := by kernel_rfl
theorem fn88_0 : fdN Try.prog 88 0 = 1 := by kernel_rfl
theorem fk88_0 : fdOk Try.prog 88 0 = true := by kernel_rfl
theorem fs88_0 : fdS Try.prog 88 0 = true := by kernel_rfl
theorem fo88_1 : fdO Try.prog 88 1 = 1 := by kernel_rfl
theorem fn88_1 : fdN Try.prog 88 1 = 1 := by kernel_rfl
theorem fk88_1 : fdOk Try.prog 88 1 = true := by kernel_rfl
theorem fs88_1 : fdS Try.prog 88 1 = true := by kernel_rfl
theorem fo88_2 : fdO Try.prog 88 2 = 2 := by kernel_rfl
theorem fn88_2 : fdN Try.prog 88 2 = 1 := by kernel_rfl
theorem fk88_2 : fdOk Try.prog 88 2 = true := by kernel_rfl
theorem fs88_2 : fdS Try.prog 88 2 = true := by kernel_rfl
theorem fo88_3 : fdO Try.prog 88 3 = 3 := by kernel_rfl
theorem fn88_3 : fdN Try.prog 88 3 = 1 := by kernel_rfl
theorem fk88_3 : fdOk Try.prog 88 3 = true := by kernel_rfl
theorem fs88_3 : fdS Try.prog 88 3 = true := by kernel_rfl
theorem ag89 : agT Try.prog 89 = some true := by kernel_rfl
theorem ldA89 : ldA Try.prog 89 = true := by kernel_rfl
theorem sz89 : szT Try.prog 89 = some 4 := by kernel_rfl
theorem szn89 : szN Try.prog 89 = 4 := by kernel_rfl
theorem zv89 : zvT Try.prog 89 = some [.string ⟨#[]⟩, .int .i64 0, .int .i64 0, .int .i64 0] := by kernel_rfl
theorem bd89 : bdOk Try.prog 89 = true := by kernel_rfl
theorem pl89_0 : plT Try.prog 89 0 = some (0, 1) := by kernel_rfl
theorem pl89_1 : plT Try.prog 89 1 = some (1, 1) := by kernel_rfl
theorem pl89_2 : plT Try.prog 89 2 = some (2, 1) := by kernel_rfl
theorem pl89_3 : plT Try.prog 89 3 = some (3, 1) := by kernel_rfl
theorem fo89_0 : fdO Try.prog 89 0 = 0 := by kernel_rfl
theorem fn89_0 : fdN Try.prog 89 0 = 1 := by kernel_rfl
theorem fk89_0 : fdOk Try.prog 89 0 = true := by kernel_rfl
theorem fs89_0 : fdS Try.prog 89 0 = true := by kernel_rfl
theorem fo89_1 : fdO Try.prog 89 1 = 1 := by kernel_rfl
theorem fn89_1 : fdN Try.prog 89 1 = 1 := by kernel_rfl
theorem fk89_1 : fdOk Try.prog 89 1 = true := by kernel_rfl
theorem fs89_1 : fdS Try.prog 89 1 = true := by kernel_rfl
theorem fo89_2 : fdO Try.prog 89 2 = 2 := by kernel_rfl
theorem fn89_2 : fdN Try.prog 89 2 = 1 := by kernel_rfl
theorem fk89_2 : fdOk Try.prog 89 2 = true := by kernel_rfl
theorem fs89_2 : fdS Try.prog 89 2 = true := by kernel_rfl
theorem fo89_3 : fdO Try.prog 89 3 = 3 := by kernel_rfl
theorem fn89_3 : fdN Try.prog 89 3 = 1 := by kernel_rfl
theorem fk89_3 : fdOk Try.prog 89 3 = true := by kernel_rfl
theorem fs89_3 : fdS Try.prog 89 3 = true := by kernel_rfl
theorem ag90 : agT Try.prog 90 = some true := by kernel_rfl
theorem ldA90 : ldA Try.prog 90 = true := by kernel_rfl
theorem sz90 : szT Try.prog 90 = some 4 := by kernel_rfl
theorem szn90 : szN Try.prog 90 = 4 := by kernel_rfl
theorem zv90 : zvT Try.prog 90 = some [.string ⟨#[]⟩, .int .i64 0, .int .i64 0, .int .i64 0] := by kernel_rfl
theorem bd90 : bdOk Try.prog 90 = true := by kernel_rfl
theorem pl90_0 : plT Try.prog 90 0 = some (0, 1) := by kernel_rfl
theorem pl90_1 : plT Try.prog 90 1 = some (1, 1) := by kernel_rfl
theorem pl90_2 : plT Try.prog 90 2 = some (2, 1) := by kernel_rfl
theorem pl90_3 : plT Try.prog 90 3 = some (3, 1) := by kernel_rfl
theorem fo90_0 : fdO Try.prog 90 0 = 0 := by kernel_rfl
theorem fn90_0 : fdN Try.prog 90 0 = 1 := by kernel_rfl
theorem fk90_0 : fdOk Try.prog 90 0 = true := by kernel_rfl
theorem fs90_0 : fdS Try.prog 90 0 = true := by kernel_rfl
theorem fo90_1 : fdO Try.prog 90 1 = 1 := by kernel_rfl
theorem fn90_1 : fdN Try.prog 90 1 = 1 := by kernel_rfl
theorem fk90_1 : fdOk Try.prog 90 1 = true := by kernel_rfl
theorem fs90_1 : fdS Try.prog 90 1 = true := by kernel_rfl
theorem fo90_2 : fdO Try.prog 90 2 = 2 := by kernel_rfl
theorem fn90_2 : fdN Try.prog 90 2 = 1 := by kernel_rfl
theorem fk90_2 : fdOk Try.prog 90 2 = true := by kernel_rfl
theorem fs90_2 : fdS Try.prog 90 2 = true := by kernel_rfl
theorem fo90_3 : fdO Try.prog 90 3 = 3 := by kernel_rfl
theorem fn90_3 : fdN Try.prog 90 3 = 1 := by kernel_rfl
theorem fk90_3 : fdOk Try.prog 90 3 = true := by kernel_rfl
theorem fs90_3 : fdS Try.prog 90 3 = true := by kernel_rfl
theorem ag91 : agT Try.prog 91 = some true := by kernel_rfl
theorem ldA91 : ldA Try.prog 91 = true := by kernel_rfl
theorem sz91 : szT Try.prog 91 = some 4 := by kernel_rfl
theorem szn91 : szN Try.prog 91 = 4 := by kernel_rfl
theorem zv91 : zvT Try.prog 91 = some [.string ⟨#[]⟩, .int .i64 0, .int .i64 0, .int .i64 0] := by kernel_rfl
theorem bd91 : bdOk Try.prog 91 = true := by kernel_rfl
theorem pl91_0 : plT Try.prog 91 0 = some (0, 1) := by kernel_rfl
theorem pl91_1 : plT Try.prog 91 1 = some (1, 1) := by kernel_rfl
theorem pl91_2 : plT Try.prog 91 2 = some (2, 1) := by kernel_rfl
theorem pl91_3 : plT Try.prog 91 3 = some (3, 1) := by kernel_rfl
theorem fo91_0 : fdO Try.prog 91 0 = 0 := by kernel_rfl
theorem fn91_0 : fdN Try.prog 91 0 = 1 := by kernel_rfl
theorem fk91_0 : fdOk Try.prog 91 0 = true := by kernel_rfl
theorem fs91_0 : fdS Try.prog 91 0 = true := by kernel_rfl
theorem fo91_1 : fdO Try.prog 91 1 = 1 := by kernel_rfl
theorem fn91_1 : fdN Try.prog 91 1 = 1 := by kernel_rfl
theorem fk91_1 : fdOk Try.prog 91 1 = true := by kernel_rfl
theorem fs91_1 : fdS Try.prog 91 1 = true := by kernel_rfl
theorem fo91_2 : fdO Try.prog 91 2 = 2 := by kernel_rfl
theorem fn91_2 : fdN Try.prog 91 2 = 1 := by kernel_rfl
theorem fk91_2 : fdOk Try.prog 91 2 = true := by kernel_rfl
theorem fs91_2 : fdS Try.prog 91 2 = true := by kernel_rfl
theorem fo91_3 : fdO Try.prog 91 3 = 3 := by kernel_rfl
theorem fn91_3 : fdN Try.prog 91 3 = 1 := by kernel_rfl
theorem fk91_3 : fdOk Try.prog 91 3 = true := by kernel_rfl
theorem fs91_3 : fdS Try.prog 91 3 = true := by kernel_rfl
theorem ag101 : agT Try.prog 101 = some true := by kernel_rfl
theorem ldA101 : ldA Try.prog 101 = true := by kernel_rfl
theorem sz101 : szT Try.prog 101 = some 3 := by kernel_rfl
theorem szn101 : szN Try.prog 101 = 3 := by kernel_rfl
theorem zv101 : zvT Try.prog 101 = some [.string ⟨#[]⟩, .int .i64 0, .int .i64 0] := by kernel_rfl
theorem bd101 : bdOk Try.prog 101 = true := by kernel_rfl
theorem pl101_0 : plT Try.prog 101 0 = some (0, 1) := by kernel_rfl
theorem pl101_1 : plT Try.prog 101 1 = some (1, 1) := by kernel_rfl
theorem pl101_2 : plT Try.prog 101 2 = some (2, 1) := by kernel_rfl
theorem fo101_0 : fdO Try.prog 101 0 = 0 := by kernel_rfl
theorem fn101_0 : fdN Try.prog 101 0 = 1 := by kernel_rfl
theorem fk101_0 : fdOk Try.prog 101 0 = true := by kernel_rfl
theorem fs101_0 : fdS Try.prog 101 0 = true := by kernel_rfl
theorem fo101_1 : fdO Try.prog 101 1 = 1 := by kernel_rfl
theorem fn101_1 : fdN Try.prog 101 1 = 1 := by kernel_rfl
theorem fk101_1 : fdOk Try.prog 101 1 = true := by kernel_rfl
theorem fs101_1 : fdS Try.prog 101 1 = true := by kernel_rfl
theorem fo101_2 : fdO Try.prog 101 2 = 2 := by kernel_rfl
theorem fn101_2 : fdN Try.prog 101 2 = 1 := by kernel_rfl
theorem fk101_2 : fdOk Try.prog 101 2 = true := by kernel_rfl
theorem fs101_2 : fdS Try.prog 101 2 = true := by kernel_rfl
theorem ag102 : agT Try.prog 102 = some true := by kernel_rfl
theorem ldA102 : ldA Try.prog 102 = true := by kernel_rfl
theorem sz102 : szT Try.prog 102 = some 3 := by kernel_rfl
theorem szn102 : szN Try.prog 102 = 3 := by kernel_rfl
theorem zv102 : zvT Try.prog 102 = some [.string ⟨#[]⟩, .int .i64 0, .int .i64 0] := by kernel_rfl
theorem bd102 : bdOk Try.prog 102 = true := by kernel_rfl
theorem pl102_0 : plT Try.prog 102 0 = some (0, 1) := by kernel_rfl
theorem pl102_1 : plT Try.prog 102 1 = some (1, 1) := by kernel_rfl
theorem pl102_2 : plT Try.prog 102 2 = some (2, 1) := by kernel_rfl
theorem fo102_0 : fdO Try.prog 102 0 = 0 := by kernel_rfl
theorem fn102_0 : fdN Try.prog 102 0 = 1 := by kernel_rfl
theorem fk102_0 : fdOk Try.prog 102 0 = true := by kernel_rfl
theorem fs102_0 : fdS Try.prog 102 0 = true := by kernel_rfl
theorem fo102_1 : fdO Try.prog 102 1 = 1 := by kernel_rfl
theorem fn102_1 : fdN Try.prog 102 1 = 1 := by kernel_rfl
theorem fk102_1 : fdOk Try.prog 102 1 = true := by kernel_rfl
theorem fs102_1 : fdS Try.prog 102 1 = true := by kernel_rfl
theorem fo102_2 : fdO Try.prog 102 2 = 2 := by kernel_rfl
theorem fn102_2 : fdN Try.prog 102 2 = 1 := by kernel_rfl
theorem fk102_2 : fdOk Try.prog 102 2 = true := by kernel_rfl
theorem fs102_2 : fdS Try.prog 102 2 = true := by kernel_rfl
theorem ag103 : agT Try.prog 103 = some true := by kernel_rfl
theorem ldA103 : ldA Try.prog 103 = true := by kernel_rfl
theorem sz103 : szT Try.prog 103 = some 3 := by kernel_rfl
theorem szn103 : szN Try.prog 103 = 3 := by kernel_rfl
theorem zv103 : zvT Try.prog 103 = some [.string ⟨#[]⟩, .int .i64 0, .int .i64 0] := by kernel_rfl
theorem bd103 : bdOk Try.prog 103 = true := by kernel_rfl
theorem pl103_0 : plT Try.prog 103 0 = some (0, 1) := by kernel_rfl
theorem pl103_1 : plT Try.prog 103 1 = some (1, 1) := by kernel_rfl
theorem pl103_2 : plT Try.prog 103 2 = some (2, 1) := by kernel_rfl
theorem fo103_0 : fdO Try.prog 103 0 = 0 := by kernel_rfl
theorem fn103_0 : fdN Try.prog 103 0 = 1 := by kernel_rfl
theorem fk103_0 : fdOk Try.prog 103 0 = true := by kernel_rfl
theorem fs103_0 : fdS Try.prog 103 0 = true := by kernel_rfl
theorem fo103_1 : fdO Try.prog 103 1 = 1 := by kernel_rfl
theorem fn103_1 : fdN Try.prog 103 1 = 1 := by kernel_rfl
theorem fk103_1 : fdOk Try.prog 103 1 = true := by kernel_rfl
theorem fs103_1 : fdS Try.prog 103 1 = true := by kernel_rfl
theorem fo103_2 : fdO Try.prog 103 2 = 2 := by kernel_rfl
theorem fn103_2 : fdN Try.prog 103 2 = 1 := by kernel_rfl
theorem fk103_2 : fdOk Try.prog 103 2 = true := by kernel_rfl
theorem fs103_2 : fdS Try.prog 103 2 = true := by kernel_rfl
theorem ag108 : agT Try.prog 108 = some true := by kernel_rfl
theorem ldA108 : ldA Try.prog 108 = true := by kernel_rfl
theorem sz108 : szT Try.prog 108 = some 4 := by kernel_rfl
theorem szn108 : szN Try.prog 108 = 4 := by kernel_rfl
theorem zv108 : zvT Try.prog 108 = some [.string ⟨#[]⟩, .int .i64 0, .int .i64 0, .int .i64 0] := by kernel_rfl
theorem bd108 : bdOk Try.prog 108 = true := by kernel_rfl
theorem pl108_0 : plT Try.prog 108 0 = some (0, 1) := by kernel_rfl
theorem pl108_1 : plT Try.prog 108 1 = some (1, 1) := by kernel_rfl
theorem pl108_2 : plT Try.prog 108 2 = some (2, 1) := by kernel_rfl
theorem pl108_3 : plT Try.prog 108 3 = some (3, 1) := by kernel_rfl
theorem fo108_0 : fdO Try.prog 108 0 = 0 := by kernel_rfl
theorem fn108_0 : fdN Try.prog 108 0 = 1 := by kernel_rfl
theorem fk108_0 : fdOk Try.prog 108 0 = true := by kernel_rfl
theorem fs108_0 : fdS Try.prog 108 0 = true := by kernel_rfl
theorem fo108_1 : fdO Try.prog 108 1 = 1 := by kernel_rfl
theorem fn108_1 : fdN Try.prog 108 1 = 1 := by kernel_rfl
theorem fk108_1 : fdOk Try.prog 108 1 = true := by kernel_rfl
theorem fs108_1 : fdS Try.prog 108 1 = true := by kernel_rfl
theorem fo108_2 : fdO Try.prog 108 2 = 2 := by kernel_rfl
theorem fn108_2 : fdN Try.prog 108 2 = 1 := by kernel_rfl
theorem fk108_2 : fdOk Try.prog 108 2 = true := by kernel_rfl
theorem fs108_2 : fdS Try.prog 108 2 = true := by kernel_rfl
theorem fo108_3 : fdO Try.prog 108 3 = 3 := by kernel_rfl
theorem fn108_3 : fdN Try.prog 108 3 = 1 := by kernel_rfl
theorem fk108_3 : fdOk Try.prog 108 3 = true := by kernel_rfl
theorem fs108_3 : fdS Try.prog 108 3 = true := by kernel_rfl
theorem ag123 : agT Try.prog 123 = some true := by kernel_rfl
theorem ldA123 : ldA Try.prog 123 = true := by kernel_rfl
theorem sz123 : szT Try.prog 123 = some 3 := by kernel_rfl
theorem szn123 : szN Try.prog 123 = 3 := by kernel_rfl
theorem zv123 : zvT Try.prog 123 = some [.int .i64 0, .string ⟨#[]⟩, .bool false] := by kernel_rfl
theorem bd123 : bdOk Try.prog 123 = true := by kernel_rfl
theorem pl123_0 : plT Try.prog 123 0 = some (0, 1) := by kernel_rfl
theorem pl123_1 : plT Try.prog 123 1 = some (1, 1) := by kernel_rfl
theorem pl123_2 : plT Try.prog 123 2 = some (2, 1) := by kernel_rfl
theorem fo123_0 : fdO Try.prog 123 0 = 0 := by kernel_rfl
theorem fn123_0 : fdN Try.prog 123 0 = 1 := by kernel_rfl
theorem fk123_0 : fdOk Try.prog 123 0 = true := by kernel_rfl
theorem fs123_0 : fdS Try.prog 123 0 = true := by kernel_rfl
theorem fo123_1 : fdO Try.prog 123 1 = 1 := by kernel_rfl
theorem fn123_1 : fdN Try.prog 123 1 = 1 := by kernel_rfl
theorem fk123_1 : fdOk Try.prog 123 1 = true := by kernel_rfl
theorem fs123_1 : fdS Try.prog 123 1 = true := by kernel_rfl
theorem fo123_2 : fdO Try.prog 123 2 = 2 := by kernel_rfl
theorem fn123_2 : fdN Try.prog 123 2 = 1 := by kernel_rfl
theorem fk123_2 : fdOk Try.prog 123 2 = true := by kernel_rfl
theorem fs123_2 : fdS Try.prog 123 2 = true := by kernel_rfl
theorem ag124 : agT Try.prog 124 = some true := by kernel_rfl
theorem ldA124 : ldA Try.prog 124 = true := by kernel_rfl
theorem sz124 : szT Try.prog 124 = some 3 := by kernel_rfl
theorem szn124 : szN Try.prog 124 = 3 := by kernel_rfl
theorem zv124 : zvT Try.prog 124 = some [.int .i64 0, .string ⟨#[]⟩, .bool false] := by kernel_rfl
theorem bd124 : bdOk Try.prog 124 = true := by kernel_rfl
theorem pl124_0 : plT Try.prog 124 0 = some (0, 1) := by kernel_rfl
theorem pl124_1 : plT Try.prog 124 1 = some (1, 1) := by kernel_rfl
theorem pl124_2 : plT Try.prog 124 2 = some (2, 1) := by kernel_rfl
theorem fo124_0 : fdO Try.prog 124 0 = 0 := by kernel_rfl
theorem fn124_0 : fdN Try.prog 124 0 = 1 := by kernel_rfl
theorem fk124_0 : fdOk Try.prog 124 0 = true := by kernel_rfl
theorem fs124_0 : fdS Try.prog 124 0 = true := by kernel_rfl
theorem fo124_1 : fdO Try.prog 124 1 = 1 := by kernel_rfl
theorem fn124_1 : fdN Try.prog 124 1 = 1 := by kernel_rfl
theorem fk124_1 : fdOk Try.prog 124 1 = true := by kernel_rfl
theorem fs124_1 : fdS Try.prog 124 1 = true := by kernel_rfl
theorem fo124_2 : fdO Try.prog 124 2 = 2 := by kernel_rfl
theorem fn124_2 : fdN Try.prog 124 2 = 1 := by kernel_rfl
theorem fk124_2 : fdOk Try.prog 124 2 = true := by kernel_rfl
theorem fs124_2 : fdS Try.prog 124 2 = true := by kernel_rfl
theorem ag125 : agT Try.prog 125 = some true := by kernel_rfl
theorem ldA125 : ldA Try.prog 125 = true := by kernel_rfl
theorem sz125 : szT Try.prog 125 = some 3 := by kernel_rfl
theorem szn125 : szN Try.prog 125 = 3 := by kernel_rfl
theorem zv125 : zvT Try.prog 125 = some [.int .i64 0, .string ⟨#[]⟩, .bool false] := by kernel_rfl
theorem bd125 : bdOk Try.prog 125 = true := by kernel_rfl
theorem pl125_0 : plT Try.prog 125 0 = some (0, 1) := by kernel_rfl
theorem pl125_1 : plT Try.prog 125 1 = some (1, 1) := by kernel_rfl
theorem pl125_2 : plT Try.prog 125 2 = some (2, 1) := by kernel_rfl
theorem fo125_0 : fdO Try.prog 125 0 = 0 := by kernel_rfl
theorem fn125_0 : fdN Try.prog 125 0 = 1 := by kernel_rfl
theorem fk125_0 : fdOk Try.prog 125 0 = true := by kernel_rfl
theorem fs125_0 : fdS Try.prog 125 0 = true := by kernel_rfl
theorem fo125_1 : fdO Try.prog 125 1 = 1 := by kernel_rfl
theorem fn125_1 : fdN Try.prog 125 1 = 1 := by kernel_rfl
theorem fk125_1 : fdOk Try.prog 125 1 = true := by kernel_rfl
theorem fs125_1 : fdS Try.prog 125 1 = true := by kernel_rfl
theorem fo125_2 : fdO Try.prog 125 2 = 2 := by kernel_rfl
theorem fn125_2 : fdN Try.prog 125 2 = 1 := by kernel_rfl
theorem fk125_2 : fdOk Try.prog 125 2 = true := by kernel_rfl
theorem fs125_2 : fdS Try.prog 125 2 = true := by kernel_rfl
theorem ag139 : agT Try.prog 139 = some false := by kernel_rfl
theorem ldA139 : ldA Try.prog 139 = false := by kernel_rfl
theorem ldS139 : ldS Try.prog 139 = true := by kernel_rfl
theorem sz139 : szT Try.prog 139 = some 1 := by kernel_rfl
theorem szn139 : szN Try.prog 139 = 1 := by kernel_rfl
theorem zv139 : zvT Try.prog 139 = some [.nilFunc] := by kernel_rfl
theorem ag141 : agT Try.prog 141 = some false := by kernel_rfl
theorem ldA141 : ldA Try.prog 141 = false := by kernel_rfl
theorem ldS141 : ldS Try.prog 141 = true := by kernel_rfl
theorem sz141 : szT Try.prog 141 = some 1 := by kernel_rfl
theorem szn141 : szN Try.prog 141 = 1 := by kernel_rfl
theorem zv141 : zvT Try.prog 141 = some [.pointer none] := by kernel_rfl
theorem ag142 : agT Try.prog 142 = some false := by kernel_rfl
theorem ldA142 : ldA Try.prog 142 = false := by kernel_rfl
theorem ldS142 : ldS Try.prog 142 = true := by kernel_rfl
theorem sz142 : szT Try.prog 142 = some 1 := by kernel_rfl
theorem szn142 : szN Try.prog 142 = 1 := by kernel_rfl
theorem zv142 : zvT Try.prog 142 = some [.int .u64 0] := by kernel_rfl
theorem int142 : intKd Try.prog 142 = some .u64 := by kernel_rfl
theorem ag143 : agT Try.prog 143 = some true := by kernel_rfl
theorem ldA143 : ldA Try.prog 143 = true := by kernel_rfl
theorem sz143 : szT Try.prog 143 = some 3 := by kernel_rfl
theorem szn143 : szN Try.prog 143 = 3 := by kernel_rfl
theorem zv143 : zvT Try.prog 143 = some [.slice none 0 0, .int .i64 0, .int .u64 0] := by kernel_rfl
theorem bd143 : bdOk Try.prog 143 = true := by kernel_rfl
theorem pl143_0 : plT Try.prog 143 0 = some (0, 1) := by kernel_rfl
theorem pl143_1 : plT Try.prog 143 1 = some (1, 1) := by kernel_rfl
theorem pl143_2 : plT Try.prog 143 2 = some (2, 1) := by kernel_rfl
theorem fo143_0 : fdO Try.prog 143 0 = 0 := by kernel_rfl
theorem fn143_0 : fdN Try.prog 143 0 = 1 := by kernel_rfl
theorem fk143_0 : fdOk Try.prog 143 0 = true := by kernel_rfl
theorem fs143_0 : fdS Try.prog 143 0 = true := by kernel_rfl
theorem fo143_1 : fdO Try.prog 143 1 = 1 := by kernel_rfl
theorem fn143_1 : fdN Try.prog 143 1 = 1 := by kernel_rfl
theorem fk143_1 : fdOk Try.prog 143 1 = true := by kernel_rfl
theorem fs143_1 : fdS Try.prog 143 1 = true := by kernel_rfl
theorem fo143_2 : fdO Try.prog 143 2 = 2 := by kernel_rfl
theorem fn143_2 : fdN Try.prog 143 2 = 1 := by kernel_rfl
theorem fk143_2 : fdOk Try.prog 143 2 = true := by kernel_rfl
theorem fs143_2 : fdS Try.prog 143 2 = true := by kernel_rfl
theorem ag144 : agT Try.prog 144 = some true := by kernel_rfl
theorem ldA144 : ldA Try.prog 144 = true := by kernel_rfl
theorem sz144 : szT Try.prog 144 = some 3 := by kernel_rfl
theorem szn144 : szN Try.prog 144 = 3 := by kernel_rfl
theorem zv144 : zvT Try.prog 144 = some [.slice none 0 0, .int .i64 0, .int .u64 0] := by kernel_rfl
theorem bd144 : bdOk Try.prog 144 = true := by kernel_rfl
theorem pl144_0 : plT Try.prog 144 0 = some (0, 1) := by kernel_rfl
theorem pl144_1 : plT Try.prog 144 1 = some (1, 1) := by kernel_rfl
theorem pl144_2 : plT Try.prog 144 2 = some (2, 1) := by kernel_rfl
theorem fo144_0 : fdO Try.prog 144 0 = 0 := by kernel_rfl
theorem fn144_0 : fdN Try.prog 144 0 = 1 := by kernel_rfl
theorem fk144_0 : fdOk Try.prog 144 0 = true := by kernel_rfl
theorem fs144_0 : fdS Try.prog 144 0 = true := by kernel_rfl
theorem fo144_1 : fdO Try.prog 144 1 = 1 := by kernel_rfl
theorem fn144_1 : fdN Try.prog 144 1 = 1 := by kernel_rfl
theorem fk144_1 : fdOk Try.prog 144 1 = true := by kernel_rfl
theorem fs144_1 : fdS Try.prog 144 1 = true := by kernel_rfl
theorem fo144_2 : fdO Try.prog 144 2 = 2 := by kernel_rfl
theorem fn144_2 : fdN Try.prog 144 2 = 1 := by kernel_rfl
theorem fk144_2 : fdOk Try.prog 144 2 = true := by kernel_rfl
theorem fs144_2 : fdS Try.prog 144 2 = true := by kernel_rfl
theorem ag148 : agT Try.prog 148 = some false := by kernel_rfl
theorem ldA148 : ldA Try.prog 148 = false := by kernel_rfl
theorem ldS148 : ldS Try.prog 148 = true := by kernel_rfl
theorem sz148 : szT Try.prog 148 = some 1 := by kernel_rfl
theorem szn148 : szN Try.prog 148 = 1 := by kernel_rfl
theorem zv148 : zvT Try.prog 148 = some [.int .u64 0] := by kernel_rfl
theorem int148 : intKd Try.prog 148 = some .u64 := by kernel_rfl
theorem ag158 : agT Try.prog 158 = some false := by kernel_rfl
theorem ldA158 : ldA Try.prog 158 = false := by kernel_rfl
theorem ldS158 : ldS Try.prog 158 = true := by kernel_rfl
theorem sz158 : szT Try.prog 158 = some 1 := by kernel_rfl
theorem szn158 : szN Try.prog 158 = 1 := by kernel_rfl
theorem zv158 : zvT Try.prog 158 = some [.int .i64 0] := by kernel_rfl
theorem int158 : intKd Try.prog 158 = some .i64 := by kernel_rfl
theorem ag166 : agT Try.prog 166 = some false := by kernel_rfl
theorem ldA166 : ldA Try.prog 166 = false := by kernel_rfl
theorem ldS166 : ldS Try.prog 166 = true := by kernel_rfl
theorem sz166 : szT Try.prog 166 = some 1 := by kernel_rfl
theorem szn166 : szN Try.prog 166 = 1 := by kernel_rfl
theorem zv166 : zvT Try.prog 166 = some [.int .u32 0] := by kernel_rfl
theorem int166 : intKd Try.prog 166 = some .u32 := by kernel_rfl
theorem ag168 : agT Try.prog 168 = some false := by kernel_rfl
theorem ldA168 : ldA Try.prog 168 = false := by kernel_rfl
theorem ldS168 : ldS Try.prog 168 = true := by kernel_rfl
theorem sz168 : szT Try.prog 168 = some 1 := by kernel_rfl
theorem szn168 : szN Try.prog 168 = 1 := by kernel_rfl
theorem zv168 : zvT Try.prog 168 = some [.int .u64 0] := by kernel_rfl
theorem int168 : intKd Try.prog 168 = some .u64 := by kernel_rfl
theorem ag172 : agT Try.prog 172 = some false := by kernel_rfl
theorem ldA172 : ldA Try.prog 172 = false := by kernel_rfl
theorem ldS172 : ldS Try.prog 172 = true := by kernel_rfl
theorem sz172 : szT Try.prog 172 = some 1 := by kernel_rfl
theorem szn172 : szN Try.prog 172 = 1 := by kernel_rfl
theorem zv172 : zvT Try.prog 172 = some [.pointer none] := by kernel_rfl
theorem ag174 : agT Try.prog 174 = some false := by kernel_rfl
theorem ldA174 : ldA Try.prog 174 = false := by kernel_rfl
theorem ldS174 : ldS Try.prog 174 = true := by kernel_rfl
theorem sz174 : szT Try.prog 174 = some 1 := by kernel_rfl
theorem szn174 : szN Try.prog 174 = 1 := by kernel_rfl
theorem zv174 : zvT Try.prog 174 = some [.pointer none] := by kernel_rfl
theorem ag178 : agT Try.prog 178 = some true := by kernel_rfl
theorem ldA178 : ldA Try.prog 178 = true := by kernel_rfl
theorem sz178 : szT Try.prog 178 = some 4 := by kernel_rfl
theorem szn178 : szN Try.prog 178 = 4 := by kernel_rfl
theorem zv178 : zvT Try.prog 178 = some [.pointer none, .pointer none, .pointer none, .string ⟨#[]⟩] := by kernel_rfl
theorem bd178 : bdOk Try.prog 178 = true := by kernel_rfl
theorem pl178_0 : plT Try.prog 178 0 = some (0, 1) := by kernel_rfl
theorem pl178_1 : plT Try.prog 178 1 = some (1, 1) := by kernel_rfl
theorem pl178_2 : plT Try.prog 178 2 = some (2, 1) := by kernel_rfl
theorem pl178_3 : plT Try.prog 178 3 = some (3, 1) := by kernel_rfl
theorem fo178_0 : fdO Try.prog 178 0 = 0 := by kernel_rfl
theorem fn178_0 : fdN Try.prog 178 0 = 1 := by kernel_rfl
theorem fk178_0 : fdOk Try.prog 178 0 = true := by kernel_rfl
theorem fs178_0 : fdS Try.prog 178 0 = true := by kernel_rfl
theorem fo178_1 : fdO Try.prog 178 1 = 1 := by kernel_rfl
theorem fn178_1 : fdN Try.prog 178 1 = 1 := by kernel_rfl
theorem fk178_1 : fdOk Try.prog 178 1 = true := by kernel_rfl
theorem fs178_1 : fdS Try.prog 178 1 = true := by kernel_rfl
theorem fo178_2 : fdO Try.prog 178 2 = 2 := by kernel_rfl
theorem fn178_2 : fdN Try.prog 178 2 = 1 := by kernel_rfl
theorem fk178_2 : fdOk Try.prog 178 2 = true := by kernel_rfl
theorem fs178_2 : fdS Try.prog 178 2 = true := by kernel_rfl
theorem fo178_3 : fdO Try.prog 178 3 = 3 := by kernel_rfl
theorem fn178_3 : fdN Try.prog 178 3 = 1 := by kernel_rfl
theorem fk178_3 : fdOk Try.prog 178 3 = true := by kernel_rfl
theorem fs178_3 : fdS Try.prog 178 3 = true := by kernel_rfl
theorem ag179 : agT Try.prog 179 = some true := by kernel_rfl
theorem ldA179 : ldA Try.prog 179 = true := by kernel_rfl
theorem sz179 : szT Try.prog 179 = some 4 := by kernel_rfl
theorem szn179 : szN Try.prog 179 = 4 := by kernel_rfl
theorem zv179 : zvT Try.prog 179 = some [.pointer none, .pointer none, .pointer none, .string ⟨#[]⟩] := by kernel_rfl
theorem bd179 : bdOk Try.prog 179 = true := by kernel_rfl
theorem pl179_0 : plT Try.prog 179 0 = some (0, 1) := by kernel_rfl
theorem pl179_1 : plT Try.prog 179 1 = some (1, 1) := by kernel_rfl
theorem pl179_2 : plT Try.prog 179 2 = some (2, 1) := by kernel_rfl
theorem pl179_3 : plT Try.prog 179 3 = some (3, 1) := by kernel_rfl
theorem fo179_0 : fdO Try.prog 179 0 = 0 := by kernel_rfl
theorem fn179_0 : fdN Try.prog 179 0 = 1 := by kernel_rfl
theorem fk179_0 : fdOk Try.prog 179 0 = true := by kernel_rfl
theorem fs179_0 : fdS Try.prog 179 0 = true := by kernel_rfl
theorem fo179_1 : fdO Try.prog 179 1 = 1 := by kernel_rfl
theorem fn179_1 : fdN Try.prog 179 1 = 1 := by kernel_rfl
theorem fk179_1 : fdOk Try.prog 179 1 = true := by kernel_rfl
theorem fs179_1 : fdS Try.prog 179 1 = true := by kernel_rfl
theorem fo179_2 : fdO Try.prog 179 2 = 2 := by kernel_rfl
theorem fn179_2 : fdN Try.prog 179 2 = 1 := by kernel_rfl
theorem fk179_2 : fdOk Try.prog 179 2 = true := by kernel_rfl
theorem fs179_2 : fdS Try.prog 179 2 = true := by kernel_rfl
theorem fo179_3 : fdO Try.prog 179 3 = 3 := by kernel_rfl
theorem fn179_3 : fdN Try.prog 179 3 = 1 := by kernel_rfl
theorem fk179_3 : fdOk Try.prog 179 3 = true := by kernel_rfl
theorem fs179_3 : fdS Try.prog 179 3 = true := by kernel_rfl
theorem ag180 : agT Try.prog 180 = some true := by kernel_rfl
theorem ldA180 : ldA Try.prog 180 = true := by kernel_rfl
theorem sz180 : szT Try.prog 180 = some 0 := by kernel_rfl
theorem szn180 : szN Try.prog 180 = 0 := by kernel_rfl
theorem bd180 : bdOk Try.prog 180 = true := by kernel_rfl
theorem ag181 : agT Try.prog 181 = some true := by kernel_rfl
theorem ldA181 : ldA Try.prog 181 = true := by kernel_rfl
theorem sz181 : szT Try.prog 181 = some 0 := by kernel_rfl
theorem szn181 : szN Try.prog 181 = 0 := by kernel_rfl
theorem bd181 : bdOk Try.prog 181 = true := by kernel_rfl
theorem pl181_0 : plT Try.prog 181 0 = some (0, 0) := by kernel_rfl
theorem fo181_0 : fdO Try.prog 181 0 = 0 := by kernel_rfl
theorem fn181_0 : fdN Try.prog 181 0 = 0 := by kernel_rfl
theorem ag182 : agT Try.prog 182 = some true := by kernel_rfl
theorem ldA182 : ldA Try.prog 182 = true := by kernel_rfl
theorem sz182 : szT Try.prog 182 = some 0 := by kernel_rfl
theorem szn182 : szN Try.prog 182 = 0 := by kernel_rfl
theorem bd182 : bdOk Try.prog 182 = true := by kernel_rfl
theorem pl182_0 : plT Try.prog 182 0 = some (0, 0) := by kernel_rfl
theorem fo182_0 : fdO Try.prog 182 0 = 0 := by kernel_rfl
theorem fn182_0 : fdN Try.prog 182 0 = 0 := by kernel_rfl
theorem ag183 : agT Try.prog 183 = some false := by kernel_rfl
theorem ldA183 : ldA Try.prog 183 = false := by kernel_rfl
theorem ldS183 : ldS Try.prog 183 = true := by kernel_rfl
theorem sz183 : szT Try.prog 183 = some 1 := by kernel_rfl
theorem szn183 : szN Try.prog 183 = 1 := by kernel_rfl
theorem zv183 : zvT Try.prog 183 = some [.int .u8 0] := by kernel_rfl
theorem int183 : intKd Try.prog 183 = some .u8 := by kernel_rfl
theorem ag184 : agT Try.prog 184 = some false := by kernel_rfl
theorem ldA184 : ldA Try.prog 184 = false := by kernel_rfl
theorem ldS184 : ldS Try.prog 184 = true := by kernel_rfl
theorem sz184 : szT Try.prog 184 = some 1 := by kernel_rfl
theorem szn184 : szN Try.prog 184 = 1 := by kernel_rfl
theorem zv184 : zvT Try.prog 184 = some [.int .u8 0] := by kernel_rfl
theorem int184 : intKd Try.prog 184 = some .u8 := by kernel_rfl
theorem ag186 : agT Try.prog 186 = some false := by kernel_rfl
theorem ldA186 : ldA Try.prog 186 = false := by kernel_rfl
theorem ldS186 : ldS Try.prog 186 = true := by kernel_rfl
theorem sz186 : szT Try.prog 186 = some 1 := by kernel_rfl
theorem szn186 : szN Try.prog 186 = 1 := by kernel_rfl
theorem zv186 : zvT Try.prog 186 = some [.pointer none] := by kernel_rfl
theorem ag187 : agT Try.prog 187 = some false := by kernel_rfl
theorem ldA187 : ldA Try.prog 187 = false := by kernel_rfl
theorem ldS187 : ldS Try.prog 187 = true := by kernel_rfl
theorem sz187 : szT Try.prog 187 = some 1 := by kernel_rfl
theorem szn187 : szN Try.prog 187 = 1 := by kernel_rfl
theorem zv187 : zvT Try.prog 187 = some [.int .i32 0] := by kernel_rfl
theorem int187 : intKd Try.prog 187 = some .i32 := by kernel_rfl
theorem ag188 : agT Try.prog 188 = some false := by kernel_rfl
theorem ldA188 : ldA Try.prog 188 = false := by kernel_rfl
theorem ldS188 : ldS Try.prog 188 = true := by kernel_rfl
theorem sz188 : szT Try.prog 188 = some 1 := by kernel_rfl
theorem szn188 : szN Try.prog 188 = 1 := by kernel_rfl
theorem zv188 : zvT Try.prog 188 = some [.int .i32 0] := by kernel_rfl
theorem int188 : intKd Try.prog 188 = some .i32 := by kernel_rfl
theorem ag189 : agT Try.prog 189 = some true := by kernel_rfl
theorem ldA189 : ldA Try.prog 189 = true := by kernel_rfl
theorem sz189 : szT Try.prog 189 = some 11 := by kernel_rfl
theorem szn189 : szN Try.prog 189 = 11 := by kernel_rfl
theorem zv189 : zvT Try.prog 189 = some [.int .u64 0, .int .u64 0, .int .u32 0, .int .u8 0, .int .u8 0, .int .u8 0, .int .u8 0, .nilFunc, .pointer none, .int .i32 0, .int .i32 0] := by kernel_rfl
theorem bd189 : bdOk Try.prog 189 = true := by kernel_rfl
theorem pl189_0 : plT Try.prog 189 0 = some (0, 1) := by kernel_rfl
theorem pl189_1 : plT Try.prog 189 1 = some (1, 1) := by kernel_rfl
theorem pl189_2 : plT Try.prog 189 2 = some (2, 1) := by kernel_rfl
theorem pl189_3 : plT Try.prog 189 3 = some (3, 1) := by kernel_rfl
theorem pl189_4 : plT Try.prog 189 4 = some (4, 1) := by kernel_rfl
theorem pl189_5 : plT Try.prog 189 5 = some (5, 1) := by kernel_rfl
theorem pl189_6 : plT Try.prog 189 6 = some (6, 1) := by kernel_rfl
theorem pl189_8 : plT Try.prog 189 8 = some (8, 1) := by kernel_rfl
theorem pl189_9 : plT Try.prog 189 9 = some (9, 1) := by kernel_rfl
theorem pl189_10 : plT Try.prog 189 10 = some (10, 1) := by kernel_rfl
theorem fo189_0 : fdO Try.prog 189 0 = 0 := by kernel_rfl
theorem fn189_0 : fdN Try.prog 189 0 = 1 := by kernel_rfl
theorem fk189_0 : fdOk Try.prog 189 0 = true := by kernel_rfl
theorem fs189_0 : fdS Try.prog 189 0 = true := by kernel_rfl
theorem fo189_1 : fdO Try.prog 189 1 = 1 := by kernel_rfl
theorem fn189_1 : fdN Try.prog 189 1 = 1 := by kernel_rfl
theorem fk189_1 : fdOk Try.prog 189 1 = true := by kernel_rfl
theorem fs189_1 : fdS Try.prog 189 1 = true := by kernel_rfl
theorem fo189_2 : fdO Try.prog 189 2 = 2 := by kernel_rfl
theorem fn189_2 : fdN Try.prog 189 2 = 1 := by kernel_rfl
theorem fk189_2 : fdOk Try.prog 189 2 = true := by kernel_rfl
theorem fs189_2 : fdS Try.prog 189 2 = true := by kernel_rfl
theorem fo189_3 : fdO Try.prog 189 3 = 3 := by kernel_rfl
theorem fn189_3 : fdN Try.prog 189 3 = 1 := by kernel_rfl
theorem fk189_3 : fdOk Try.prog 189 3 = true := by kernel_rfl
theorem fs189_3 : fdS Try.prog 189 3 = true := by kernel_rfl
theorem fo189_4 : fdO Try.prog 189 4 = 4 := by kernel_rfl
theorem fn189_4 : fdN Try.prog 189 4 = 1 := by kernel_rfl
theorem fk189_4 : fdOk Try.prog 189 4 = true := by kernel_rfl
theorem fs189_4 : fdS Try.prog 189 4 = true := by kernel_rfl
theorem fo189_5 : fdO Try.prog 189 5 = 5 := by kernel_rfl
theorem fn189_5 : fdN Try.prog 189 5 = 1 := by kernel_rfl
theorem fk189_5 : fdOk Try.prog 189 5 = true := by kernel_rfl
theorem fs189_5 : fdS Try.prog 189 5 = true := by kernel_rfl
theorem fo189_6 : fdO Try.prog 189 6 = 6 := by kernel_rfl
theorem fn189_6 : fdN Try.prog 189 6 = 1 := by kernel_rfl
theorem fk189_6 : fdOk Try.prog 189 6 = true := by kernel_rfl
theorem fs189_6 : fdS Try.prog 189 6 = true := by kernel_rfl
theorem fo189_8 : fdO Try.prog 189 8 = 8 := by kernel_rfl
theorem fn189_8 : fdN Try.prog 189 8 = 1 := by kernel_rfl
theorem fk189_8 : fdOk Try.prog 189 8 = true := by kernel_rfl
theorem fs189_8 : fdS Try.prog 189 8 = true := by kernel_rfl
theorem fo189_9 : fdO Try.prog 189 9 = 9 := by kernel_rfl
theorem fn189_9 : fdN Try.prog 189 9 = 1 := by kernel_rfl
theorem fk189_9 : fdOk Try.prog 189 9 = true := by kernel_rfl
theorem fs189_9 : fdS Try.prog 189 9 = true := by kernel_rfl
theorem fo189_10 : fdO Try.prog 189 10 = 10 := by kernel_rfl
theorem fn189_10 : fdN Try.prog 189 10 = 1 := by kernel_rfl
theorem fk189_10 : fdOk Try.prog 189 10 = true := by kernel_rfl
theorem fs189_10 : fdS Try.prog 189 10 = true := by kernel_rfl
theorem ag190 : agT Try.prog 190 = some true := by kernel_rfl
theorem ldA190 : ldA Try.prog 190 = true := by kernel_rfl
theorem sz190 : szT Try.prog 190 = some 11 := by kernel_rfl
theorem szn190 : szN Try.prog 190 = 11 := by kernel_rfl
theorem zv190 : zvT Try.prog 190 = some [.int .u64 0, .int .u64 0, .int .u32 0, .int .u8 0, .int .u8 0, .int .u8 0, .int .u8 0, .nilFunc, .pointer none, .int .i32 0, .int .i32 0] := by kernel_rfl
theorem bd190 : bdOk Try.prog 190 = true := by kernel_rfl
theorem pl190_0 : plT Try.prog 190 0 = some (0, 1) := by kernel_rfl
theorem pl190_1 : plT Try.prog 190 1 = some (1, 1) := by kernel_rfl
theorem pl190_2 : plT Try.prog 190 2 = some (2, 1) := by kernel_rfl
theorem pl190_3 : plT Try.prog 190 3 = some (3, 1) := by kernel_rfl
theorem pl190_4 : plT Try.prog 190 4 = some (4, 1) := by kernel_rfl
theorem pl190_5 : plT Try.prog 190 5 = some (5, 1) := by kernel_rfl
theorem pl190_6 : plT Try.prog 190 6 = some (6, 1) := by kernel_rfl
theorem pl190_8 : plT Try.prog 190 8 = some (8, 1) := by kernel_rfl
theorem pl190_9 : plT Try.prog 190 9 = some (9, 1) := by kernel_rfl
theorem pl190_10 : plT Try.prog 190 10 = some (10, 1) := by kernel_rfl
theorem fo190_0 : fdO Try.prog 190 0 = 0 := by kernel_rfl
theorem fn190_0 : fdN Try.prog 190 0 = 1 := by kernel_rfl
theorem fk190_0 : fdOk Try.prog 190 0 = true := by kernel_rfl
theorem fs190_0 : fdS Try.prog 190 0 = true := by kernel_rfl
theorem fo190_1 : fdO Try.prog 190 1 = 1 := by kernel_rfl
theorem fn190_1 : fdN Try.prog 190 1 = 1 := by kernel_rfl
theorem fk190_1 : fdOk Try.prog 190 1 = true := by kernel_rfl
theorem fs190_1 : fdS Try.prog 190 1 = true := by kernel_rfl
theorem fo190_2 : fdO Try.prog 190 2 = 2 := by kernel_rfl
theorem fn190_2 : fdN Try.prog 190 2 = 1 := by kernel_rfl
theorem fk190_2 : fdOk Try.prog 190 2 = true := by kernel_rfl
theorem fs190_2 : fdS Try.prog 190 2 = true := by kernel_rfl
theorem fo190_3 : fdO Try.prog 190 3 = 3 := by kernel_rfl
theorem fn190_3 : fdN Try.prog 190 3 = 1 := by kernel_rfl
theorem fk190_3 : fdOk Try.prog 190 3 = true := by kernel_rfl
theorem fs190_3 : fdS Try.prog 190 3 = true := by kernel_rfl
theorem fo190_4 : fdO Try.prog 190 4 = 4 := by kernel_rfl
theorem fn190_4 : fdN Try.prog 190 4 = 1 := by kernel_rfl
theorem fk190_4 : fdOk Try.prog 190 4 = true := by kernel_rfl
theorem fs190_4 : fdS Try.prog 190 4 = true := by kernel_rfl
theorem fo190_5 : fdO Try.prog 190 5 = 5 := by kernel_rfl
theorem fn190_5 : fdN Try.prog 190 5 = 1 := by kernel_rfl
theorem fk190_5 : fdOk Try.prog 190 5 = true := by kernel_rfl
theorem fs190_5 : fdS Try.prog 190 5 = true := by kernel_rfl
theorem fo190_6 : fdO Try.prog 190 6 = 6 := by kernel_rfl
theorem fn190_6 : fdN Try.prog 190 6 = 1 := by kernel_rfl
theorem fk190_6 : fdOk Try.prog 190 6 = true := by kernel_rfl
theorem fs190_6 : fdS Try.prog 190 6 = true := by kernel_rfl
theorem fo190_8 : fdO Try.prog 190 8 = 8 := by kernel_rfl
theorem fn190_8 : fdN Try.prog 190 8 = 1 := by kernel_rfl
theorem fk190_8 : fdOk Try.prog 190 8 = true := by kernel_rfl
theorem fs190_8 : fdS Try.prog 190 8 = true := by kernel_rfl
theorem fo190_9 : fdO Try.prog 190 9 = 9 := by kernel_rfl
theorem fn190_9 : fdN Try.prog 190 9 = 1 := by kernel_rfl
theorem fk190_9 : fdOk Try.prog 190 9 = true := by kernel_rfl
theorem fs190_9 : fdS Try.prog 190 9 = true := by kernel_rfl
theorem fo190_10 : fdO Try.prog 190 10 = 10 := by kernel_rfl
theorem fn190_10 : fdN Try.prog 190 10 = 1 := by kernel_rfl
theorem fk190_10 : fdOk Try.prog 190 10 = true := by kernel_rfl
theorem fs190_10 : fdS Try.prog 190 10 = true := by kernel_rfl
end Ty
end Go.Av
