/- What the types of this translation are. -/
import Derived.Test.YteohnapehmdgaaaDoorAZzN
import Derived.Test.YteohnapehmdgaaaDoorProg
/-! What the types of this translation are. -/
namespace Go.Av
open Go.Proofs
namespace Ty
theorem bl4 : isBl Tryd.prog 4 = true := by kernel_rfl
theorem ldA9 : ldA Tryd.prog 9 = false := by kernel_rfl
theorem ldS9 : ldS Tryd.prog 9 = true := by kernel_rfl
theorem nz9 : nzT Tryd.prog 9 = [none] := by kernel_rfl
theorem sz9 : szT Tryd.prog 9 = some 1 := by kernel_rfl
theorem szn9 : szN Tryd.prog 9 = 1 := by kernel_rfl
theorem str9 : isStr Tryd.prog 9 = true := by kernel_rfl
theorem sl22 : slT Tryd.prog 22 = some 2 := by kernel_rfl
theorem slz22 : slSz Tryd.prog 22 = 2 := by kernel_rfl
theorem sl25 : slT Tryd.prog 25 = some 2 := by kernel_rfl
theorem slz25 : slSz Tryd.prog 25 = 2 := by kernel_rfl
theorem zok25 : zOk Tryd.prog 25 = true := by kernel_rfl
theorem by25 : byN Tryd.prog 25 = 32 := by kernel_rfl
theorem zs25 : zsN Tryd.prog 25 = [.string ⟨#[]⟩, .string ⟨#[]⟩] := by kernel_rfl
theorem nze25 : nzE Tryd.prog 25 = [none, none] := by kernel_rfl
theorem ldA38 : ldA Tryd.prog 38 = true := by kernel_rfl
theorem nz38 : nzT Tryd.prog 38 = [none, none] := by kernel_rfl
theorem sz38 : szT Tryd.prog 38 = some 2 := by kernel_rfl
theorem szn38 : szN Tryd.prog 38 = 2 := by kernel_rfl
theorem fo38_0 : fdO Tryd.prog 38 0 = 0 := by kernel_rfl
theorem fn38_0 : fdN Tryd.prog 38 0 = 1 := by kernel_rfl
theorem fk38_0 : fdOk Tryd.prog 38 0 = true := by kernel_rfl
theorem fs38_0 : fdS Tryd.prog 38 0 = true := by kernel_rfl
theorem fo38_1 : fdO Tryd.prog 38 1 = 1 := by kernel_rfl
theorem fn38_1 : fdN Tryd.prog 38 1 = 1 := by kernel_rfl
theorem fk38_1 : fdOk Tryd.prog 38 1 = true := by kernel_rfl
theorem fs38_1 : fdS Tryd.prog 38 1 = true := by kernel_rfl
theorem ag39 : agT Tryd.prog 39 = some true := by kernel_rfl
theorem ldA39 : ldA Tryd.prog 39 = true := by kernel_rfl
theorem nz39 : nzT Tryd.prog 39 = [none, none] := by kernel_rfl
theorem sz39 : szT Tryd.prog 39 = some 2 := by kernel_rfl
theorem szn39 : szN Tryd.prog 39 = 2 := by kernel_rfl
theorem zv39 : zvT Tryd.prog 39 = some [.string ⟨#[]⟩, .string ⟨#[]⟩] := by kernel_rfl
theorem fo39_0 : fdO Tryd.prog 39 0 = 0 := by kernel_rfl
theorem fn39_0 : fdN Tryd.prog 39 0 = 1 := by kernel_rfl
theorem fk39_0 : fdOk Tryd.prog 39 0 = true := by kernel_rfl
theorem fs39_0 : fdS Tryd.prog 39 0 = true := by kernel_rfl
theorem fo39_1 : fdO Tryd.prog 39 1 = 1 := by kernel_rfl
theorem fn39_1 : fdN Tryd.prog 39 1 = 1 := by kernel_rfl
theorem fk39_1 : fdOk Tryd.prog 39 1 = true := by kernel_rfl
theorem fs39_1 : fdS Tryd.prog 39 1 = true := by kernel_rfl
theorem sl52 : slT Tryd.prog 52 = some 1 := by kernel_rfl
theorem slz52 : slSz Tryd.prog 52 = 1 := by kernel_rfl
theorem zok52 : zOk Tryd.prog 52 = true := by kernel_rfl
theorem by52 : byN Tryd.prog 52 = 16 := by kernel_rfl
theorem zs52 : zsN Tryd.prog 52 = [.string ⟨#[]⟩] := by kernel_rfl
theorem nze52 : nzE Tryd.prog 52 = [none] := by kernel_rfl
end Ty
end Go.Av
