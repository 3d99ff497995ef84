/- What the laws on types need. -/
import Derived.Test.YteohnapehmdgaaaDoorAZzV
import Derived.Test.YteohnapehmdgaaaDoorAZzQ
import Derived.Test.YteohnapehmdgaaaDoorAZzZ
import Derived.Test.YteohnapehmdgaaaDoorAZzT2
set_option linter.unusedSimpArgs false
set_option linter.unusedVariables false
/-! What the laws on types need. -/
namespace Go.Av
abbrev I (n : Int) : AV := .lit (.int .i64 n)
abbrev B (b : Bool) : AV := .lit (.bool b)
abbrev S (s : ByteArray) : AV := .lit (.string s)
abbrev U8 (n : Int) : AV := .lit (.int .u8 n)
abbrev U32 (n : Int) : AV := .lit (.int .u32 n)
abbrev I32 (n : Int) : AV := .lit (.int .i32 n)
abbrev U64 (n : Int) : AV := .lit (.int .u64 n)
abbrev F64 (n : Nat) : AV := .lit (.float .f64 n)
theorem leafCs_app {a b : List AV} : leafCs (a ++ b) = (leafCs a && leafCs b) := by
  induction a with
  | nil => simp [leafCs]
  | cons x l ih => simp [leafCs, ih, Bool.and_assoc]
theorem fitCs_app {a b : List AV} : fitCs (a ++ b) = (fitCs a && fitCs b) := by
  induction a with
  | nil => simp [fitCs]
  | cons x l ih => simp [fitCs, ih, Bool.and_assoc]
theorem leafCs_flat {α : Type} {enc : α → List AV} (h : ∀ x, leafCs (enc x) = true) : ∀ {l : List α}, leafCs (l.flatMap enc) = true
  | [] => rfl
  | x :: l => by rw [List.flatMap_cons, leafCs_app, h x, leafCs_flat h]; rfl
theorem fitCs_flat {α : Type} {enc : α → List AV} (h : ∀ x, fitCs (enc x) = true) : ∀ {l : List α}, fitCs (l.flatMap enc) = true
  | [] => rfl
  | x :: l => by rw [List.flatMap_cons, fitCs_app, h x, fitCs_flat h]; rfl
theorem shares_app {a b : List AV} : AV.shares (a ++ b) = AV.shares a ++ AV.shares b := by simp [AV.shares_eq]
theorem shares_flat {α : Type} {enc enc' : α → List AV} (h : ∀ x, AV.shares (enc x) = enc' x) : ∀ {l : List α}, AV.shares (l.flatMap enc) = l.flatMap enc'
  | [] => rfl
  | x :: l => by rw [List.flatMap_cons, List.flatMap_cons, shares_app, h x, shares_flat h]
theorem pureVs_app {a b : List AV} : pureVs (a ++ b) = (pureVs a && pureVs b) := by
  induction a with
  | nil => simp [pureVs]
  | cons x l ih => simp [pureVs, ih, Bool.and_assoc]
theorem pureVs_flat {α : Type} {enc : α → List AV} (h : ∀ x, pureVs (enc x) = true) : ∀ {l : List α}, pureVs (l.flatMap enc) = true
  | [] => rfl
  | x :: l => by rw [List.flatMap_cons, pureVs_app, h x, pureVs_flat h]; rfl
end Go.Av
