/- The types of the program, their cells. -/
import Derived.Test.YtgogbjfmbfijiaaAZw
set_option linter.unusedSimpArgs false
set_option linter.unusedVariables false
/-! The types of the program, their cells. -/
namespace Go.Av
def eInt (x : Int) : List AV := [I x]
theorem eInt_eq (x : Int) : eInt x = [I x] := rfl
def esInt (l : List Int) : List AV := l.flatMap eInt
theorem esInt_len (l : List Int) : (esInt l).length = l.length * 1 := flat_len (fun _ _ => rfl)
theorem esInt_nil : esInt [] = [] := rfl
theorem esInt_cons (x : Int) (l : List Int) : esInt (x :: l) = eInt x ++ esInt l := rfl
theorem esInt_app (l k : List Int) : esInt (l ++ k) = esInt l ++ esInt k := by simp [esInt]
theorem esInt_leaf (l : List Int) : leafCs (esInt l) = true := leafCs_flat (fun _ => rfl)
theorem esInt_fit (l : List Int) : fitCs (esInt l) = true := fitCs_flat (fun _ => rfl)
theorem esInt_share (l : List Int) : AV.shares (esInt l) = esInt l := shares_flat (fun x => by simp [eInt, AV.shares, AV.share])
theorem esInt_pure (l : List Int) : pureVs (esInt l) = true := pureVs_flat (fun x => by simp [eInt, pureVs, pureV])
def eBool (x : Bool) : List AV := [B x]
def esBool (l : List Bool) : List AV := l.flatMap eBool
def eStr (x : ByteArray) : List AV := [S x]
theorem eStr_eq (x : ByteArray) : eStr x = [S x] := rfl
def esStr (l : List ByteArray) : List AV := l.flatMap eStr
theorem esStr_len (l : List ByteArray) : (esStr l).length = l.length * 1 := flat_len (fun _ _ => rfl)
theorem esStr_nil : esStr [] = [] := rfl
theorem esStr_cons (x : ByteArray) (l : List ByteArray) : esStr (x :: l) = eStr x ++ esStr l := rfl
theorem esStr_app (l k : List ByteArray) : esStr (l ++ k) = esStr l ++ esStr k := by simp [esStr]
theorem esStr_leaf (l : List ByteArray) : leafCs (esStr l) = true := leafCs_flat (fun _ => rfl)
theorem esStr_fit (l : List ByteArray) : fitCs (esStr l) = true := fitCs_flat (fun _ => rfl)
theorem esStr_share (l : List ByteArray) : AV.shares (esStr l) = esStr l := shares_flat (fun x => by simp [eStr, AV.shares, AV.share])
theorem esStr_pure (l : List ByteArray) : pureVs (esStr l) = true := pureVs_flat (fun x => by simp [eStr, pureVs, pureV])
def eU8 (x : Int) : List AV := [U8 x]
def esU8 (l : List Int) : List AV := l.flatMap eU8
structure GSpan where
  Name : ByteArray
  From : Int
  To : Int
  Up : Int
  deriving DecidableEq, Inhabited
def eSpan (x : GSpan) : List AV := [S x.Name, I x.From, I x.To, I x.Up]
theorem eSpan_eq (x : GSpan) : eSpan x = [S x.Name, I x.From, I x.To, I x.Up] := rfl
def esSpan (l : List GSpan) : List AV := l.flatMap eSpan
theorem esSpan_len (l : List GSpan) : (esSpan l).length = l.length * 4 := flat_len (fun _ _ => rfl)
theorem esSpan_nil : esSpan [] = [] := rfl
theorem esSpan_cons (x : GSpan) (l : List GSpan) : esSpan (x :: l) = eSpan x ++ esSpan l := rfl
theorem esSpan_app (l k : List GSpan) : esSpan (l ++ k) = esSpan l ++ esSpan k := by simp [esSpan]
theorem esSpan_dropk (l : List GSpan) (k : Nat) : (esSpan l).drop (k * 4) = esSpan (l.drop k) := flat_drop k (fun _ _ => rfl)
theorem esSpan_drop (l : List GSpan) (k : Nat) (h : k < l.length) : (esSpan l).drop (k * 4) = eSpan l[k] ++ esSpan (l.drop (k + 1)) := by rw [esSpan_dropk, List.drop_eq_getElem_cons h]; rfl
theorem esSpan_setL (l : List GSpan) (k : Nat) (x : GSpan) (h : k < l.length) : Av.setL (esSpan l) (k * 4) (eSpan x) = esSpan (l.set k x) := setL_flat x (fun _ _ => rfl) rfl h
theorem esSpan_leaf (l : List GSpan) : leafCs (esSpan l) = true := leafCs_flat (fun _ => rfl)
theorem esSpan_fit (l : List GSpan) : fitCs (esSpan l) = true := fitCs_flat (fun _ => rfl)
theorem esSpan_set_Name (l : List GSpan) (k : Nat) (v : ByteArray) (h : k < l.length) : (esSpan l).set (k * 4) (S v) = esSpan (l.set k { l[k] with Name := v }) := by have := flat_set (enc := eSpan) (sz := 4) (l := l) (x := { l[k] with Name := v }) (fun _ _ => rfl) rfl (k := k) h 0 (by decide) (S v) rfl; exact this
theorem esSpan_set_From (l : List GSpan) (k : Nat) (v : Int) (h : k < l.length) : (esSpan l).set (k * 4 + 1) (I v) = esSpan (l.set k { l[k] with From := v }) := by have := flat_set (enc := eSpan) (sz := 4) (l := l) (x := { l[k] with From := v }) (fun _ _ => rfl) rfl (k := k) h 1 (by decide) (I v) rfl; exact this
theorem esSpan_set_To (l : List GSpan) (k : Nat) (v : Int) (h : k < l.length) : (esSpan l).set (k * 4 + 2) (I v) = esSpan (l.set k { l[k] with To := v }) := by have := flat_set (enc := eSpan) (sz := 4) (l := l) (x := { l[k] with To := v }) (fun _ _ => rfl) rfl (k := k) h 2 (by decide) (I v) rfl; exact this
theorem esSpan_set_Up (l : List GSpan) (k : Nat) (v : Int) (h : k < l.length) : (esSpan l).set (k * 4 + 3) (I v) = esSpan (l.set k { l[k] with Up := v }) := by have := flat_set (enc := eSpan) (sz := 4) (l := l) (x := { l[k] with Up := v }) (fun _ _ => rfl) rfl (k := k) h 3 (by decide) (I v) rfl; exact this
theorem esSpan_share (l : List GSpan) : AV.shares (esSpan l) = esSpan l := shares_flat (fun x => by simp [eSpan, AV.shares, AV.share])
theorem esSpan_pure (l : List GSpan) : pureVs (esSpan l) = true := pureVs_flat (fun x => by simp [eSpan, pureVs, pureV])
def eLSpan (x : List GSpan) : List AV := [.row false 4 x.length (esSpan x)]
theorem eLSpan_eq (x : List GSpan) : eLSpan x = [.row false 4 x.length (esSpan x)] := rfl
def esLSpan (l : List (List GSpan)) : List AV := l.flatMap eLSpan
theorem esLSpan_len (l : List (List GSpan)) : (esLSpan l).length = l.length * 1 := flat_len (fun _ _ => rfl)
theorem esLSpan_nil : esLSpan [] = [] := rfl
theorem esLSpan_cons (x : List GSpan) (l : List (List GSpan)) : esLSpan (x :: l) = eLSpan x ++ esLSpan l := rfl
theorem esLSpan_app (l k : List (List GSpan)) : esLSpan (l ++ k) = esLSpan l ++ esLSpan k := by simp [esLSpan]
theorem esLSpan_leaf (l : List (List GSpan)) : leafCs (esLSpan l) = true := leafCs_flat (fun _ => rfl)
theorem esLSpan_fit (l : List (List GSpan)) : fitCs (esLSpan l) = true := fitCs_flat (fun _ => rfl)
def eLSpano (x : List GSpan) : List AV := [.row true 4 x.length (esSpan x)]
theorem eLSpano_eq (x : List GSpan) : eLSpano x = [.row true 4 x.length (esSpan x)] := rfl
def esLSpano (l : List (List GSpan)) : List AV := l.flatMap eLSpano
theorem esLSpano_len (l : List (List GSpan)) : (esLSpano l).length = l.length * 1 := flat_len (fun _ _ => rfl)
theorem esLSpano_nil : esLSpano [] = [] := rfl
theorem esLSpano_cons (x : List GSpan) (l : List (List GSpan)) : esLSpano (x :: l) = eLSpano x ++ esLSpano l := rfl
theorem esLSpano_app (l k : List (List GSpan)) : esLSpano (l ++ k) = esLSpano l ++ esLSpano k := by simp [esLSpano]
theorem esLSpano_share (l : List (List GSpan)) : AV.shares (esLSpano l) = esLSpan l := shares_flat (fun x => by simp [eLSpano, eLSpan, AV.shares, AV.share, esSpan_share])
theorem esLSpano_pure (l : List (List GSpan)) : pureVs (esLSpano l) = true := pureVs_flat (fun x => by simp [eLSpano, pureVs, pureV, esSpan_pure])
structure GTotal where
  Name : ByteArray
  Count : Int
  All : Int
  Own : Int
  deriving DecidableEq, Inhabited
def eTotal (x : GTotal) : List AV := [S x.Name, I x.Count, I x.All, I x.Own]
theorem eTotal_eq (x : GTotal) : eTotal x = [S x.Name, I x.Count, I x.All, I x.Own] := rfl
def esTotal (l : List GTotal) : List AV := l.flatMap eTotal
theorem esTotal_len (l : List GTotal) : (esTotal l).length = l.length * 4 := flat_len (fun _ _ => rfl)
theorem esTotal_nil : esTotal [] = [] := rfl
theorem esTotal_cons (x : GTotal) (l : List GTotal) : esTotal (x :: l) = eTotal x ++ esTotal l := rfl
theorem esTotal_app (l k : List GTotal) : esTotal (l ++ k) = esTotal l ++ esTotal k := by simp [esTotal]
theorem esTotal_dropk (l : List GTotal) (k : Nat) : (esTotal l).drop (k * 4) = esTotal (l.drop k) := flat_drop k (fun _ _ => rfl)
theorem esTotal_drop (l : List GTotal) (k : Nat) (h : k < l.length) : (esTotal l).drop (k * 4) = eTotal l[k] ++ esTotal (l.drop (k + 1)) := by rw [esTotal_dropk, List.drop_eq_getElem_cons h]; rfl
theorem esTotal_takek (l : List GTotal) (k : Nat) : (esTotal l).take (k * 4) = esTotal (l.take k) := flat_take k (fun _ _ => rfl)
theorem esTotal_leaf (l : List GTotal) : leafCs (esTotal l) = true := leafCs_flat (fun _ => rfl)
theorem esTotal_fit (l : List GTotal) : fitCs (esTotal l) = true := fitCs_flat (fun _ => rfl)
theorem esTotal_set_Name (l : List GTotal) (k : Nat) (v : ByteArray) (h : k < l.length) : (esTotal l).set (k * 4) (S v) = esTotal (l.set k { l[k] with Name := v }) := by have := flat_set (enc := eTotal) (sz := 4) (l := l) (x := { l[k] with Name := v }) (fun _ _ => rfl) rfl (k := k) h 0 (by decide) (S v) rfl; exact this
theorem esTotal_set_Count (l : List GTotal) (k : Nat) (v : Int) (h : k < l.length) : (esTotal l).set (k * 4 + 1) (I v) = esTotal (l.set k { l[k] with Count := v }) := by have := flat_set (enc := eTotal) (sz := 4) (l := l) (x := { l[k] with Count := v }) (fun _ _ => rfl) rfl (k := k) h 1 (by decide) (I v) rfl; exact this
theorem esTotal_set_All (l : List GTotal) (k : Nat) (v : Int) (h : k < l.length) : (esTotal l).set (k * 4 + 2) (I v) = esTotal (l.set k { l[k] with All := v }) := by have := flat_set (enc := eTotal) (sz := 4) (l := l) (x := { l[k] with All := v }) (fun _ _ => rfl) rfl (k := k) h 2 (by decide) (I v) rfl; exact this
theorem esTotal_set_Own (l : List GTotal) (k : Nat) (v : Int) (h : k < l.length) : (esTotal l).set (k * 4 + 3) (I v) = esTotal (l.set k { l[k] with Own := v }) := by have := flat_set (enc := eTotal) (sz := 4) (l := l) (x := { l[k] with Own := v }) (fun _ _ => rfl) rfl (k := k) h 3 (by decide) (I v) rfl; exact this
theorem esTotal_share (l : List GTotal) : AV.shares (esTotal l) = esTotal l := shares_flat (fun x => by simp [eTotal, AV.shares, AV.share])
theorem esTotal_pure (l : List GTotal) : pureVs (esTotal l) = true := pureVs_flat (fun x => by simp [eTotal, pureVs, pureV])
end Go.Av
