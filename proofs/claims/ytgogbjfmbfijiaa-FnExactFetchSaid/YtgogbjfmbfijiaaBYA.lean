/- The types of the program, their cells. -/
import Derived.Test.YtgogbjfmbfijiaaBZw
set_option linter.unusedSimpArgs false
set_option linter.unusedVariables false
/-! The types of the program, their cells. -/
namespace Go.Av
def eInt (x : Int) : List AV := [I x]
def esInt (l : List Int) : List AV := l.flatMap eInt
def eBool (x : Bool) : List AV := [B x]
def esBool (l : List Bool) : List AV := l.flatMap eBool
def eStr (x : ByteArray) : List AV := [S x]
theorem eStr_eq (x : ByteArray) : eStr x = [S x] := rfl
def esStr (l : List ByteArray) : List AV := l.flatMap eStr
theorem esStr_len (l : List ByteArray) : (esStr l).length = l.length * 1 := flat_len (fun _ _ => rfl)
theorem esStr_nil : esStr [] = [] := rfl
theorem esStr_cons (x : ByteArray) (l : List ByteArray) : esStr (x :: l) = eStr x ++ esStr l := rfl
theorem esStr_app (l k : List ByteArray) : esStr (l ++ k) = esStr l ++ esStr k := by simp [esStr]
theorem esStr_dropk (l : List ByteArray) (k : Nat) : (esStr l).drop (k * 1) = esStr (l.drop k) := flat_drop k (fun _ _ => rfl)
theorem esStr_drop (l : List ByteArray) (k : Nat) (h : k < l.length) : (esStr l).drop (k * 1) = eStr l[k] ++ esStr (l.drop (k + 1)) := by rw [esStr_dropk, List.drop_eq_getElem_cons h]; rfl
theorem esStr_drop1 (l : List ByteArray) (k : Nat) (h : k < l.length) : (esStr l).drop k = eStr l[k] ++ esStr (l.drop (k + 1)) := by have := esStr_drop l k h; simpa using this
theorem esStr_setL (l : List ByteArray) (k : Nat) (x : ByteArray) (h : k < l.length) : Av.setL (esStr l) (k * 1) (eStr x) = esStr (l.set k x) := setL_flat x (fun _ _ => rfl) rfl h
theorem esStr_leaf (l : List ByteArray) : leafCs (esStr l) = true := leafCs_flat (fun _ => rfl)
theorem esStr_fit (l : List ByteArray) : fitCs (esStr l) = true := fitCs_flat (fun _ => rfl)
theorem esStr_set (l : List ByteArray) (k : Nat) (x : ByteArray) (h : k < l.length) : (esStr l).set k (S x) = esStr (l.set k x) := by have := esStr_setL l k x h; rw [Nat.mul_one] at this; rw [setL_one _ _ (by rw [esStr_len]; omega)]; exact this
theorem esStr_share (l : List ByteArray) : AV.shares (esStr l) = esStr l := shares_flat (fun x => by simp [eStr, AV.shares, AV.share])
theorem esStr_pure (l : List ByteArray) : pureVs (esStr l) = true := pureVs_flat (fun x => by simp [eStr, pureVs, pureV])
def eU8 (x : Int) : List AV := [U8 x]
def esU8 (l : List Int) : List AV := l.flatMap eU8
structure GSpan where
  Name : ByteArray
  From : Int
  To : Int
  Up : Int
  deriving DecidableEq, Inhabited
def eSpan (x : GSpan) : List AV := [S x.Name, I x.From, I x.To, I x.Up]
def esSpan (l : List GSpan) : List AV := l.flatMap eSpan
def eLSpan (x : List GSpan) : List AV := [.row false 4 x.length (esSpan x)]
def esLSpan (l : List (List GSpan)) : List AV := l.flatMap eLSpan
def eLSpano (x : List GSpan) : List AV := [.row true 4 x.length (esSpan x)]
def esLSpano (l : List (List GSpan)) : List AV := l.flatMap eLSpano
structure GTotal where
  Name : ByteArray
  Count : Int
  All : Int
  Own : Int
  deriving DecidableEq, Inhabited
def eTotal (x : GTotal) : List AV := [S x.Name, I x.Count, I x.All, I x.Own]
def esTotal (l : List GTotal) : List AV := l.flatMap eTotal
structure GResident where
  Name : ByteArray
  Size : Int
  Held : Int
  Used : Int
  deriving DecidableEq, Inhabited
def eResident (x : GResident) : List AV := [S x.Name, I x.Size, I x.Held, I x.Used]
theorem eResident_eq (x : GResident) : eResident x = [S x.Name, I x.Size, I x.Held, I x.Used] := rfl
def esResident (l : List GResident) : List AV := l.flatMap eResident
theorem esResident_len (l : List GResident) : (esResident l).length = l.length * 4 := flat_len (fun _ _ => rfl)
theorem esResident_nil : esResident [] = [] := rfl
theorem esResident_cons (x : GResident) (l : List GResident) : esResident (x :: l) = eResident x ++ esResident l := rfl
theorem esResident_app (l k : List GResident) : esResident (l ++ k) = esResident l ++ esResident k := by simp [esResident]
theorem esResident_dropk (l : List GResident) (k : Nat) : (esResident l).drop (k * 4) = esResident (l.drop k) := flat_drop k (fun _ _ => rfl)
theorem esResident_drop (l : List GResident) (k : Nat) (h : k < l.length) : (esResident l).drop (k * 4) = eResident l[k] ++ esResident (l.drop (k + 1)) := by rw [esResident_dropk, List.drop_eq_getElem_cons h]; rfl
theorem esResident_takek (l : List GResident) (k : Nat) : (esResident l).take (k * 4) = esResident (l.take k) := flat_take k (fun _ _ => rfl)
theorem esResident_setL (l : List GResident) (k : Nat) (x : GResident) (h : k < l.length) : Av.setL (esResident l) (k * 4) (eResident x) = esResident (l.set k x) := setL_flat x (fun _ _ => rfl) rfl h
theorem esResident_leaf (l : List GResident) : leafCs (esResident l) = true := leafCs_flat (fun _ => rfl)
theorem esResident_fit (l : List GResident) : fitCs (esResident l) = true := fitCs_flat (fun _ => rfl)
theorem esResident_set_Name (l : List GResident) (k : Nat) (v : ByteArray) (h : k < l.length) : (esResident l).set (k * 4) (S v) = esResident (l.set k { l[k] with Name := v }) := by have := flat_set (enc := eResident) (sz := 4) (l := l) (x := { l[k] with Name := v }) (fun _ _ => rfl) rfl (k := k) h 0 (by decide) (S v) rfl; exact this
theorem esResident_set_Size (l : List GResident) (k : Nat) (v : Int) (h : k < l.length) : (esResident l).set (k * 4 + 1) (I v) = esResident (l.set k { l[k] with Size := v }) := by have := flat_set (enc := eResident) (sz := 4) (l := l) (x := { l[k] with Size := v }) (fun _ _ => rfl) rfl (k := k) h 1 (by decide) (I v) rfl; exact this
theorem esResident_set_Held (l : List GResident) (k : Nat) (v : Int) (h : k < l.length) : (esResident l).set (k * 4 + 2) (I v) = esResident (l.set k { l[k] with Held := v }) := by have := flat_set (enc := eResident) (sz := 4) (l := l) (x := { l[k] with Held := v }) (fun _ _ => rfl) rfl (k := k) h 2 (by decide) (I v) rfl; exact this
theorem esResident_set_Used (l : List GResident) (k : Nat) (v : Int) (h : k < l.length) : (esResident l).set (k * 4 + 3) (I v) = esResident (l.set k { l[k] with Used := v }) := by have := flat_set (enc := eResident) (sz := 4) (l := l) (x := { l[k] with Used := v }) (fun _ _ => rfl) rfl (k := k) h 3 (by decide) (I v) rfl; exact this
theorem esResident_share (l : List GResident) : AV.shares (esResident l) = esResident l := shares_flat (fun x => by simp [eResident, AV.shares, AV.share])
theorem esResident_pure (l : List GResident) : pureVs (esResident l) = true := pureVs_flat (fun x => by simp [eResident, pureVs, pureV])
structure GStore where
  Budget : Int
  Clock : Int
  In : List GResident
  deriving DecidableEq, Inhabited
def eStore (x : GStore) : List AV := [I x.Budget, I x.Clock, .row false 4 x.In.length (esResident x.In)]
theorem eStore_eq (x : GStore) : eStore x = [I x.Budget, I x.Clock, .row false 4 x.In.length (esResident x.In)] := rfl
def esStore (l : List GStore) : List AV := l.flatMap eStore
theorem esStore_len (l : List GStore) : (esStore l).length = l.length * 3 := flat_len (fun _ _ => rfl)
theorem esStore_nil : esStore [] = [] := rfl
theorem esStore_cons (x : GStore) (l : List GStore) : esStore (x :: l) = eStore x ++ esStore l := rfl
theorem esStore_app (l k : List GStore) : esStore (l ++ k) = esStore l ++ esStore k := by simp [esStore]
theorem esStore_leaf (l : List GStore) : leafCs (esStore l) = true := leafCs_flat (fun _ => rfl)
theorem esStore_fit (l : List GStore) : fitCs (esStore l) = true := fitCs_flat (fun _ => rfl)
def eStoreo (x : GStore) : List AV := [I x.Budget, I x.Clock, .row true 4 x.In.length (esResident x.In)]
theorem eStoreo_eq (x : GStore) : eStoreo x = [I x.Budget, I x.Clock, .row true 4 x.In.length (esResident x.In)] := rfl
def esStoreo (l : List GStore) : List AV := l.flatMap eStoreo
theorem esStoreo_len (l : List GStore) : (esStoreo l).length = l.length * 3 := flat_len (fun _ _ => rfl)
theorem esStoreo_nil : esStoreo [] = [] := rfl
theorem esStoreo_cons (x : GStore) (l : List GStore) : esStoreo (x :: l) = eStoreo x ++ esStoreo l := rfl
theorem esStoreo_app (l k : List GStore) : esStoreo (l ++ k) = esStoreo l ++ esStoreo k := by simp [esStoreo]
theorem esStoreo_share (l : List GStore) : AV.shares (esStoreo l) = esStore l := shares_flat (fun x => by simp [eStoreo, eStore, AV.shares, AV.share, esResident_share])
theorem esStoreo_pure (l : List GStore) : pureVs (esStoreo l) = true := pureVs_flat (fun x => by simp [eStoreo, pureVs, pureV, esResident_pure])
end Go.Av
