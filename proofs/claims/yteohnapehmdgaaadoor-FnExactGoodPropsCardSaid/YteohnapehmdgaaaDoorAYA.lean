/- The types of the program, their cells. -/
import Derived.Test.YteohnapehmdgaaaDoorAZw
set_option linter.unusedSimpArgs false
set_option linter.unusedVariables false
/-! The types of the program, their cells. -/
namespace Go.Av
def eInt (x : Int) : List AV := [I x]
def esInt (l : List Int) : List AV := l.flatMap eInt
def eBool (x : Bool) : List AV := [B x]
def esBool (l : List Bool) : List AV := l.flatMap eBool
def eStr (x : ByteArray) : List AV := [S x]
theorem eStr_eq (x : ByteArray) : eStr x = [S x] := rfl
def esStr (l : List ByteArray) : List AV := l.flatMap eStr
theorem esStr_len (l : List ByteArray) : (esStr l).length = l.length * 1 := flat_len (fun _ _ => rfl)
theorem esStr_nil : esStr [] = [] := rfl
theorem esStr_cons (x : ByteArray) (l : List ByteArray) : esStr (x :: l) = eStr x ++ esStr l := rfl
theorem esStr_app (l k : List ByteArray) : esStr (l ++ k) = esStr l ++ esStr k := by simp [esStr]
theorem esStr_leaf (l : List ByteArray) : leafCs (esStr l) = true := leafCs_flat (fun _ => rfl)
theorem esStr_fit (l : List ByteArray) : fitCs (esStr l) = true := fitCs_flat (fun _ => rfl)
theorem esStr_share (l : List ByteArray) : AV.shares (esStr l) = esStr l := shares_flat (fun x => by simp [eStr, AV.shares, AV.share])
theorem esStr_pure (l : List ByteArray) : pureVs (esStr l) = true := pureVs_flat (fun x => by simp [eStr, pureVs, pureV])
def eU8 (x : Int) : List AV := [U8 x]
def esU8 (l : List Int) : List AV := l.flatMap eU8
structure GProp where
  Path : ByteArray
  Value : ByteArray
  deriving DecidableEq, Inhabited
def eProp (x : GProp) : List AV := [S x.Path, S x.Value]
theorem eProp_eq (x : GProp) : eProp x = [S x.Path, S x.Value] := rfl
def esProp (l : List GProp) : List AV := l.flatMap eProp
theorem esProp_len (l : List GProp) : (esProp l).length = l.length * 2 := flat_len (fun _ _ => rfl)
theorem esProp_nil : esProp [] = [] := rfl
theorem esProp_cons (x : GProp) (l : List GProp) : esProp (x :: l) = eProp x ++ esProp l := rfl
theorem esProp_app (l k : List GProp) : esProp (l ++ k) = esProp l ++ esProp k := by simp [esProp]
theorem esProp_dropk (l : List GProp) (k : Nat) : (esProp l).drop (k * 2) = esProp (l.drop k) := flat_drop k (fun _ _ => rfl)
theorem esProp_drop (l : List GProp) (k : Nat) (h : k < l.length) : (esProp l).drop (k * 2) = eProp l[k] ++ esProp (l.drop (k + 1)) := by rw [esProp_dropk, List.drop_eq_getElem_cons h]; rfl
theorem esProp_setL (l : List GProp) (k : Nat) (x : GProp) (h : k < l.length) : Av.setL (esProp l) (k * 2) (eProp x) = esProp (l.set k x) := setL_flat x (fun _ _ => rfl) rfl h
theorem esProp_leaf (l : List GProp) : leafCs (esProp l) = true := leafCs_flat (fun _ => rfl)
theorem esProp_fit (l : List GProp) : fitCs (esProp l) = true := fitCs_flat (fun _ => rfl)
theorem esProp_share (l : List GProp) : AV.shares (esProp l) = esProp l := shares_flat (fun x => by simp [eProp, AV.shares, AV.share])
theorem esProp_pure (l : List GProp) : pureVs (esProp l) = true := pureVs_flat (fun x => by simp [eProp, pureVs, pureV])
structure GPrefab where
  Name : ByteArray
  From : ByteArray
  Props : List GProp
  deriving DecidableEq, Inhabited
def ePrefab (x : GPrefab) : List AV := [S x.Name, S x.From, .row false 2 x.Props.length (esProp x.Props)]
def esPrefab (l : List GPrefab) : List AV := l.flatMap ePrefab
def ePrefabo (x : GPrefab) : List AV := [S x.Name, S x.From, .row true 2 x.Props.length (esProp x.Props)]
def esPrefabo (l : List GPrefab) : List AV := l.flatMap ePrefabo
end Go.Av
