/- The types of the program, their cells. -/
import Derived.Test.YtbldpkglmjajlaaBZw
set_option linter.unusedSimpArgs false
set_option linter.unusedVariables false
/-! The types of the program, their cells. -/
namespace Go.Av
def eInt (x : Int) : List AV := [I x]
theorem eInt_eq (x : Int) : eInt x = [I x] := rfl
def esInt (l : List Int) : List AV := l.flatMap eInt
theorem esInt_len (l : List Int) : (esInt l).length = l.length * 1 := flat_len (fun _ _ => rfl)
theorem esInt_nil : esInt [] = [] := rfl
theorem esInt_cons (x : Int) (l : List Int) : esInt (x :: l) = eInt x ++ esInt l := rfl
theorem esInt_app (l k : List Int) : esInt (l ++ k) = esInt l ++ esInt k := by simp [esInt]
theorem esInt_leaf (l : List Int) : leafCs (esInt l) = true := leafCs_flat (fun _ => rfl)
theorem esInt_fit (l : List Int) : fitCs (esInt l) = true := fitCs_flat (fun _ => rfl)
theorem esInt_share (l : List Int) : AV.shares (esInt l) = esInt l := shares_flat (fun x => by simp [eInt, AV.shares, AV.share])
theorem esInt_pure (l : List Int) : pureVs (esInt l) = true := pureVs_flat (fun x => by simp [eInt, pureVs, pureV])
def eBool (x : Bool) : List AV := [B x]
def esBool (l : List Bool) : List AV := l.flatMap eBool
def eStr (x : ByteArray) : List AV := [S x]
theorem eStr_eq (x : ByteArray) : eStr x = [S x] := rfl
def esStr (l : List ByteArray) : List AV := l.flatMap eStr
theorem esStr_len (l : List ByteArray) : (esStr l).length = l.length * 1 := flat_len (fun _ _ => rfl)
theorem esStr_nil : esStr [] = [] := rfl
theorem esStr_cons (x : ByteArray) (l : List ByteArray) : esStr (x :: l) = eStr x ++ esStr l := rfl
theorem esStr_app (l k : List ByteArray) : esStr (l ++ k) = esStr l ++ esStr k := by simp [esStr]
theorem esStr_dropk (l : List ByteArray) (k : Nat) : (esStr l).drop (k * 1) = esStr (l.drop k) := flat_drop k (fun _ _ => rfl)
theorem esStr_drop (l : List ByteArray) (k : Nat) (h : k < l.length) : (esStr l).drop (k * 1) = eStr l[k] ++ esStr (l.drop (k + 1)) := by rw [esStr_dropk, List.drop_eq_getElem_cons h]; rfl
theorem esStr_drop1 (l : List ByteArray) (k : Nat) (h : k < l.length) : (esStr l).drop k = eStr l[k] ++ esStr (l.drop (k + 1)) := by have := esStr_drop l k h; simpa using this
theorem esStr_setL (l : List ByteArray) (k : Nat) (x : ByteArray) (h : k < l.length) : Av.setL (esStr l) (k * 1) (eStr x) = esStr (l.set k x) := setL_flat x (fun _ _ => rfl) rfl h
theorem esStr_leaf (l : List ByteArray) : leafCs (esStr l) = true := leafCs_flat (fun _ => rfl)
theorem esStr_fit (l : List ByteArray) : fitCs (esStr l) = true := fitCs_flat (fun _ => rfl)
theorem esStr_set (l : List ByteArray) (k : Nat) (x : ByteArray) (h : k < l.length) : (esStr l).set k (S x) = esStr (l.set k x) := by have := esStr_setL l k x h; rw [Nat.mul_one] at this; rw [setL_one _ _ (by rw [esStr_len]; omega)]; exact this
theorem esStr_share (l : List ByteArray) : AV.shares (esStr l) = esStr l := shares_flat (fun x => by simp [eStr, AV.shares, AV.share])
theorem esStr_pure (l : List ByteArray) : pureVs (esStr l) = true := pureVs_flat (fun x => by simp [eStr, pureVs, pureV])
def eU8 (x : Int) : List AV := [U8 x]
def esU8 (l : List Int) : List AV := l.flatMap eU8
structure GPlayer where
  Name : ByteArray
  Rating : Int
  Since : Int
  deriving DecidableEq, Inhabited
def ePlayer (x : GPlayer) : List AV := [S x.Name, I x.Rating, I x.Since]
theorem ePlayer_eq (x : GPlayer) : ePlayer x = [S x.Name, I x.Rating, I x.Since] := rfl
def esPlayer (l : List GPlayer) : List AV := l.flatMap ePlayer
theorem esPlayer_len (l : List GPlayer) : (esPlayer l).length = l.length * 3 := flat_len (fun _ _ => rfl)
theorem esPlayer_nil : esPlayer [] = [] := rfl
theorem esPlayer_cons (x : GPlayer) (l : List GPlayer) : esPlayer (x :: l) = ePlayer x ++ esPlayer l := rfl
theorem esPlayer_app (l k : List GPlayer) : esPlayer (l ++ k) = esPlayer l ++ esPlayer k := by simp [esPlayer]
theorem esPlayer_dropk (l : List GPlayer) (k : Nat) : (esPlayer l).drop (k * 3) = esPlayer (l.drop k) := flat_drop k (fun _ _ => rfl)
theorem esPlayer_drop (l : List GPlayer) (k : Nat) (h : k < l.length) : (esPlayer l).drop (k * 3) = ePlayer l[k] ++ esPlayer (l.drop (k + 1)) := by rw [esPlayer_dropk, List.drop_eq_getElem_cons h]; rfl
theorem esPlayer_setL (l : List GPlayer) (k : Nat) (x : GPlayer) (h : k < l.length) : Av.setL (esPlayer l) (k * 3) (ePlayer x) = esPlayer (l.set k x) := setL_flat x (fun _ _ => rfl) rfl h
theorem esPlayer_leaf (l : List GPlayer) : leafCs (esPlayer l) = true := leafCs_flat (fun _ => rfl)
theorem esPlayer_fit (l : List GPlayer) : fitCs (esPlayer l) = true := fitCs_flat (fun _ => rfl)
theorem esPlayer_set_Name (l : List GPlayer) (k : Nat) (v : ByteArray) (h : k < l.length) : (esPlayer l).set (k * 3) (S v) = esPlayer (l.set k { l[k] with Name := v }) := by have := flat_set (enc := ePlayer) (sz := 3) (l := l) (x := { l[k] with Name := v }) (fun _ _ => rfl) rfl (k := k) h 0 (by decide) (S v) rfl; exact this
theorem esPlayer_set_Rating (l : List GPlayer) (k : Nat) (v : Int) (h : k < l.length) : (esPlayer l).set (k * 3 + 1) (I v) = esPlayer (l.set k { l[k] with Rating := v }) := by have := flat_set (enc := ePlayer) (sz := 3) (l := l) (x := { l[k] with Rating := v }) (fun _ _ => rfl) rfl (k := k) h 1 (by decide) (I v) rfl; exact this
theorem esPlayer_set_Since (l : List GPlayer) (k : Nat) (v : Int) (h : k < l.length) : (esPlayer l).set (k * 3 + 2) (I v) = esPlayer (l.set k { l[k] with Since := v }) := by have := flat_set (enc := ePlayer) (sz := 3) (l := l) (x := { l[k] with Since := v }) (fun _ _ => rfl) rfl (k := k) h 2 (by decide) (I v) rfl; exact this
theorem esPlayer_share (l : List GPlayer) : AV.shares (esPlayer l) = esPlayer l := shares_flat (fun x => by simp [ePlayer, AV.shares, AV.share])
theorem esPlayer_pure (l : List GPlayer) : pureVs (esPlayer l) = true := pureVs_flat (fun x => by simp [ePlayer, pureVs, pureV])
structure GTeam where
  Names : List ByteArray
  Sum : Int
  deriving DecidableEq, Inhabited
def eTeam (x : GTeam) : List AV := [.row false 1 x.Names.length (esStr x.Names), I x.Sum]
theorem eTeam_eq (x : GTeam) : eTeam x = [.row false 1 x.Names.length (esStr x.Names), I x.Sum] := rfl
def esTeam (l : List GTeam) : List AV := l.flatMap eTeam
theorem esTeam_len (l : List GTeam) : (esTeam l).length = l.length * 2 := flat_len (fun _ _ => rfl)
theorem esTeam_nil : esTeam [] = [] := rfl
theorem esTeam_cons (x : GTeam) (l : List GTeam) : esTeam (x :: l) = eTeam x ++ esTeam l := rfl
theorem esTeam_app (l k : List GTeam) : esTeam (l ++ k) = esTeam l ++ esTeam k := by simp [esTeam]
theorem esTeam_dropk (l : List GTeam) (k : Nat) : (esTeam l).drop (k * 2) = esTeam (l.drop k) := flat_drop k (fun _ _ => rfl)
theorem esTeam_drop (l : List GTeam) (k : Nat) (h : k < l.length) : (esTeam l).drop (k * 2) = eTeam l[k] ++ esTeam (l.drop (k + 1)) := by rw [esTeam_dropk, List.drop_eq_getElem_cons h]; rfl
theorem esTeam_leaf (l : List GTeam) : leafCs (esTeam l) = true := leafCs_flat (fun _ => rfl)
theorem esTeam_fit (l : List GTeam) : fitCs (esTeam l) = true := fitCs_flat (fun _ => rfl)
def eTeamo (x : GTeam) : List AV := [.row true 1 x.Names.length (esStr x.Names), I x.Sum]
theorem eTeamo_eq (x : GTeam) : eTeamo x = [.row true 1 x.Names.length (esStr x.Names), I x.Sum] := rfl
def esTeamo (l : List GTeam) : List AV := l.flatMap eTeamo
theorem esTeamo_len (l : List GTeam) : (esTeamo l).length = l.length * 2 := flat_len (fun _ _ => rfl)
theorem esTeamo_nil : esTeamo [] = [] := rfl
theorem esTeamo_cons (x : GTeam) (l : List GTeam) : esTeamo (x :: l) = eTeamo x ++ esTeamo l := rfl
theorem esTeamo_app (l k : List GTeam) : esTeamo (l ++ k) = esTeamo l ++ esTeamo k := by simp [esTeamo]
theorem esTeamo_get_Names (l : List GTeam) (k : Nat) (h : k < l.length) : (esTeamo l)[k * 2]? = some (.row true 1 l[k].Names.length (esStr l[k].Names)) := by have := flat_get (enc := eTeamo) (sz := 2) (l := l) (fun _ _ => rfl) (k := k) (j := 0) h (by decide); exact this
theorem esTeamo_set_Names (l : List GTeam) (k : Nat) (v : List ByteArray) (h : k < l.length) : (esTeamo l).set (k * 2) (.row true 1 v.length (esStr v)) = esTeamo (l.set k { l[k] with Names := v }) := by have := flat_set (enc := eTeamo) (sz := 2) (l := l) (x := { l[k] with Names := v }) (fun _ _ => rfl) rfl (k := k) h 0 (by decide) (.row true 1 v.length (esStr v)) rfl; exact this
theorem esTeamo_set_Sum (l : List GTeam) (k : Nat) (v : Int) (h : k < l.length) : (esTeamo l).set (k * 2 + 1) (I v) = esTeamo (l.set k { l[k] with Sum := v }) := by have := flat_set (enc := eTeamo) (sz := 2) (l := l) (x := { l[k] with Sum := v }) (fun _ _ => rfl) rfl (k := k) h 1 (by decide) (I v) rfl; exact this
theorem esTeamo_share (l : List GTeam) : AV.shares (esTeamo l) = esTeam l := shares_flat (fun x => by simp [eTeamo, eTeam, AV.shares, AV.share, esStr_share])
theorem esTeamo_pure (l : List GTeam) : pureVs (esTeamo l) = true := pureVs_flat (fun x => by simp [eTeamo, pureVs, pureV, esStr_pure])
end Go.Av
