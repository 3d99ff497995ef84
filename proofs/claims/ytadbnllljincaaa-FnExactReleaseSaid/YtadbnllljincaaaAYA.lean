/- The types of the program, their cells. -/
import Derived.Test.YtadbnllljincaaaAZw
set_option linter.unusedSimpArgs false
set_option linter.unusedVariables false
/-! The types of the program, their cells. -/
namespace Go.Av
def eInt (x : Int) : List AV := [I x]
theorem eInt_eq (x : Int) : eInt x = [I x] := rfl
def esInt (l : List Int) : List AV := l.flatMap eInt
theorem esInt_len (l : List Int) : (esInt l).length = l.length * 1 := flat_len (fun _ _ => rfl)
theorem esInt_nil : esInt [] = [] := rfl
theorem esInt_cons (x : Int) (l : List Int) : esInt (x :: l) = eInt x ++ esInt l := rfl
theorem esInt_app (l k : List Int) : esInt (l ++ k) = esInt l ++ esInt k := by simp [esInt]
theorem esInt_dropk (l : List Int) (k : Nat) : (esInt l).drop (k * 1) = esInt (l.drop k) := flat_drop k (fun _ _ => rfl)
theorem esInt_drop (l : List Int) (k : Nat) (h : k < l.length) : (esInt l).drop (k * 1) = eInt l[k] ++ esInt (l.drop (k + 1)) := by rw [esInt_dropk, List.drop_eq_getElem_cons h]; rfl
theorem esInt_drop1 (l : List Int) (k : Nat) (h : k < l.length) : (esInt l).drop k = eInt l[k] ++ esInt (l.drop (k + 1)) := by have := esInt_drop l k h; simpa using this
theorem esInt_takek (l : List Int) (k : Nat) : (esInt l).take (k * 1) = esInt (l.take k) := flat_take k (fun _ _ => rfl)
theorem esInt_setL (l : List Int) (k : Nat) (x : Int) (h : k < l.length) : Av.setL (esInt l) (k * 1) (eInt x) = esInt (l.set k x) := setL_flat x (fun _ _ => rfl) rfl h
theorem esInt_leaf (l : List Int) : leafCs (esInt l) = true := leafCs_flat (fun _ => rfl)
theorem esInt_fit (l : List Int) : fitCs (esInt l) = true := fitCs_flat (fun _ => rfl)
theorem esInt_get (l : List Int) (k : Nat) (h : k < l.length) : (esInt l)[k]? = some (I l[k]) := by have := flat_get (enc := eInt) (sz := 1) (l := l) (fun _ _ => rfl) (k := k) (j := 0) h (by decide); rw [Nat.mul_one, Nat.add_zero] at this; exact this
theorem esInt_set (l : List Int) (k : Nat) (x : Int) (h : k < l.length) : (esInt l).set k (I x) = esInt (l.set k x) := by have := esInt_setL l k x h; rw [Nat.mul_one] at this; rw [setL_one _ _ (by rw [esInt_len]; omega)]; exact this
theorem esInt_share (l : List Int) : AV.shares (esInt l) = esInt l := shares_flat (fun x => by simp [eInt, AV.shares, AV.share])
theorem esInt_pure (l : List Int) : pureVs (esInt l) = true := pureVs_flat (fun x => by simp [eInt, pureVs, pureV])
theorem esInt_free (l : List Int) : AV.noRefs (esInt l) = true := noRefs_flat (fun x => by simp [eInt, AV.noRefs, AV.noRef])
def eBool (x : Bool) : List AV := [B x]
theorem eBool_eq (x : Bool) : eBool x = [B x] := rfl
def esBool (l : List Bool) : List AV := l.flatMap eBool
theorem esBool_len (l : List Bool) : (esBool l).length = l.length * 1 := flat_len (fun _ _ => rfl)
theorem esBool_nil : esBool [] = [] := rfl
theorem esBool_cons (x : Bool) (l : List Bool) : esBool (x :: l) = eBool x ++ esBool l := rfl
theorem esBool_app (l k : List Bool) : esBool (l ++ k) = esBool l ++ esBool k := by simp [esBool]
theorem esBool_dropk (l : List Bool) (k : Nat) : (esBool l).drop (k * 1) = esBool (l.drop k) := flat_drop k (fun _ _ => rfl)
theorem esBool_drop (l : List Bool) (k : Nat) (h : k < l.length) : (esBool l).drop (k * 1) = eBool l[k] ++ esBool (l.drop (k + 1)) := by rw [esBool_dropk, List.drop_eq_getElem_cons h]; rfl
theorem esBool_drop1 (l : List Bool) (k : Nat) (h : k < l.length) : (esBool l).drop k = eBool l[k] ++ esBool (l.drop (k + 1)) := by have := esBool_drop l k h; simpa using this
theorem esBool_takek (l : List Bool) (k : Nat) : (esBool l).take (k * 1) = esBool (l.take k) := flat_take k (fun _ _ => rfl)
theorem esBool_setL (l : List Bool) (k : Nat) (x : Bool) (h : k < l.length) : Av.setL (esBool l) (k * 1) (eBool x) = esBool (l.set k x) := setL_flat x (fun _ _ => rfl) rfl h
theorem esBool_leaf (l : List Bool) : leafCs (esBool l) = true := leafCs_flat (fun _ => rfl)
theorem esBool_fit (l : List Bool) : fitCs (esBool l) = true := fitCs_flat (fun _ => rfl)
theorem esBool_get (l : List Bool) (k : Nat) (h : k < l.length) : (esBool l)[k]? = some (B l[k]) := by have := flat_get (enc := eBool) (sz := 1) (l := l) (fun _ _ => rfl) (k := k) (j := 0) h (by decide); rw [Nat.mul_one, Nat.add_zero] at this; exact this
theorem esBool_set (l : List Bool) (k : Nat) (x : Bool) (h : k < l.length) : (esBool l).set k (B x) = esBool (l.set k x) := by have := esBool_setL l k x h; rw [Nat.mul_one] at this; rw [setL_one _ _ (by rw [esBool_len]; omega)]; exact this
theorem esBool_share (l : List Bool) : AV.shares (esBool l) = esBool l := shares_flat (fun x => by simp [eBool, AV.shares, AV.share])
theorem esBool_pure (l : List Bool) : pureVs (esBool l) = true := pureVs_flat (fun x => by simp [eBool, pureVs, pureV])
theorem esBool_free (l : List Bool) : AV.noRefs (esBool l) = true := noRefs_flat (fun x => by simp [eBool, AV.noRefs, AV.noRef])
def eStr (x : ByteArray) : List AV := [S x]
theorem eStr_eq (x : ByteArray) : eStr x = [S x] := rfl
def esStr (l : List ByteArray) : List AV := l.flatMap eStr
theorem esStr_len (l : List ByteArray) : (esStr l).length = l.length * 1 := flat_len (fun _ _ => rfl)
theorem esStr_nil : esStr [] = [] := rfl
theorem esStr_cons (x : ByteArray) (l : List ByteArray) : esStr (x :: l) = eStr x ++ esStr l := rfl
theorem esStr_app (l k : List ByteArray) : esStr (l ++ k) = esStr l ++ esStr k := by simp [esStr]
theorem esStr_dropk (l : List ByteArray) (k : Nat) : (esStr l).drop (k * 1) = esStr (l.drop k) := flat_drop k (fun _ _ => rfl)
theorem esStr_drop (l : List ByteArray) (k : Nat) (h : k < l.length) : (esStr l).drop (k * 1) = eStr l[k] ++ esStr (l.drop (k + 1)) := by rw [esStr_dropk, List.drop_eq_getElem_cons h]; rfl
theorem esStr_drop1 (l : List ByteArray) (k : Nat) (h : k < l.length) : (esStr l).drop k = eStr l[k] ++ esStr (l.drop (k + 1)) := by have := esStr_drop l k h; simpa using this
theorem esStr_takek (l : List ByteArray) (k : Nat) : (esStr l).take (k * 1) = esStr (l.take k) := flat_take k (fun _ _ => rfl)
theorem esStr_setL (l : List ByteArray) (k : Nat) (x : ByteArray) (h : k < l.length) : Av.setL (esStr l) (k * 1) (eStr x) = esStr (l.set k x) := setL_flat x (fun _ _ => rfl) rfl h
theorem esStr_leaf (l : List ByteArray) : leafCs (esStr l) = true := leafCs_flat (fun _ => rfl)
theorem esStr_fit (l : List ByteArray) : fitCs (esStr l) = true := fitCs_flat (fun _ => rfl)
theorem esStr_get (l : List ByteArray) (k : Nat) (h : k < l.length) : (esStr l)[k]? = some (S l[k]) := by have := flat_get (enc := eStr) (sz := 1) (l := l) (fun _ _ => rfl) (k := k) (j := 0) h (by decide); rw [Nat.mul_one, Nat.add_zero] at this; exact this
theorem esStr_set (l : List ByteArray) (k : Nat) (x : ByteArray) (h : k < l.length) : (esStr l).set k (S x) = esStr (l.set k x) := by have := esStr_setL l k x h; rw [Nat.mul_one] at this; rw [setL_one _ _ (by rw [esStr_len]; omega)]; exact this
theorem esStr_share (l : List ByteArray) : AV.shares (esStr l) = esStr l := shares_flat (fun x => by simp [eStr, AV.shares, AV.share])
theorem esStr_pure (l : List ByteArray) : pureVs (esStr l) = true := pureVs_flat (fun x => by simp [eStr, pureVs, pureV])
theorem esStr_free (l : List ByteArray) : AV.noRefs (esStr l) = true := noRefs_flat (fun x => by simp [eStr, AV.noRefs, AV.noRef])
def eU8 (x : Int) : List AV := [U8 x]
theorem eU8_eq (x : Int) : eU8 x = [U8 x] := rfl
def esU8 (l : List Int) : List AV := l.flatMap eU8
theorem esU8_len (l : List Int) : (esU8 l).length = l.length * 1 := flat_len (fun _ _ => rfl)
theorem esU8_nil : esU8 [] = [] := rfl
theorem esU8_cons (x : Int) (l : List Int) : esU8 (x :: l) = eU8 x ++ esU8 l := rfl
theorem esU8_app (l k : List Int) : esU8 (l ++ k) = esU8 l ++ esU8 k := by simp [esU8]
theorem esU8_dropk (l : List Int) (k : Nat) : (esU8 l).drop (k * 1) = esU8 (l.drop k) := flat_drop k (fun _ _ => rfl)
theorem esU8_drop (l : List Int) (k : Nat) (h : k < l.length) : (esU8 l).drop (k * 1) = eU8 l[k] ++ esU8 (l.drop (k + 1)) := by rw [esU8_dropk, List.drop_eq_getElem_cons h]; rfl
theorem esU8_drop1 (l : List Int) (k : Nat) (h : k < l.length) : (esU8 l).drop k = eU8 l[k] ++ esU8 (l.drop (k + 1)) := by have := esU8_drop l k h; simpa using this
theorem esU8_takek (l : List Int) (k : Nat) : (esU8 l).take (k * 1) = esU8 (l.take k) := flat_take k (fun _ _ => rfl)
theorem esU8_setL (l : List Int) (k : Nat) (x : Int) (h : k < l.length) : Av.setL (esU8 l) (k * 1) (eU8 x) = esU8 (l.set k x) := setL_flat x (fun _ _ => rfl) rfl h
theorem esU8_leaf (l : List Int) : leafCs (esU8 l) = true := leafCs_flat (fun _ => rfl)
theorem esU8_fit (l : List Int) : fitCs (esU8 l) = true := fitCs_flat (fun _ => rfl)
theorem esU8_get (l : List Int) (k : Nat) (h : k < l.length) : (esU8 l)[k]? = some (U8 l[k]) := by have := flat_get (enc := eU8) (sz := 1) (l := l) (fun _ _ => rfl) (k := k) (j := 0) h (by decide); rw [Nat.mul_one, Nat.add_zero] at this; exact this
theorem esU8_set (l : List Int) (k : Nat) (x : Int) (h : k < l.length) : (esU8 l).set k (U8 x) = esU8 (l.set k x) := by have := esU8_setL l k x h; rw [Nat.mul_one] at this; rw [setL_one _ _ (by rw [esU8_len]; omega)]; exact this
theorem esU8_share (l : List Int) : AV.shares (esU8 l) = esU8 l := shares_flat (fun x => by simp [eU8, AV.shares, AV.share])
theorem esU8_pure (l : List Int) : pureVs (esU8 l) = true := pureVs_flat (fun x => by simp [eU8, pureVs, pureV])
theorem esU8_free (l : List Int) : AV.noRefs (esU8 l) = true := noRefs_flat (fun x => by simp [eU8, AV.noRefs, AV.noRef])
structure GResident where
  Name : ByteArray
  Size : Int
  Held : Int
  Used : Int
  deriving DecidableEq, Inhabited
def eResident (x : GResident) : List AV := [S x.Name, I x.Size, I x.Held, I x.Used]
theorem eResident_eq (x : GResident) : eResident x = [S x.Name, I x.Size, I x.Held, I x.Used] := rfl
def esResident (l : List GResident) : List AV := l.flatMap eResident
theorem esResident_len (l : List GResident) : (esResident l).length = l.length * 4 := flat_len (fun _ _ => rfl)
theorem esResident_nil : esResident [] = [] := rfl
theorem esResident_cons (x : GResident) (l : List GResident) : esResident (x :: l) = eResident x ++ esResident l := rfl
theorem esResident_app (l k : List GResident) : esResident (l ++ k) = esResident l ++ esResident k := by simp [esResident]
theorem esResident_dropk (l : List GResident) (k : Nat) : (esResident l).drop (k * 4) = esResident (l.drop k) := flat_drop k (fun _ _ => rfl)
theorem esResident_drop (l : List GResident) (k : Nat) (h : k < l.length) : (esResident l).drop (k * 4) = eResident l[k] ++ esResident (l.drop (k + 1)) := by rw [esResident_dropk, List.drop_eq_getElem_cons h]; rfl
theorem esResident_takek (l : List GResident) (k : Nat) : (esResident l).take (k * 4) = esResident (l.take k) := flat_take k (fun _ _ => rfl)
theorem esResident_setL (l : List GResident) (k : Nat) (x : GResident) (h : k < l.length) : Av.setL (esResident l) (k * 4) (eResident x) = esResident (l.set k x) := setL_flat x (fun _ _ => rfl) rfl h
theorem esResident_leaf (l : List GResident) : leafCs (esResident l) = true := leafCs_flat (fun _ => rfl)
theorem esResident_fit (l : List GResident) : fitCs (esResident l) = true := fitCs_flat (fun _ => rfl)
theorem esResident_get_Name (l : List GResident) (k : Nat) (h : k < l.length) : (esResident l)[k * 4]? = some (S l[k].Name) := by have := flat_get (enc := eResident) (sz := 4) (l := l) (fun _ _ => rfl) (k := k) (j := 0) h (by decide); exact this
theorem esResident_set_Name (l : List GResident) (k : Nat) (v : ByteArray) (h : k < l.length) : (esResident l).set (k * 4) (S v) = esResident (l.set k { l[k] with Name := v }) := by have := flat_set (enc := eResident) (sz := 4) (l := l) (x := { l[k] with Name := v }) (fun _ _ => rfl) rfl (k := k) h 0 (by decide) (S v) rfl; exact this
theorem esResident_get_Size (l : List GResident) (k : Nat) (h : k < l.length) : (esResident l)[k * 4 + 1]? = some (I l[k].Size) := by have := flat_get (enc := eResident) (sz := 4) (l := l) (fun _ _ => rfl) (k := k) (j := 1) h (by decide); exact this
theorem esResident_set_Size (l : List GResident) (k : Nat) (v : Int) (h : k < l.length) : (esResident l).set (k * 4 + 1) (I v) = esResident (l.set k { l[k] with Size := v }) := by have := flat_set (enc := eResident) (sz := 4) (l := l) (x := { l[k] with Size := v }) (fun _ _ => rfl) rfl (k := k) h 1 (by decide) (I v) rfl; exact this
theorem esResident_get_Held (l : List GResident) (k : Nat) (h : k < l.length) : (esResident l)[k * 4 + 2]? = some (I l[k].Held) := by have := flat_get (enc := eResident) (sz := 4) (l := l) (fun _ _ => rfl) (k := k) (j := 2) h (by decide); exact this
theorem esResident_set_Held (l : List GResident) (k : Nat) (v : Int) (h : k < l.length) : (esResident l).set (k * 4 + 2) (I v) = esResident (l.set k { l[k] with Held := v }) := by have := flat_set (enc := eResident) (sz := 4) (l := l) (x := { l[k] with Held := v }) (fun _ _ => rfl) rfl (k := k) h 2 (by decide) (I v) rfl; exact this
theorem esResident_get_Used (l : List GResident) (k : Nat) (h : k < l.length) : (esResident l)[k * 4 + 3]? = some (I l[k].Used) := by have := flat_get (enc := eResident) (sz := 4) (l := l) (fun _ _ => rfl) (k := k) (j := 3) h (by decide); exact this
theorem esResident_set_Used (l : List GResident) (k : Nat) (v : Int) (h : k < l.length) : (esResident l).set (k * 4 + 3) (I v) = esResident (l.set k { l[k] with Used := v }) := by have := flat_set (enc := eResident) (sz := 4) (l := l) (x := { l[k] with Used := v }) (fun _ _ => rfl) rfl (k := k) h 3 (by decide) (I v) rfl; exact this
theorem esResident_share (l : List GResident) : AV.shares (esResident l) = esResident l := shares_flat (fun x => by simp [eResident, AV.shares, AV.share])
theorem esResident_pure (l : List GResident) : pureVs (esResident l) = true := pureVs_flat (fun x => by simp [eResident, pureVs, pureV])
theorem esResident_free (l : List GResident) : AV.noRefs (esResident l) = true := noRefs_flat (fun x => by simp [eResident, AV.noRefs, AV.noRef])
structure GStore where
  Budget : Int
  Clock : Int
  In : List GResident
  deriving DecidableEq, Inhabited
def eStore (x : GStore) : List AV := [I x.Budget, I x.Clock, .row false 4 x.In.length (esResident x.In)]
theorem eStore_eq (x : GStore) : eStore x = [I x.Budget, I x.Clock, .row false 4 x.In.length (esResident x.In)] := rfl
def esStore (l : List GStore) : List AV := l.flatMap eStore
theorem esStore_len (l : List GStore) : (esStore l).length = l.length * 3 := flat_len (fun _ _ => rfl)
theorem esStore_nil : esStore [] = [] := rfl
theorem esStore_cons (x : GStore) (l : List GStore) : esStore (x :: l) = eStore x ++ esStore l := rfl
theorem esStore_app (l k : List GStore) : esStore (l ++ k) = esStore l ++ esStore k := by simp [esStore]
theorem esStore_dropk (l : List GStore) (k : Nat) : (esStore l).drop (k * 3) = esStore (l.drop k) := flat_drop k (fun _ _ => rfl)
theorem esStore_drop (l : List GStore) (k : Nat) (h : k < l.length) : (esStore l).drop (k * 3) = eStore l[k] ++ esStore (l.drop (k + 1)) := by rw [esStore_dropk, List.drop_eq_getElem_cons h]; rfl
theorem esStore_takek (l : List GStore) (k : Nat) : (esStore l).take (k * 3) = esStore (l.take k) := flat_take k (fun _ _ => rfl)
theorem esStore_setL (l : List GStore) (k : Nat) (x : GStore) (h : k < l.length) : Av.setL (esStore l) (k * 3) (eStore x) = esStore (l.set k x) := setL_flat x (fun _ _ => rfl) rfl h
theorem esStore_leaf (l : List GStore) : leafCs (esStore l) = true := leafCs_flat (fun _ => rfl)
theorem esStore_fit (l : List GStore) : fitCs (esStore l) = true := fitCs_flat (fun _ => rfl)
theorem esStore_get_Budget (l : List GStore) (k : Nat) (h : k < l.length) : (esStore l)[k * 3]? = some (I l[k].Budget) := by have := flat_get (enc := eStore) (sz := 3) (l := l) (fun _ _ => rfl) (k := k) (j := 0) h (by decide); exact this
theorem esStore_set_Budget (l : List GStore) (k : Nat) (v : Int) (h : k < l.length) : (esStore l).set (k * 3) (I v) = esStore (l.set k { l[k] with Budget := v }) := by have := flat_set (enc := eStore) (sz := 3) (l := l) (x := { l[k] with Budget := v }) (fun _ _ => rfl) rfl (k := k) h 0 (by decide) (I v) rfl; exact this
theorem esStore_get_Clock (l : List GStore) (k : Nat) (h : k < l.length) : (esStore l)[k * 3 + 1]? = some (I l[k].Clock) := by have := flat_get (enc := eStore) (sz := 3) (l := l) (fun _ _ => rfl) (k := k) (j := 1) h (by decide); exact this
theorem esStore_set_Clock (l : List GStore) (k : Nat) (v : Int) (h : k < l.length) : (esStore l).set (k * 3 + 1) (I v) = esStore (l.set k { l[k] with Clock := v }) := by have := flat_set (enc := eStore) (sz := 3) (l := l) (x := { l[k] with Clock := v }) (fun _ _ => rfl) rfl (k := k) h 1 (by decide) (I v) rfl; exact this
theorem esStore_get_In (l : List GStore) (k : Nat) (h : k < l.length) : (esStore l)[k * 3 + 2]? = some (.row false 4 l[k].In.length (esResident l[k].In)) := by have := flat_get (enc := eStore) (sz := 3) (l := l) (fun _ _ => rfl) (k := k) (j := 2) h (by decide); exact this
theorem esStore_set_In (l : List GStore) (k : Nat) (v : List GResident) (h : k < l.length) : (esStore l).set (k * 3 + 2) (.row false 4 v.length (esResident v)) = esStore (l.set k { l[k] with In := v }) := by have := flat_set (enc := eStore) (sz := 3) (l := l) (x := { l[k] with In := v }) (fun _ _ => rfl) rfl (k := k) h 2 (by decide) (.row false 4 v.length (esResident v)) rfl; exact this
theorem esStore_share (l : List GStore) : AV.shares (esStore l) = esStore l := shares_flat (fun x => by simp [eStore, AV.shares, AV.share, esResident_share])
theorem esStore_free (l : List GStore) : AV.noRefs (esStore l) = true := noRefs_flat (fun x => by simp [eStore, AV.noRefs, AV.noRef])
def eStoreo (x : GStore) : List AV := [I x.Budget, I x.Clock, .row true 4 x.In.length (esResident x.In)]
theorem eStoreo_eq (x : GStore) : eStoreo x = [I x.Budget, I x.Clock, .row true 4 x.In.length (esResident x.In)] := rfl
def esStoreo (l : List GStore) : List AV := l.flatMap eStoreo
theorem esStoreo_len (l : List GStore) : (esStoreo l).length = l.length * 3 := flat_len (fun _ _ => rfl)
theorem esStoreo_nil : esStoreo [] = [] := rfl
theorem esStoreo_cons (x : GStore) (l : List GStore) : esStoreo (x :: l) = eStoreo x ++ esStoreo l := rfl
theorem esStoreo_app (l k : List GStore) : esStoreo (l ++ k) = esStoreo l ++ esStoreo k := by simp [esStoreo]
theorem esStoreo_dropk (l : List GStore) (k : Nat) : (esStoreo l).drop (k * 3) = esStoreo (l.drop k) := flat_drop k (fun _ _ => rfl)
theorem esStoreo_drop (l : List GStore) (k : Nat) (h : k < l.length) : (esStoreo l).drop (k * 3) = eStoreo l[k] ++ esStoreo (l.drop (k + 1)) := by rw [esStoreo_dropk, List.drop_eq_getElem_cons h]; rfl
theorem esStoreo_takek (l : List GStore) (k : Nat) : (esStoreo l).take (k * 3) = esStoreo (l.take k) := flat_take k (fun _ _ => rfl)
theorem esStoreo_setL (l : List GStore) (k : Nat) (x : GStore) (h : k < l.length) : Av.setL (esStoreo l) (k * 3) (eStoreo x) = esStoreo (l.set k x) := setL_flat x (fun _ _ => rfl) rfl h
theorem esStoreo_fit (l : List GStore) : fitCs (esStoreo l) = true := fitCs_flat (fun _ => rfl)
theorem esStoreo_get_Budget (l : List GStore) (k : Nat) (h : k < l.length) : (esStoreo l)[k * 3]? = some (I l[k].Budget) := by have := flat_get (enc := eStoreo) (sz := 3) (l := l) (fun _ _ => rfl) (k := k) (j := 0) h (by decide); exact this
theorem esStoreo_set_Budget (l : List GStore) (k : Nat) (v : Int) (h : k < l.length) : (esStoreo l).set (k * 3) (I v) = esStoreo (l.set k { l[k] with Budget := v }) := by have := flat_set (enc := eStoreo) (sz := 3) (l := l) (x := { l[k] with Budget := v }) (fun _ _ => rfl) rfl (k := k) h 0 (by decide) (I v) rfl; exact this
theorem esStoreo_get_Clock (l : List GStore) (k : Nat) (h : k < l.length) : (esStoreo l)[k * 3 + 1]? = some (I l[k].Clock) := by have := flat_get (enc := eStoreo) (sz := 3) (l := l) (fun _ _ => rfl) (k := k) (j := 1) h (by decide); exact this
theorem esStoreo_set_Clock (l : List GStore) (k : Nat) (v : Int) (h : k < l.length) : (esStoreo l).set (k * 3 + 1) (I v) = esStoreo (l.set k { l[k] with Clock := v }) := by have := flat_set (enc := eStoreo) (sz := 3) (l := l) (x := { l[k] with Clock := v }) (fun _ _ => rfl) rfl (k := k) h 1 (by decide) (I v) rfl; exact this
theorem esStoreo_get_In (l : List GStore) (k : Nat) (h : k < l.length) : (esStoreo l)[k * 3 + 2]? = some (.row true 4 l[k].In.length (esResident l[k].In)) := by have := flat_get (enc := eStoreo) (sz := 3) (l := l) (fun _ _ => rfl) (k := k) (j := 2) h (by decide); exact this
theorem esStoreo_set_In (l : List GStore) (k : Nat) (v : List GResident) (h : k < l.length) : (esStoreo l).set (k * 3 + 2) (.row true 4 v.length (esResident v)) = esStoreo (l.set k { l[k] with In := v }) := by have := flat_set (enc := eStoreo) (sz := 3) (l := l) (x := { l[k] with In := v }) (fun _ _ => rfl) rfl (k := k) h 2 (by decide) (.row true 4 v.length (esResident v)) rfl; exact this
theorem esStoreo_share (l : List GStore) : AV.shares (esStoreo l) = esStore l := shares_flat (fun x => by simp [eStoreo, eStore, AV.shares, AV.share, esResident_share])
theorem esStoreo_pure (l : List GStore) : pureVs (esStoreo l) = true := pureVs_flat (fun x => by simp [eStoreo, pureVs, pureV, esResident_pure])
end Go.Av
