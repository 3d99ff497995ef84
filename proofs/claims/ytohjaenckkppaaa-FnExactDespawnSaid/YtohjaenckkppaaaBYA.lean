/- The types of the program, their cells. -/
import Derived.Test.YtohjaenckkppaaaBZw
set_option linter.unusedSimpArgs false
set_option linter.unusedVariables false
/-! The types of the program, their cells. -/
namespace Go.Av
def eInt (x : Int) : List AV := [I x]
theorem eInt_eq (x : Int) : eInt x = [I x] := rfl
def esInt (l : List Int) : List AV := l.flatMap eInt
theorem esInt_len (l : List Int) : (esInt l).length = l.length * 1 := flat_len (fun _ _ => rfl)
theorem esInt_nil : esInt [] = [] := rfl
theorem esInt_cons (x : Int) (l : List Int) : esInt (x :: l) = eInt x ++ esInt l := rfl
theorem esInt_app (l k : List Int) : esInt (l ++ k) = esInt l ++ esInt k := by simp [esInt]
theorem esInt_dropk (l : List Int) (k : Nat) : (esInt l).drop (k * 1) = esInt (l.drop k) := flat_drop k (fun _ _ => rfl)
theorem esInt_drop (l : List Int) (k : Nat) (h : k < l.length) : (esInt l).drop (k * 1) = eInt l[k] ++ esInt (l.drop (k + 1)) := by rw [esInt_dropk, List.drop_eq_getElem_cons h]; rfl
theorem esInt_drop1 (l : List Int) (k : Nat) (h : k < l.length) : (esInt l).drop k = eInt l[k] ++ esInt (l.drop (k + 1)) := by have := esInt_drop l k h; simpa using this
theorem esInt_takek (l : List Int) (k : Nat) : (esInt l).take (k * 1) = esInt (l.take k) := flat_take k (fun _ _ => rfl)
theorem esInt_setL (l : List Int) (k : Nat) (x : Int) (h : k < l.length) : Av.setL (esInt l) (k * 1) (eInt x) = esInt (l.set k x) := setL_flat x (fun _ _ => rfl) rfl h
theorem esInt_leaf (l : List Int) : leafCs (esInt l) = true := leafCs_flat (fun _ => rfl)
theorem esInt_fit (l : List Int) : fitCs (esInt l) = true := fitCs_flat (fun _ => rfl)
theorem esInt_get (l : List Int) (k : Nat) (h : k < l.length) : (esInt l)[k]? = some (I l[k]) := by have := flat_get (enc := eInt) (sz := 1) (l := l) (fun _ _ => rfl) (k := k) (j := 0) h (by decide); rw [Nat.mul_one, Nat.add_zero] at this; exact this
theorem esInt_set (l : List Int) (k : Nat) (x : Int) (h : k < l.length) : (esInt l).set k (I x) = esInt (l.set k x) := by have := esInt_setL l k x h; rw [Nat.mul_one] at this; rw [setL_one _ _ (by rw [esInt_len]; omega)]; exact this
theorem esInt_share (l : List Int) : AV.shares (esInt l) = esInt l := shares_flat (fun x => by simp [eInt, AV.shares, AV.share])
theorem esInt_pure (l : List Int) : pureVs (esInt l) = true := pureVs_flat (fun x => by simp [eInt, pureVs, pureV])
theorem esInt_free (l : List Int) : AV.noRefs (esInt l) = true := noRefs_flat (fun x => by simp [eInt, AV.noRefs, AV.noRef])
def eBool (x : Bool) : List AV := [B x]
theorem eBool_eq (x : Bool) : eBool x = [B x] := rfl
def esBool (l : List Bool) : List AV := l.flatMap eBool
theorem esBool_len (l : List Bool) : (esBool l).length = l.length * 1 := flat_len (fun _ _ => rfl)
theorem esBool_nil : esBool [] = [] := rfl
theorem esBool_cons (x : Bool) (l : List Bool) : esBool (x :: l) = eBool x ++ esBool l := rfl
theorem esBool_app (l k : List Bool) : esBool (l ++ k) = esBool l ++ esBool k := by simp [esBool]
theorem esBool_dropk (l : List Bool) (k : Nat) : (esBool l).drop (k * 1) = esBool (l.drop k) := flat_drop k (fun _ _ => rfl)
theorem esBool_drop (l : List Bool) (k : Nat) (h : k < l.length) : (esBool l).drop (k * 1) = eBool l[k] ++ esBool (l.drop (k + 1)) := by rw [esBool_dropk, List.drop_eq_getElem_cons h]; rfl
theorem esBool_drop1 (l : List Bool) (k : Nat) (h : k < l.length) : (esBool l).drop k = eBool l[k] ++ esBool (l.drop (k + 1)) := by have := esBool_drop l k h; simpa using this
theorem esBool_takek (l : List Bool) (k : Nat) : (esBool l).take (k * 1) = esBool (l.take k) := flat_take k (fun _ _ => rfl)
theorem esBool_setL (l : List Bool) (k : Nat) (x : Bool) (h : k < l.length) : Av.setL (esBool l) (k * 1) (eBool x) = esBool (l.set k x) := setL_flat x (fun _ _ => rfl) rfl h
theorem esBool_leaf (l : List Bool) : leafCs (esBool l) = true := leafCs_flat (fun _ => rfl)
theorem esBool_fit (l : List Bool) : fitCs (esBool l) = true := fitCs_flat (fun _ => rfl)
theorem esBool_get (l : List Bool) (k : Nat) (h : k < l.length) : (esBool l)[k]? = some (B l[k]) := by have := flat_get (enc := eBool) (sz := 1) (l := l) (fun _ _ => rfl) (k := k) (j := 0) h (by decide); rw [Nat.mul_one, Nat.add_zero] at this; exact this
theorem esBool_set (l : List Bool) (k : Nat) (x : Bool) (h : k < l.length) : (esBool l).set k (B x) = esBool (l.set k x) := by have := esBool_setL l k x h; rw [Nat.mul_one] at this; rw [setL_one _ _ (by rw [esBool_len]; omega)]; exact this
theorem esBool_share (l : List Bool) : AV.shares (esBool l) = esBool l := shares_flat (fun x => by simp [eBool, AV.shares, AV.share])
theorem esBool_pure (l : List Bool) : pureVs (esBool l) = true := pureVs_flat (fun x => by simp [eBool, pureVs, pureV])
theorem esBool_free (l : List Bool) : AV.noRefs (esBool l) = true := noRefs_flat (fun x => by simp [eBool, AV.noRefs, AV.noRef])
def eStr (x : ByteArray) : List AV := [S x]
theorem eStr_eq (x : ByteArray) : eStr x = [S x] := rfl
def esStr (l : List ByteArray) : List AV := l.flatMap eStr
theorem esStr_len (l : List ByteArray) : (esStr l).length = l.length * 1 := flat_len (fun _ _ => rfl)
theorem esStr_nil : esStr [] = [] := rfl
theorem esStr_cons (x : ByteArray) (l : List ByteArray) : esStr (x :: l) = eStr x ++ esStr l := rfl
theorem esStr_app (l k : List ByteArray) : esStr (l ++ k) = esStr l ++ esStr k := by simp [esStr]
theorem esStr_dropk (l : List ByteArray) (k : Nat) : (esStr l).drop (k * 1) = esStr (l.drop k) := flat_drop k (fun _ _ => rfl)
theorem esStr_drop (l : List ByteArray) (k : Nat) (h : k < l.length) : (esStr l).drop (k * 1) = eStr l[k] ++ esStr (l.drop (k + 1)) := by rw [esStr_dropk, List.drop_eq_getElem_cons h]; rfl
theorem esStr_drop1 (l : List ByteArray) (k : Nat) (h : k < l.length) : (esStr l).drop k = eStr l[k] ++ esStr (l.drop (k + 1)) := by have := esStr_drop l k h; simpa using this
theorem esStr_takek (l : List ByteArray) (k : Nat) : (esStr l).take (k * 1) = esStr (l.take k) := flat_take k (fun _ _ => rfl)
theorem esStr_setL (l : List ByteArray) (k : Nat) (x : ByteArray) (h : k < l.length) : Av.setL (esStr l) (k * 1) (eStr x) = esStr (l.set k x) := setL_flat x (fun _ _ => rfl) rfl h
theorem esStr_leaf (l : List ByteArray) : leafCs (esStr l) = true := leafCs_flat (fun _ => rfl)
theorem esStr_fit (l : List ByteArray) : fitCs (esStr l) = true := fitCs_flat (fun _ => rfl)
theorem esStr_get (l : List ByteArray) (k : Nat) (h : k < l.length) : (esStr l)[k]? = some (S l[k]) := by have := flat_get (enc := eStr) (sz := 1) (l := l) (fun _ _ => rfl) (k := k) (j := 0) h (by decide); rw [Nat.mul_one, Nat.add_zero] at this; exact this
theorem esStr_set (l : List ByteArray) (k : Nat) (x : ByteArray) (h : k < l.length) : (esStr l).set k (S x) = esStr (l.set k x) := by have := esStr_setL l k x h; rw [Nat.mul_one] at this; rw [setL_one _ _ (by rw [esStr_len]; omega)]; exact this
theorem esStr_share (l : List ByteArray) : AV.shares (esStr l) = esStr l := shares_flat (fun x => by simp [eStr, AV.shares, AV.share])
theorem esStr_pure (l : List ByteArray) : pureVs (esStr l) = true := pureVs_flat (fun x => by simp [eStr, pureVs, pureV])
theorem esStr_free (l : List ByteArray) : AV.noRefs (esStr l) = true := noRefs_flat (fun x => by simp [eStr, AV.noRefs, AV.noRef])
def eU8 (x : Int) : List AV := [U8 x]
theorem eU8_eq (x : Int) : eU8 x = [U8 x] := rfl
def esU8 (l : List Int) : List AV := l.flatMap eU8
theorem esU8_len (l : List Int) : (esU8 l).length = l.length * 1 := flat_len (fun _ _ => rfl)
theorem esU8_nil : esU8 [] = [] := rfl
theorem esU8_cons (x : Int) (l : List Int) : esU8 (x :: l) = eU8 x ++ esU8 l := rfl
theorem esU8_app (l k : List Int) : esU8 (l ++ k) = esU8 l ++ esU8 k := by simp [esU8]
theorem esU8_dropk (l : List Int) (k : Nat) : (esU8 l).drop (k * 1) = esU8 (l.drop k) := flat_drop k (fun _ _ => rfl)
theorem esU8_drop (l : List Int) (k : Nat) (h : k < l.length) : (esU8 l).drop (k * 1) = eU8 l[k] ++ esU8 (l.drop (k + 1)) := by rw [esU8_dropk, List.drop_eq_getElem_cons h]; rfl
theorem esU8_drop1 (l : List Int) (k : Nat) (h : k < l.length) : (esU8 l).drop k = eU8 l[k] ++ esU8 (l.drop (k + 1)) := by have := esU8_drop l k h; simpa using this
theorem esU8_takek (l : List Int) (k : Nat) : (esU8 l).take (k * 1) = esU8 (l.take k) := flat_take k (fun _ _ => rfl)
theorem esU8_setL (l : List Int) (k : Nat) (x : Int) (h : k < l.length) : Av.setL (esU8 l) (k * 1) (eU8 x) = esU8 (l.set k x) := setL_flat x (fun _ _ => rfl) rfl h
theorem esU8_leaf (l : List Int) : leafCs (esU8 l) = true := leafCs_flat (fun _ => rfl)
theorem esU8_fit (l : List Int) : fitCs (esU8 l) = true := fitCs_flat (fun _ => rfl)
theorem esU8_get (l : List Int) (k : Nat) (h : k < l.length) : (esU8 l)[k]? = some (U8 l[k]) := by have := flat_get (enc := eU8) (sz := 1) (l := l) (fun _ _ => rfl) (k := k) (j := 0) h (by decide); rw [Nat.mul_one, Nat.add_zero] at this; exact this
theorem esU8_set (l : List Int) (k : Nat) (x : Int) (h : k < l.length) : (esU8 l).set k (U8 x) = esU8 (l.set k x) := by have := esU8_setL l k x h; rw [Nat.mul_one] at this; rw [setL_one _ _ (by rw [esU8_len]; omega)]; exact this
theorem esU8_share (l : List Int) : AV.shares (esU8 l) = esU8 l := shares_flat (fun x => by simp [eU8, AV.shares, AV.share])
theorem esU8_pure (l : List Int) : pureVs (esU8 l) = true := pureVs_flat (fun x => by simp [eU8, pureVs, pureV])
theorem esU8_free (l : List Int) : AV.noRefs (esU8 l) = true := noRefs_flat (fun x => by simp [eU8, AV.noRefs, AV.noRef])
structure GPart where
  Name : ByteArray
  Value : Int
  Tick : Int
  deriving DecidableEq, Inhabited
def ePart (x : GPart) : List AV := [S x.Name, I x.Value, I x.Tick]
theorem ePart_eq (x : GPart) : ePart x = [S x.Name, I x.Value, I x.Tick] := rfl
def esPart (l : List GPart) : List AV := l.flatMap ePart
theorem esPart_len (l : List GPart) : (esPart l).length = l.length * 3 := flat_len (fun _ _ => rfl)
theorem esPart_nil : esPart [] = [] := rfl
theorem esPart_cons (x : GPart) (l : List GPart) : esPart (x :: l) = ePart x ++ esPart l := rfl
theorem esPart_app (l k : List GPart) : esPart (l ++ k) = esPart l ++ esPart k := by simp [esPart]
theorem esPart_dropk (l : List GPart) (k : Nat) : (esPart l).drop (k * 3) = esPart (l.drop k) := flat_drop k (fun _ _ => rfl)
theorem esPart_drop (l : List GPart) (k : Nat) (h : k < l.length) : (esPart l).drop (k * 3) = ePart l[k] ++ esPart (l.drop (k + 1)) := by rw [esPart_dropk, List.drop_eq_getElem_cons h]; rfl
theorem esPart_takek (l : List GPart) (k : Nat) : (esPart l).take (k * 3) = esPart (l.take k) := flat_take k (fun _ _ => rfl)
theorem esPart_setL (l : List GPart) (k : Nat) (x : GPart) (h : k < l.length) : Av.setL (esPart l) (k * 3) (ePart x) = esPart (l.set k x) := setL_flat x (fun _ _ => rfl) rfl h
theorem esPart_leaf (l : List GPart) : leafCs (esPart l) = true := leafCs_flat (fun _ => rfl)
theorem esPart_fit (l : List GPart) : fitCs (esPart l) = true := fitCs_flat (fun _ => rfl)
theorem esPart_get_Name (l : List GPart) (k : Nat) (h : k < l.length) : (esPart l)[k * 3]? = some (S l[k].Name) := by have := flat_get (enc := ePart) (sz := 3) (l := l) (fun _ _ => rfl) (k := k) (j := 0) h (by decide); exact this
theorem esPart_set_Name (l : List GPart) (k : Nat) (v : ByteArray) (h : k < l.length) : (esPart l).set (k * 3) (S v) = esPart (l.set k { l[k] with Name := v }) := by have := flat_set (enc := ePart) (sz := 3) (l := l) (x := { l[k] with Name := v }) (fun _ _ => rfl) rfl (k := k) h 0 (by decide) (S v) rfl; exact this
theorem esPart_get_Value (l : List GPart) (k : Nat) (h : k < l.length) : (esPart l)[k * 3 + 1]? = some (I l[k].Value) := by have := flat_get (enc := ePart) (sz := 3) (l := l) (fun _ _ => rfl) (k := k) (j := 1) h (by decide); exact this
theorem esPart_set_Value (l : List GPart) (k : Nat) (v : Int) (h : k < l.length) : (esPart l).set (k * 3 + 1) (I v) = esPart (l.set k { l[k] with Value := v }) := by have := flat_set (enc := ePart) (sz := 3) (l := l) (x := { l[k] with Value := v }) (fun _ _ => rfl) rfl (k := k) h 1 (by decide) (I v) rfl; exact this
theorem esPart_get_Tick (l : List GPart) (k : Nat) (h : k < l.length) : (esPart l)[k * 3 + 2]? = some (I l[k].Tick) := by have := flat_get (enc := ePart) (sz := 3) (l := l) (fun _ _ => rfl) (k := k) (j := 2) h (by decide); exact this
theorem esPart_set_Tick (l : List GPart) (k : Nat) (v : Int) (h : k < l.length) : (esPart l).set (k * 3 + 2) (I v) = esPart (l.set k { l[k] with Tick := v }) := by have := flat_set (enc := ePart) (sz := 3) (l := l) (x := { l[k] with Tick := v }) (fun _ _ => rfl) rfl (k := k) h 2 (by decide) (I v) rfl; exact this
theorem esPart_share (l : List GPart) : AV.shares (esPart l) = esPart l := shares_flat (fun x => by simp [ePart, AV.shares, AV.share])
theorem esPart_pure (l : List GPart) : pureVs (esPart l) = true := pureVs_flat (fun x => by simp [ePart, pureVs, pureV])
theorem esPart_free (l : List GPart) : AV.noRefs (esPart l) = true := noRefs_flat (fun x => by simp [ePart, AV.noRefs, AV.noRef])
structure GEntity where
  Id : Int
  Parts : List GPart
  deriving DecidableEq, Inhabited
def eEntity (x : GEntity) : List AV := [I x.Id, .row false 3 x.Parts.length (esPart x.Parts)]
theorem eEntity_eq (x : GEntity) : eEntity x = [I x.Id, .row false 3 x.Parts.length (esPart x.Parts)] := rfl
def esEntity (l : List GEntity) : List AV := l.flatMap eEntity
theorem esEntity_len (l : List GEntity) : (esEntity l).length = l.length * 2 := flat_len (fun _ _ => rfl)
theorem esEntity_nil : esEntity [] = [] := rfl
theorem esEntity_cons (x : GEntity) (l : List GEntity) : esEntity (x :: l) = eEntity x ++ esEntity l := rfl
theorem esEntity_app (l k : List GEntity) : esEntity (l ++ k) = esEntity l ++ esEntity k := by simp [esEntity]
theorem esEntity_dropk (l : List GEntity) (k : Nat) : (esEntity l).drop (k * 2) = esEntity (l.drop k) := flat_drop k (fun _ _ => rfl)
theorem esEntity_drop (l : List GEntity) (k : Nat) (h : k < l.length) : (esEntity l).drop (k * 2) = eEntity l[k] ++ esEntity (l.drop (k + 1)) := by rw [esEntity_dropk, List.drop_eq_getElem_cons h]; rfl
theorem esEntity_takek (l : List GEntity) (k : Nat) : (esEntity l).take (k * 2) = esEntity (l.take k) := flat_take k (fun _ _ => rfl)
theorem esEntity_setL (l : List GEntity) (k : Nat) (x : GEntity) (h : k < l.length) : Av.setL (esEntity l) (k * 2) (eEntity x) = esEntity (l.set k x) := setL_flat x (fun _ _ => rfl) rfl h
theorem esEntity_leaf (l : List GEntity) : leafCs (esEntity l) = true := leafCs_flat (fun _ => rfl)
theorem esEntity_fit (l : List GEntity) : fitCs (esEntity l) = true := fitCs_flat (fun _ => rfl)
theorem esEntity_get_Id (l : List GEntity) (k : Nat) (h : k < l.length) : (esEntity l)[k * 2]? = some (I l[k].Id) := by have := flat_get (enc := eEntity) (sz := 2) (l := l) (fun _ _ => rfl) (k := k) (j := 0) h (by decide); exact this
theorem esEntity_set_Id (l : List GEntity) (k : Nat) (v : Int) (h : k < l.length) : (esEntity l).set (k * 2) (I v) = esEntity (l.set k { l[k] with Id := v }) := by have := flat_set (enc := eEntity) (sz := 2) (l := l) (x := { l[k] with Id := v }) (fun _ _ => rfl) rfl (k := k) h 0 (by decide) (I v) rfl; exact this
theorem esEntity_get_Parts (l : List GEntity) (k : Nat) (h : k < l.length) : (esEntity l)[k * 2 + 1]? = some (.row false 3 l[k].Parts.length (esPart l[k].Parts)) := by have := flat_get (enc := eEntity) (sz := 2) (l := l) (fun _ _ => rfl) (k := k) (j := 1) h (by decide); exact this
theorem esEntity_set_Parts (l : List GEntity) (k : Nat) (v : List GPart) (h : k < l.length) : (esEntity l).set (k * 2 + 1) (.row false 3 v.length (esPart v)) = esEntity (l.set k { l[k] with Parts := v }) := by have := flat_set (enc := eEntity) (sz := 2) (l := l) (x := { l[k] with Parts := v }) (fun _ _ => rfl) rfl (k := k) h 1 (by decide) (.row false 3 v.length (esPart v)) rfl; exact this
theorem esEntity_share (l : List GEntity) : AV.shares (esEntity l) = esEntity l := shares_flat (fun x => by simp [eEntity, AV.shares, AV.share, esPart_share])
theorem esEntity_free (l : List GEntity) : AV.noRefs (esEntity l) = true := noRefs_flat (fun x => by simp [eEntity, AV.noRefs, AV.noRef])
def eEntityo (x : GEntity) : List AV := [I x.Id, .row true 3 x.Parts.length (esPart x.Parts)]
theorem eEntityo_eq (x : GEntity) : eEntityo x = [I x.Id, .row true 3 x.Parts.length (esPart x.Parts)] := rfl
def esEntityo (l : List GEntity) : List AV := l.flatMap eEntityo
theorem esEntityo_len (l : List GEntity) : (esEntityo l).length = l.length * 2 := flat_len (fun _ _ => rfl)
theorem esEntityo_nil : esEntityo [] = [] := rfl
theorem esEntityo_cons (x : GEntity) (l : List GEntity) : esEntityo (x :: l) = eEntityo x ++ esEntityo l := rfl
theorem esEntityo_app (l k : List GEntity) : esEntityo (l ++ k) = esEntityo l ++ esEntityo k := by simp [esEntityo]
theorem esEntityo_dropk (l : List GEntity) (k : Nat) : (esEntityo l).drop (k * 2) = esEntityo (l.drop k) := flat_drop k (fun _ _ => rfl)
theorem esEntityo_drop (l : List GEntity) (k : Nat) (h : k < l.length) : (esEntityo l).drop (k * 2) = eEntityo l[k] ++ esEntityo (l.drop (k + 1)) := by rw [esEntityo_dropk, List.drop_eq_getElem_cons h]; rfl
theorem esEntityo_takek (l : List GEntity) (k : Nat) : (esEntityo l).take (k * 2) = esEntityo (l.take k) := flat_take k (fun _ _ => rfl)
theorem esEntityo_setL (l : List GEntity) (k : Nat) (x : GEntity) (h : k < l.length) : Av.setL (esEntityo l) (k * 2) (eEntityo x) = esEntityo (l.set k x) := setL_flat x (fun _ _ => rfl) rfl h
theorem esEntityo_fit (l : List GEntity) : fitCs (esEntityo l) = true := fitCs_flat (fun _ => rfl)
theorem esEntityo_get_Id (l : List GEntity) (k : Nat) (h : k < l.length) : (esEntityo l)[k * 2]? = some (I l[k].Id) := by have := flat_get (enc := eEntityo) (sz := 2) (l := l) (fun _ _ => rfl) (k := k) (j := 0) h (by decide); exact this
theorem esEntityo_set_Id (l : List GEntity) (k : Nat) (v : Int) (h : k < l.length) : (esEntityo l).set (k * 2) (I v) = esEntityo (l.set k { l[k] with Id := v }) := by have := flat_set (enc := eEntityo) (sz := 2) (l := l) (x := { l[k] with Id := v }) (fun _ _ => rfl) rfl (k := k) h 0 (by decide) (I v) rfl; exact this
theorem esEntityo_get_Parts (l : List GEntity) (k : Nat) (h : k < l.length) : (esEntityo l)[k * 2 + 1]? = some (.row true 3 l[k].Parts.length (esPart l[k].Parts)) := by have := flat_get (enc := eEntityo) (sz := 2) (l := l) (fun _ _ => rfl) (k := k) (j := 1) h (by decide); exact this
theorem esEntityo_set_Parts (l : List GEntity) (k : Nat) (v : List GPart) (h : k < l.length) : (esEntityo l).set (k * 2 + 1) (.row true 3 v.length (esPart v)) = esEntityo (l.set k { l[k] with Parts := v }) := by have := flat_set (enc := eEntityo) (sz := 2) (l := l) (x := { l[k] with Parts := v }) (fun _ _ => rfl) rfl (k := k) h 1 (by decide) (.row true 3 v.length (esPart v)) rfl; exact this
theorem esEntityo_share (l : List GEntity) : AV.shares (esEntityo l) = esEntity l := shares_flat (fun x => by simp [eEntityo, eEntity, AV.shares, AV.share, esPart_share])
theorem esEntityo_pure (l : List GEntity) : pureVs (esEntityo l) = true := pureVs_flat (fun x => by simp [eEntityo, pureVs, pureV, esPart_pure])
structure GWorld where
  Next : Int
  Tick : Int
  Entities : List GEntity
  deriving DecidableEq, Inhabited
def eWorld (x : GWorld) : List AV := [I x.Next, I x.Tick, .row false 2 x.Entities.length (esEntity x.Entities)]
theorem eWorld_eq (x : GWorld) : eWorld x = [I x.Next, I x.Tick, .row false 2 x.Entities.length (esEntity x.Entities)] := rfl
def esWorld (l : List GWorld) : List AV := l.flatMap eWorld
theorem esWorld_len (l : List GWorld) : (esWorld l).length = l.length * 3 := flat_len (fun _ _ => rfl)
theorem esWorld_nil : esWorld [] = [] := rfl
theorem esWorld_cons (x : GWorld) (l : List GWorld) : esWorld (x :: l) = eWorld x ++ esWorld l := rfl
theorem esWorld_app (l k : List GWorld) : esWorld (l ++ k) = esWorld l ++ esWorld k := by simp [esWorld]
theorem esWorld_dropk (l : List GWorld) (k : Nat) : (esWorld l).drop (k * 3) = esWorld (l.drop k) := flat_drop k (fun _ _ => rfl)
theorem esWorld_drop (l : List GWorld) (k : Nat) (h : k < l.length) : (esWorld l).drop (k * 3) = eWorld l[k] ++ esWorld (l.drop (k + 1)) := by rw [esWorld_dropk, List.drop_eq_getElem_cons h]; rfl
theorem esWorld_takek (l : List GWorld) (k : Nat) : (esWorld l).take (k * 3) = esWorld (l.take k) := flat_take k (fun _ _ => rfl)
theorem esWorld_setL (l : List GWorld) (k : Nat) (x : GWorld) (h : k < l.length) : Av.setL (esWorld l) (k * 3) (eWorld x) = esWorld (l.set k x) := setL_flat x (fun _ _ => rfl) rfl h
theorem esWorld_leaf (l : List GWorld) : leafCs (esWorld l) = true := leafCs_flat (fun _ => rfl)
theorem esWorld_fit (l : List GWorld) : fitCs (esWorld l) = true := fitCs_flat (fun _ => rfl)
theorem esWorld_get_Next (l : List GWorld) (k : Nat) (h : k < l.length) : (esWorld l)[k * 3]? = some (I l[k].Next) := by have := flat_get (enc := eWorld) (sz := 3) (l := l) (fun _ _ => rfl) (k := k) (j := 0) h (by decide); exact this
theorem esWorld_set_Next (l : List GWorld) (k : Nat) (v : Int) (h : k < l.length) : (esWorld l).set (k * 3) (I v) = esWorld (l.set k { l[k] with Next := v }) := by have := flat_set (enc := eWorld) (sz := 3) (l := l) (x := { l[k] with Next := v }) (fun _ _ => rfl) rfl (k := k) h 0 (by decide) (I v) rfl; exact this
theorem esWorld_get_Tick (l : List GWorld) (k : Nat) (h : k < l.length) : (esWorld l)[k * 3 + 1]? = some (I l[k].Tick) := by have := flat_get (enc := eWorld) (sz := 3) (l := l) (fun _ _ => rfl) (k := k) (j := 1) h (by decide); exact this
theorem esWorld_set_Tick (l : List GWorld) (k : Nat) (v : Int) (h : k < l.length) : (esWorld l).set (k * 3 + 1) (I v) = esWorld (l.set k { l[k] with Tick := v }) := by have := flat_set (enc := eWorld) (sz := 3) (l := l) (x := { l[k] with Tick := v }) (fun _ _ => rfl) rfl (k := k) h 1 (by decide) (I v) rfl; exact this
theorem esWorld_get_Entities (l : List GWorld) (k : Nat) (h : k < l.length) : (esWorld l)[k * 3 + 2]? = some (.row false 2 l[k].Entities.length (esEntity l[k].Entities)) := by have := flat_get (enc := eWorld) (sz := 3) (l := l) (fun _ _ => rfl) (k := k) (j := 2) h (by decide); exact this
theorem esWorld_set_Entities (l : List GWorld) (k : Nat) (v : List GEntity) (h : k < l.length) : (esWorld l).set (k * 3 + 2) (.row false 2 v.length (esEntity v)) = esWorld (l.set k { l[k] with Entities := v }) := by have := flat_set (enc := eWorld) (sz := 3) (l := l) (x := { l[k] with Entities := v }) (fun _ _ => rfl) rfl (k := k) h 2 (by decide) (.row false 2 v.length (esEntity v)) rfl; exact this
theorem esWorld_share (l : List GWorld) : AV.shares (esWorld l) = esWorld l := shares_flat (fun x => by simp [eWorld, AV.shares, AV.share, esEntity_share])
theorem esWorld_free (l : List GWorld) : AV.noRefs (esWorld l) = true := noRefs_flat (fun x => by simp [eWorld, AV.noRefs, AV.noRef])
def eWorldo (x : GWorld) : List AV := [I x.Next, I x.Tick, .row true 2 x.Entities.length (esEntityo x.Entities)]
theorem eWorldo_eq (x : GWorld) : eWorldo x = [I x.Next, I x.Tick, .row true 2 x.Entities.length (esEntityo x.Entities)] := rfl
def esWorldo (l : List GWorld) : List AV := l.flatMap eWorldo
theorem esWorldo_len (l : List GWorld) : (esWorldo l).length = l.length * 3 := flat_len (fun _ _ => rfl)
theorem esWorldo_nil : esWorldo [] = [] := rfl
theorem esWorldo_cons (x : GWorld) (l : List GWorld) : esWorldo (x :: l) = eWorldo x ++ esWorldo l := rfl
theorem esWorldo_app (l k : List GWorld) : esWorldo (l ++ k) = esWorldo l ++ esWorldo k := by simp [esWorldo]
theorem esWorldo_dropk (l : List GWorld) (k : Nat) : (esWorldo l).drop (k * 3) = esWorldo (l.drop k) := flat_drop k (fun _ _ => rfl)
theorem esWorldo_drop (l : List GWorld) (k : Nat) (h : k < l.length) : (esWorldo l).drop (k * 3) = eWorldo l[k] ++ esWorldo (l.drop (k + 1)) := by rw [esWorldo_dropk, List.drop_eq_getElem_cons h]; rfl
theorem esWorldo_takek (l : List GWorld) (k : Nat) : (esWorldo l).take (k * 3) = esWorldo (l.take k) := flat_take k (fun _ _ => rfl)
theorem esWorldo_setL (l : List GWorld) (k : Nat) (x : GWorld) (h : k < l.length) : Av.setL (esWorldo l) (k * 3) (eWorldo x) = esWorldo (l.set k x) := setL_flat x (fun _ _ => rfl) rfl h
theorem esWorldo_fit (l : List GWorld) : fitCs (esWorldo l) = true := fitCs_flat (fun _ => rfl)
theorem esWorldo_get_Next (l : List GWorld) (k : Nat) (h : k < l.length) : (esWorldo l)[k * 3]? = some (I l[k].Next) := by have := flat_get (enc := eWorldo) (sz := 3) (l := l) (fun _ _ => rfl) (k := k) (j := 0) h (by decide); exact this
theorem esWorldo_set_Next (l : List GWorld) (k : Nat) (v : Int) (h : k < l.length) : (esWorldo l).set (k * 3) (I v) = esWorldo (l.set k { l[k] with Next := v }) := by have := flat_set (enc := eWorldo) (sz := 3) (l := l) (x := { l[k] with Next := v }) (fun _ _ => rfl) rfl (k := k) h 0 (by decide) (I v) rfl; exact this
theorem esWorldo_get_Tick (l : List GWorld) (k : Nat) (h : k < l.length) : (esWorldo l)[k * 3 + 1]? = some (I l[k].Tick) := by have := flat_get (enc := eWorldo) (sz := 3) (l := l) (fun _ _ => rfl) (k := k) (j := 1) h (by decide); exact this
theorem esWorldo_set_Tick (l : List GWorld) (k : Nat) (v : Int) (h : k < l.length) : (esWorldo l).set (k * 3 + 1) (I v) = esWorldo (l.set k { l[k] with Tick := v }) := by have := flat_set (enc := eWorldo) (sz := 3) (l := l) (x := { l[k] with Tick := v }) (fun _ _ => rfl) rfl (k := k) h 1 (by decide) (I v) rfl; exact this
theorem esWorldo_get_Entities (l : List GWorld) (k : Nat) (h : k < l.length) : (esWorldo l)[k * 3 + 2]? = some (.row true 2 l[k].Entities.length (esEntityo l[k].Entities)) := by have := flat_get (enc := eWorldo) (sz := 3) (l := l) (fun _ _ => rfl) (k := k) (j := 2) h (by decide); exact this
theorem esWorldo_set_Entities (l : List GWorld) (k : Nat) (v : List GEntity) (h : k < l.length) : (esWorldo l).set (k * 3 + 2) (.row true 2 v.length (esEntityo v)) = esWorldo (l.set k { l[k] with Entities := v }) := by have := flat_set (enc := eWorldo) (sz := 3) (l := l) (x := { l[k] with Entities := v }) (fun _ _ => rfl) rfl (k := k) h 2 (by decide) (.row true 2 v.length (esEntityo v)) rfl; exact this
theorem esWorldo_share (l : List GWorld) : AV.shares (esWorldo l) = esWorld l := shares_flat (fun x => by simp [eWorldo, eWorld, AV.shares, AV.share, esEntityo_share])
theorem esWorldo_pure (l : List GWorld) : pureVs (esWorldo l) = true := pureVs_flat (fun x => by simp [eWorldo, pureVs, pureV, esEntityo_pure])
end Go.Av
