/- The types of the program, their cells. -/
import Derived.Test.YtheheedekbhonaaAZw
set_option linter.unusedSimpArgs false
set_option linter.unusedVariables false
/-! The types of the program, their cells. -/
namespace Go.Av
def eInt (x : Int) : List AV := [I x]
theorem eInt_eq (x : Int) : eInt x = [I x] := rfl
def esInt (l : List Int) : List AV := l.flatMap eInt
theorem esInt_len (l : List Int) : (esInt l).length = l.length * 1 := flat_len (fun _ _ => rfl)
theorem esInt_nil : esInt [] = [] := rfl
theorem esInt_cons (x : Int) (l : List Int) : esInt (x :: l) = eInt x ++ esInt l := rfl
theorem esInt_app (l k : List Int) : esInt (l ++ k) = esInt l ++ esInt k := by simp [esInt]
theorem esInt_dropk (l : List Int) (k : Nat) : (esInt l).drop (k * 1) = esInt (l.drop k) := flat_drop k (fun _ _ => rfl)
theorem esInt_drop (l : List Int) (k : Nat) (h : k < l.length) : (esInt l).drop (k * 1) = eInt l[k] ++ esInt (l.drop (k + 1)) := by rw [esInt_dropk, List.drop_eq_getElem_cons h]; rfl
theorem esInt_drop1 (l : List Int) (k : Nat) (h : k < l.length) : (esInt l).drop k = eInt l[k] ++ esInt (l.drop (k + 1)) := by have := esInt_drop l k h; simpa using this
theorem esInt_takek (l : List Int) (k : Nat) : (esInt l).take (k * 1) = esInt (l.take k) := flat_take k (fun _ _ => rfl)
theorem esInt_setL (l : List Int) (k : Nat) (x : Int) (h : k < l.length) : Av.setL (esInt l) (k * 1) (eInt x) = esInt (l.set k x) := setL_flat x (fun _ _ => rfl) rfl h
theorem esInt_leaf (l : List Int) : leafCs (esInt l) = true := leafCs_flat (fun _ => rfl)
theorem esInt_fit (l : List Int) : fitCs (esInt l) = true := fitCs_flat (fun _ => rfl)
theorem esInt_get (l : List Int) (k : Nat) (h : k < l.length) : (esInt l)[k]? = some (I l[k]) := by have := flat_get (enc := eInt) (sz := 1) (l := l) (fun _ _ => rfl) (k := k) (j := 0) h (by decide); rw [Nat.mul_one, Nat.add_zero] at this; exact this
theorem esInt_set (l : List Int) (k : Nat) (x : Int) (h : k < l.length) : (esInt l).set k (I x) = esInt (l.set k x) := by have := esInt_setL l k x h; rw [Nat.mul_one] at this; rw [setL_one _ _ (by rw [esInt_len]; omega)]; exact this
theorem esInt_share (l : List Int) : AV.shares (esInt l) = esInt l := shares_flat (fun x => by simp [eInt, AV.shares, AV.share])
theorem esInt_pure (l : List Int) : pureVs (esInt l) = true := pureVs_flat (fun x => by simp [eInt, pureVs, pureV])
theorem esInt_free (l : List Int) : AV.noRefs (esInt l) = true := noRefs_flat (fun x => by simp [eInt, AV.noRefs, AV.noRef])
def eBool (x : Bool) : List AV := [B x]
theorem eBool_eq (x : Bool) : eBool x = [B x] := rfl
def esBool (l : List Bool) : List AV := l.flatMap eBool
theorem esBool_len (l : List Bool) : (esBool l).length = l.length * 1 := flat_len (fun _ _ => rfl)
theorem esBool_nil : esBool [] = [] := rfl
theorem esBool_cons (x : Bool) (l : List Bool) : esBool (x :: l) = eBool x ++ esBool l := rfl
theorem esBool_app (l k : List Bool) : esBool (l ++ k) = esBool l ++ esBool k := by simp [esBool]
theorem esBool_dropk (l : List Bool) (k : Nat) : (esBool l).drop (k * 1) = esBool (l.drop k) := flat_drop k (fun _ _ => rfl)
theorem esBool_drop (l : List Bool) (k : Nat) (h : k < l.length) : (esBool l).drop (k * 1) = eBool l[k] ++ esBool (l.drop (k + 1)) := by rw [esBool_dropk, List.drop_eq_getElem_cons h]; rfl
theorem esBool_drop1 (l : List Bool) (k : Nat) (h : k < l.length) : (esBool l).drop k = eBool l[k] ++ esBool (l.drop (k + 1)) := by have := esBool_drop l k h; simpa using this
theorem esBool_takek (l : List Bool) (k : Nat) : (esBool l).take (k * 1) = esBool (l.take k) := flat_take k (fun _ _ => rfl)
theorem esBool_setL (l : List Bool) (k : Nat) (x : Bool) (h : k < l.length) : Av.setL (esBool l) (k * 1) (eBool x) = esBool (l.set k x) := setL_flat x (fun _ _ => rfl) rfl h
theorem esBool_leaf (l : List Bool) : leafCs (esBool l) = true := leafCs_flat (fun _ => rfl)
theorem esBool_fit (l : List Bool) : fitCs (esBool l) = true := fitCs_flat (fun _ => rfl)
theorem esBool_get (l : List Bool) (k : Nat) (h : k < l.length) : (esBool l)[k]? = some (B l[k]) := by have := flat_get (enc := eBool) (sz := 1) (l := l) (fun _ _ => rfl) (k := k) (j := 0) h (by decide); rw [Nat.mul_one, Nat.add_zero] at this; exact this
theorem esBool_set (l : List Bool) (k : Nat) (x : Bool) (h : k < l.length) : (esBool l).set k (B x) = esBool (l.set k x) := by have := esBool_setL l k x h; rw [Nat.mul_one] at this; rw [setL_one _ _ (by rw [esBool_len]; omega)]; exact this
theorem esBool_share (l : List Bool) : AV.shares (esBool l) = esBool l := shares_flat (fun x => by simp [eBool, AV.shares, AV.share])
theorem esBool_pure (l : List Bool) : pureVs (esBool l) = true := pureVs_flat (fun x => by simp [eBool, pureVs, pureV])
theorem esBool_free (l : List Bool) : AV.noRefs (esBool l) = true := noRefs_flat (fun x => by simp [eBool, AV.noRefs, AV.noRef])
def eStr (x : ByteArray) : List AV := [S x]
theorem eStr_eq (x : ByteArray) : eStr x = [S x] := rfl
def esStr (l : List ByteArray) : List AV := l.flatMap eStr
theorem esStr_len (l : List ByteArray) : (esStr l).length = l.length * 1 := flat_len (fun _ _ => rfl)
theorem esStr_nil : esStr [] = [] := rfl
theorem esStr_cons (x : ByteArray) (l : List ByteArray) : esStr (x :: l) = eStr x ++ esStr l := rfl
theorem esStr_app (l k : List ByteArray) : esStr (l ++ k) = esStr l ++ esStr k := by simp [esStr]
theorem esStr_dropk (l : List ByteArray) (k : Nat) : (esStr l).drop (k * 1) = esStr (l.drop k) := flat_drop k (fun _ _ => rfl)
theorem esStr_drop (l : List ByteArray) (k : Nat) (h : k < l.length) : (esStr l).drop (k * 1) = eStr l[k] ++ esStr (l.drop (k + 1)) := by rw [esStr_dropk, List.drop_eq_getElem_cons h]; rfl
theorem esStr_drop1 (l : List ByteArray) (k : Nat) (h : k < l.length) : (esStr l).drop k = eStr l[k] ++ esStr (l.drop (k + 1)) := by have := esStr_drop l k h; simpa using this
theorem esStr_takek (l : List ByteArray) (k : Nat) : (esStr l).take (k * 1) = esStr (l.take k) := flat_take k (fun _ _ => rfl)
theorem esStr_setL (l : List ByteArray) (k : Nat) (x : ByteArray) (h : k < l.length) : Av.setL (esStr l) (k * 1) (eStr x) = esStr (l.set k x) := setL_flat x (fun _ _ => rfl) rfl h
theorem esStr_leaf (l : List ByteArray) : leafCs (esStr l) = true := leafCs_flat (fun _ => rfl)
theorem esStr_fit (l : List ByteArray) : fitCs (esStr l) = true := fitCs_flat (fun _ => rfl)
theorem esStr_get (l : List ByteArray) (k : Nat) (h : k < l.length) : (esStr l)[k]? = some (S l[k]) := by have := flat_get (enc := eStr) (sz := 1) (l := l) (fun _ _ => rfl) (k := k) (j := 0) h (by decide); rw [Nat.mul_one, Nat.add_zero] at this; exact this
theorem esStr_set (l : List ByteArray) (k : Nat) (x : ByteArray) (h : k < l.length) : (esStr l).set k (S x) = esStr (l.set k x) := by have := esStr_setL l k x h; rw [Nat.mul_one] at this; rw [setL_one _ _ (by rw [esStr_len]; omega)]; exact this
theorem esStr_share (l : List ByteArray) : AV.shares (esStr l) = esStr l := shares_flat (fun x => by simp [eStr, AV.shares, AV.share])
theorem esStr_pure (l : List ByteArray) : pureVs (esStr l) = true := pureVs_flat (fun x => by simp [eStr, pureVs, pureV])
theorem esStr_free (l : List ByteArray) : AV.noRefs (esStr l) = true := noRefs_flat (fun x => by simp [eStr, AV.noRefs, AV.noRef])
def eU8 (x : Int) : List AV := [U8 x]
theorem eU8_eq (x : Int) : eU8 x = [U8 x] := rfl
def esU8 (l : List Int) : List AV := l.flatMap eU8
theorem esU8_len (l : List Int) : (esU8 l).length = l.length * 1 := flat_len (fun _ _ => rfl)
theorem esU8_nil : esU8 [] = [] := rfl
theorem esU8_cons (x : Int) (l : List Int) : esU8 (x :: l) = eU8 x ++ esU8 l := rfl
theorem esU8_app (l k : List Int) : esU8 (l ++ k) = esU8 l ++ esU8 k := by simp [esU8]
theorem esU8_dropk (l : List Int) (k : Nat) : (esU8 l).drop (k * 1) = esU8 (l.drop k) := flat_drop k (fun _ _ => rfl)
theorem esU8_drop (l : List Int) (k : Nat) (h : k < l.length) : (esU8 l).drop (k * 1) = eU8 l[k] ++ esU8 (l.drop (k + 1)) := by rw [esU8_dropk, List.drop_eq_getElem_cons h]; rfl
theorem esU8_drop1 (l : List Int) (k : Nat) (h : k < l.length) : (esU8 l).drop k = eU8 l[k] ++ esU8 (l.drop (k + 1)) := by have := esU8_drop l k h; simpa using this
theorem esU8_takek (l : List Int) (k : Nat) : (esU8 l).take (k * 1) = esU8 (l.take k) := flat_take k (fun _ _ => rfl)
theorem esU8_setL (l : List Int) (k : Nat) (x : Int) (h : k < l.length) : Av.setL (esU8 l) (k * 1) (eU8 x) = esU8 (l.set k x) := setL_flat x (fun _ _ => rfl) rfl h
theorem esU8_leaf (l : List Int) : leafCs (esU8 l) = true := leafCs_flat (fun _ => rfl)
theorem esU8_fit (l : List Int) : fitCs (esU8 l) = true := fitCs_flat (fun _ => rfl)
theorem esU8_get (l : List Int) (k : Nat) (h : k < l.length) : (esU8 l)[k]? = some (U8 l[k]) := by have := flat_get (enc := eU8) (sz := 1) (l := l) (fun _ _ => rfl) (k := k) (j := 0) h (by decide); rw [Nat.mul_one, Nat.add_zero] at this; exact this
theorem esU8_set (l : List Int) (k : Nat) (x : Int) (h : k < l.length) : (esU8 l).set k (U8 x) = esU8 (l.set k x) := by have := esU8_setL l k x h; rw [Nat.mul_one] at this; rw [setL_one _ _ (by rw [esU8_len]; omega)]; exact this
theorem esU8_share (l : List Int) : AV.shares (esU8 l) = esU8 l := shares_flat (fun x => by simp [eU8, AV.shares, AV.share])
theorem esU8_pure (l : List Int) : pureVs (esU8 l) = true := pureVs_flat (fun x => by simp [eU8, pureVs, pureV])
theorem esU8_free (l : List Int) : AV.noRefs (esU8 l) = true := noRefs_flat (fun x => by simp [eU8, AV.noRefs, AV.noRef])
structure GSheet where
  Wide : Int
  High : Int
  Pixels : List Int
  deriving DecidableEq, Inhabited
def eSheet (x : GSheet) : List AV := [I x.Wide, I x.High, .row false 1 x.Pixels.length (esInt x.Pixels)]
theorem eSheet_eq (x : GSheet) : eSheet x = [I x.Wide, I x.High, .row false 1 x.Pixels.length (esInt x.Pixels)] := rfl
def esSheet (l : List GSheet) : List AV := l.flatMap eSheet
theorem esSheet_len (l : List GSheet) : (esSheet l).length = l.length * 3 := flat_len (fun _ _ => rfl)
theorem esSheet_nil : esSheet [] = [] := rfl
theorem esSheet_cons (x : GSheet) (l : List GSheet) : esSheet (x :: l) = eSheet x ++ esSheet l := rfl
theorem esSheet_app (l k : List GSheet) : esSheet (l ++ k) = esSheet l ++ esSheet k := by simp [esSheet]
theorem esSheet_dropk (l : List GSheet) (k : Nat) : (esSheet l).drop (k * 3) = esSheet (l.drop k) := flat_drop k (fun _ _ => rfl)
theorem esSheet_drop (l : List GSheet) (k : Nat) (h : k < l.length) : (esSheet l).drop (k * 3) = eSheet l[k] ++ esSheet (l.drop (k + 1)) := by rw [esSheet_dropk, List.drop_eq_getElem_cons h]; rfl
theorem esSheet_takek (l : List GSheet) (k : Nat) : (esSheet l).take (k * 3) = esSheet (l.take k) := flat_take k (fun _ _ => rfl)
theorem esSheet_setL (l : List GSheet) (k : Nat) (x : GSheet) (h : k < l.length) : Av.setL (esSheet l) (k * 3) (eSheet x) = esSheet (l.set k x) := setL_flat x (fun _ _ => rfl) rfl h
theorem esSheet_leaf (l : List GSheet) : leafCs (esSheet l) = true := leafCs_flat (fun _ => rfl)
theorem esSheet_fit (l : List GSheet) : fitCs (esSheet l) = true := fitCs_flat (fun _ => rfl)
theorem esSheet_get_Wide (l : List GSheet) (k : Nat) (h : k < l.length) : (esSheet l)[k * 3]? = some (I l[k].Wide) := by have := flat_get (enc := eSheet) (sz := 3) (l := l) (fun _ _ => rfl) (k := k) (j := 0) h (by decide); exact this
theorem esSheet_set_Wide (l : List GSheet) (k : Nat) (v : Int) (h : k < l.length) : (esSheet l).set (k * 3) (I v) = esSheet (l.set k { l[k] with Wide := v }) := by have := flat_set (enc := eSheet) (sz := 3) (l := l) (x := { l[k] with Wide := v }) (fun _ _ => rfl) rfl (k := k) h 0 (by decide) (I v) rfl; exact this
theorem esSheet_get_High (l : List GSheet) (k : Nat) (h : k < l.length) : (esSheet l)[k * 3 + 1]? = some (I l[k].High) := by have := flat_get (enc := eSheet) (sz := 3) (l := l) (fun _ _ => rfl) (k := k) (j := 1) h (by decide); exact this
theorem esSheet_set_High (l : List GSheet) (k : Nat) (v : Int) (h : k < l.length) : (esSheet l).set (k * 3 + 1) (I v) = esSheet (l.set k { l[k] with High := v }) := by have := flat_set (enc := eSheet) (sz := 3) (l := l) (x := { l[k] with High := v }) (fun _ _ => rfl) rfl (k := k) h 1 (by decide) (I v) rfl; exact this
theorem esSheet_get_Pixels (l : List GSheet) (k : Nat) (h : k < l.length) : (esSheet l)[k * 3 + 2]? = some (.row false 1 l[k].Pixels.length (esInt l[k].Pixels)) := by have := flat_get (enc := eSheet) (sz := 3) (l := l) (fun _ _ => rfl) (k := k) (j := 2) h (by decide); exact this
theorem esSheet_set_Pixels (l : List GSheet) (k : Nat) (v : List Int) (h : k < l.length) : (esSheet l).set (k * 3 + 2) (.row false 1 v.length (esInt v)) = esSheet (l.set k { l[k] with Pixels := v }) := by have := flat_set (enc := eSheet) (sz := 3) (l := l) (x := { l[k] with Pixels := v }) (fun _ _ => rfl) rfl (k := k) h 2 (by decide) (.row false 1 v.length (esInt v)) rfl; exact this
theorem esSheet_share (l : List GSheet) : AV.shares (esSheet l) = esSheet l := shares_flat (fun x => by simp [eSheet, AV.shares, AV.share, esInt_share])
theorem esSheet_free (l : List GSheet) : AV.noRefs (esSheet l) = true := noRefs_flat (fun x => by simp [eSheet, AV.noRefs, AV.noRef])
def eSheeto (x : GSheet) : List AV := [I x.Wide, I x.High, .row true 1 x.Pixels.length (esInt x.Pixels)]
theorem eSheeto_eq (x : GSheet) : eSheeto x = [I x.Wide, I x.High, .row true 1 x.Pixels.length (esInt x.Pixels)] := rfl
def esSheeto (l : List GSheet) : List AV := l.flatMap eSheeto
theorem esSheeto_len (l : List GSheet) : (esSheeto l).length = l.length * 3 := flat_len (fun _ _ => rfl)
theorem esSheeto_nil : esSheeto [] = [] := rfl
theorem esSheeto_cons (x : GSheet) (l : List GSheet) : esSheeto (x :: l) = eSheeto x ++ esSheeto l := rfl
theorem esSheeto_app (l k : List GSheet) : esSheeto (l ++ k) = esSheeto l ++ esSheeto k := by simp [esSheeto]
theorem esSheeto_dropk (l : List GSheet) (k : Nat) : (esSheeto l).drop (k * 3) = esSheeto (l.drop k) := flat_drop k (fun _ _ => rfl)
theorem esSheeto_drop (l : List GSheet) (k : Nat) (h : k < l.length) : (esSheeto l).drop (k * 3) = eSheeto l[k] ++ esSheeto (l.drop (k + 1)) := by rw [esSheeto_dropk, List.drop_eq_getElem_cons h]; rfl
theorem esSheeto_takek (l : List GSheet) (k : Nat) : (esSheeto l).take (k * 3) = esSheeto (l.take k) := flat_take k (fun _ _ => rfl)
theorem esSheeto_setL (l : List GSheet) (k : Nat) (x : GSheet) (h : k < l.length) : Av.setL (esSheeto l) (k * 3) (eSheeto x) = esSheeto (l.set k x) := setL_flat x (fun _ _ => rfl) rfl h
theorem esSheeto_fit (l : List GSheet) : fitCs (esSheeto l) = true := fitCs_flat (fun _ => rfl)
theorem esSheeto_get_Wide (l : List GSheet) (k : Nat) (h : k < l.length) : (esSheeto l)[k * 3]? = some (I l[k].Wide) := by have := flat_get (enc := eSheeto) (sz := 3) (l := l) (fun _ _ => rfl) (k := k) (j := 0) h (by decide); exact this
theorem esSheeto_set_Wide (l : List GSheet) (k : Nat) (v : Int) (h : k < l.length) : (esSheeto l).set (k * 3) (I v) = esSheeto (l.set k { l[k] with Wide := v }) := by have := flat_set (enc := eSheeto) (sz := 3) (l := l) (x := { l[k] with Wide := v }) (fun _ _ => rfl) rfl (k := k) h 0 (by decide) (I v) rfl; exact this
theorem esSheeto_get_High (l : List GSheet) (k : Nat) (h : k < l.length) : (esSheeto l)[k * 3 + 1]? = some (I l[k].High) := by have := flat_get (enc := eSheeto) (sz := 3) (l := l) (fun _ _ => rfl) (k := k) (j := 1) h (by decide); exact this
theorem esSheeto_set_High (l : List GSheet) (k : Nat) (v : Int) (h : k < l.length) : (esSheeto l).set (k * 3 + 1) (I v) = esSheeto (l.set k { l[k] with High := v }) := by have := flat_set (enc := eSheeto) (sz := 3) (l := l) (x := { l[k] with High := v }) (fun _ _ => rfl) rfl (k := k) h 1 (by decide) (I v) rfl; exact this
theorem esSheeto_get_Pixels (l : List GSheet) (k : Nat) (h : k < l.length) : (esSheeto l)[k * 3 + 2]? = some (.row true 1 l[k].Pixels.length (esInt l[k].Pixels)) := by have := flat_get (enc := eSheeto) (sz := 3) (l := l) (fun _ _ => rfl) (k := k) (j := 2) h (by decide); exact this
theorem esSheeto_set_Pixels (l : List GSheet) (k : Nat) (v : List Int) (h : k < l.length) : (esSheeto l).set (k * 3 + 2) (.row true 1 v.length (esInt v)) = esSheeto (l.set k { l[k] with Pixels := v }) := by have := flat_set (enc := eSheeto) (sz := 3) (l := l) (x := { l[k] with Pixels := v }) (fun _ _ => rfl) rfl (k := k) h 2 (by decide) (.row true 1 v.length (esInt v)) rfl; exact this
theorem esSheeto_share (l : List GSheet) : AV.shares (esSheeto l) = esSheet l := shares_flat (fun x => by simp [eSheeto, eSheet, AV.shares, AV.share, esInt_share])
theorem esSheeto_pure (l : List GSheet) : pureVs (esSheeto l) = true := pureVs_flat (fun x => by simp [eSheeto, pureVs, pureV, esInt_pure])
structure GPlaced where
  X : Int
  Y : Int
  W : Int
  H : Int
  deriving DecidableEq, Inhabited
def ePlaced (x : GPlaced) : List AV := [I x.X, I x.Y, I x.W, I x.H]
theorem ePlaced_eq (x : GPlaced) : ePlaced x = [I x.X, I x.Y, I x.W, I x.H] := rfl
def esPlaced (l : List GPlaced) : List AV := l.flatMap ePlaced
theorem esPlaced_len (l : List GPlaced) : (esPlaced l).length = l.length * 4 := flat_len (fun _ _ => rfl)
theorem esPlaced_nil : esPlaced [] = [] := rfl
theorem esPlaced_cons (x : GPlaced) (l : List GPlaced) : esPlaced (x :: l) = ePlaced x ++ esPlaced l := rfl
theorem esPlaced_app (l k : List GPlaced) : esPlaced (l ++ k) = esPlaced l ++ esPlaced k := by simp [esPlaced]
theorem esPlaced_dropk (l : List GPlaced) (k : Nat) : (esPlaced l).drop (k * 4) = esPlaced (l.drop k) := flat_drop k (fun _ _ => rfl)
theorem esPlaced_drop (l : List GPlaced) (k : Nat) (h : k < l.length) : (esPlaced l).drop (k * 4) = ePlaced l[k] ++ esPlaced (l.drop (k + 1)) := by rw [esPlaced_dropk, List.drop_eq_getElem_cons h]; rfl
theorem esPlaced_takek (l : List GPlaced) (k : Nat) : (esPlaced l).take (k * 4) = esPlaced (l.take k) := flat_take k (fun _ _ => rfl)
theorem esPlaced_setL (l : List GPlaced) (k : Nat) (x : GPlaced) (h : k < l.length) : Av.setL (esPlaced l) (k * 4) (ePlaced x) = esPlaced (l.set k x) := setL_flat x (fun _ _ => rfl) rfl h
theorem esPlaced_leaf (l : List GPlaced) : leafCs (esPlaced l) = true := leafCs_flat (fun _ => rfl)
theorem esPlaced_fit (l : List GPlaced) : fitCs (esPlaced l) = true := fitCs_flat (fun _ => rfl)
theorem esPlaced_get_X (l : List GPlaced) (k : Nat) (h : k < l.length) : (esPlaced l)[k * 4]? = some (I l[k].X) := by have := flat_get (enc := ePlaced) (sz := 4) (l := l) (fun _ _ => rfl) (k := k) (j := 0) h (by decide); exact this
theorem esPlaced_set_X (l : List GPlaced) (k : Nat) (v : Int) (h : k < l.length) : (esPlaced l).set (k * 4) (I v) = esPlaced (l.set k { l[k] with X := v }) := by have := flat_set (enc := ePlaced) (sz := 4) (l := l) (x := { l[k] with X := v }) (fun _ _ => rfl) rfl (k := k) h 0 (by decide) (I v) rfl; exact this
theorem esPlaced_get_Y (l : List GPlaced) (k : Nat) (h : k < l.length) : (esPlaced l)[k * 4 + 1]? = some (I l[k].Y) := by have := flat_get (enc := ePlaced) (sz := 4) (l := l) (fun _ _ => rfl) (k := k) (j := 1) h (by decide); exact this
theorem esPlaced_set_Y (l : List GPlaced) (k : Nat) (v : Int) (h : k < l.length) : (esPlaced l).set (k * 4 + 1) (I v) = esPlaced (l.set k { l[k] with Y := v }) := by have := flat_set (enc := ePlaced) (sz := 4) (l := l) (x := { l[k] with Y := v }) (fun _ _ => rfl) rfl (k := k) h 1 (by decide) (I v) rfl; exact this
theorem esPlaced_get_W (l : List GPlaced) (k : Nat) (h : k < l.length) : (esPlaced l)[k * 4 + 2]? = some (I l[k].W) := by have := flat_get (enc := ePlaced) (sz := 4) (l := l) (fun _ _ => rfl) (k := k) (j := 2) h (by decide); exact this
theorem esPlaced_set_W (l : List GPlaced) (k : Nat) (v : Int) (h : k < l.length) : (esPlaced l).set (k * 4 + 2) (I v) = esPlaced (l.set k { l[k] with W := v }) := by have := flat_set (enc := ePlaced) (sz := 4) (l := l) (x := { l[k] with W := v }) (fun _ _ => rfl) rfl (k := k) h 2 (by decide) (I v) rfl; exact this
theorem esPlaced_get_H (l : List GPlaced) (k : Nat) (h : k < l.length) : (esPlaced l)[k * 4 + 3]? = some (I l[k].H) := by have := flat_get (enc := ePlaced) (sz := 4) (l := l) (fun _ _ => rfl) (k := k) (j := 3) h (by decide); exact this
theorem esPlaced_set_H (l : List GPlaced) (k : Nat) (v : Int) (h : k < l.length) : (esPlaced l).set (k * 4 + 3) (I v) = esPlaced (l.set k { l[k] with H := v }) := by have := flat_set (enc := ePlaced) (sz := 4) (l := l) (x := { l[k] with H := v }) (fun _ _ => rfl) rfl (k := k) h 3 (by decide) (I v) rfl; exact this
theorem esPlaced_share (l : List GPlaced) : AV.shares (esPlaced l) = esPlaced l := shares_flat (fun x => by simp [ePlaced, AV.shares, AV.share])
theorem esPlaced_pure (l : List GPlaced) : pureVs (esPlaced l) = true := pureVs_flat (fun x => by simp [ePlaced, pureVs, pureV])
theorem esPlaced_free (l : List GPlaced) : AV.noRefs (esPlaced l) = true := noRefs_flat (fun x => by simp [ePlaced, AV.noRefs, AV.noRef])
end Go.Av
