/- The types of the program, their cells. -/
import Derived.Test.YtbdcheiecpmbaaaAZw
set_option linter.unusedSimpArgs false
set_option linter.unusedVariables false
/-! The types of the program, their cells. -/
namespace Go.Av
def eInt (x : Int) : List AV := [I x]
theorem eInt_eq (x : Int) : eInt x = [I x] := rfl
def esInt (l : List Int) : List AV := l.flatMap eInt
theorem esInt_len (l : List Int) : (esInt l).length = l.length * 1 := flat_len (fun _ _ => rfl)
theorem esInt_nil : esInt [] = [] := rfl
theorem esInt_cons (x : Int) (l : List Int) : esInt (x :: l) = eInt x ++ esInt l := rfl
theorem esInt_app (l k : List Int) : esInt (l ++ k) = esInt l ++ esInt k := by simp [esInt]
theorem esInt_dropk (l : List Int) (k : Nat) : (esInt l).drop (k * 1) = esInt (l.drop k) := flat_drop k (fun _ _ => rfl)
theorem esInt_drop (l : List Int) (k : Nat) (h : k < l.length) : (esInt l).drop (k * 1) = eInt l[k] ++ esInt (l.drop (k + 1)) := by rw [esInt_dropk, List.drop_eq_getElem_cons h]; rfl
theorem esInt_drop1 (l : List Int) (k : Nat) (h : k < l.length) : (esInt l).drop k = eInt l[k] ++ esInt (l.drop (k + 1)) := by have := esInt_drop l k h; simpa using this
theorem esInt_takek (l : List Int) (k : Nat) : (esInt l).take (k * 1) = esInt (l.take k) := flat_take k (fun _ _ => rfl)
theorem esInt_setL (l : List Int) (k : Nat) (x : Int) (h : k < l.length) : Av.setL (esInt l) (k * 1) (eInt x) = esInt (l.set k x) := setL_flat x (fun _ _ => rfl) rfl h
theorem esInt_leaf (l : List Int) : leafCs (esInt l) = true := leafCs_flat (fun _ => rfl)
theorem esInt_fit (l : List Int) : fitCs (esInt l) = true := fitCs_flat (fun _ => rfl)
theorem esInt_get (l : List Int) (k : Nat) (h : k < l.length) : (esInt l)[k]? = some (I l[k]) := by have := flat_get (enc := eInt) (sz := 1) (l := l) (fun _ _ => rfl) (k := k) (j := 0) h (by decide); rw [Nat.mul_one, Nat.add_zero] at this; exact this
theorem esInt_set (l : List Int) (k : Nat) (x : Int) (h : k < l.length) : (esInt l).set k (I x) = esInt (l.set k x) := by have := esInt_setL l k x h; rw [Nat.mul_one] at this; rw [setL_one _ _ (by rw [esInt_len]; omega)]; exact this
theorem esInt_share (l : List Int) : AV.shares (esInt l) = esInt l := shares_flat (fun x => by simp [eInt, AV.shares, AV.share])
theorem esInt_pure (l : List Int) : pureVs (esInt l) = true := pureVs_flat (fun x => by simp [eInt, pureVs, pureV])
theorem esInt_free (l : List Int) : AV.noRefs (esInt l) = true := noRefs_flat (fun x => by simp [eInt, AV.noRefs, AV.noRef])
def eBool (x : Bool) : List AV := [B x]
theorem eBool_eq (x : Bool) : eBool x = [B x] := rfl
def esBool (l : List Bool) : List AV := l.flatMap eBool
theorem esBool_len (l : List Bool) : (esBool l).length = l.length * 1 := flat_len (fun _ _ => rfl)
theorem esBool_nil : esBool [] = [] := rfl
theorem esBool_cons (x : Bool) (l : List Bool) : esBool (x :: l) = eBool x ++ esBool l := rfl
theorem esBool_app (l k : List Bool) : esBool (l ++ k) = esBool l ++ esBool k := by simp [esBool]
theorem esBool_dropk (l : List Bool) (k : Nat) : (esBool l).drop (k * 1) = esBool (l.drop k) := flat_drop k (fun _ _ => rfl)
theorem esBool_drop (l : List Bool) (k : Nat) (h : k < l.length) : (esBool l).drop (k * 1) = eBool l[k] ++ esBool (l.drop (k + 1)) := by rw [esBool_dropk, List.drop_eq_getElem_cons h]; rfl
theorem esBool_drop1 (l : List Bool) (k : Nat) (h : k < l.length) : (esBool l).drop k = eBool l[k] ++ esBool (l.drop (k + 1)) := by have := esBool_drop l k h; simpa using this
theorem esBool_takek (l : List Bool) (k : Nat) : (esBool l).take (k * 1) = esBool (l.take k) := flat_take k (fun _ _ => rfl)
theorem esBool_setL (l : List Bool) (k : Nat) (x : Bool) (h : k < l.length) : Av.setL (esBool l) (k * 1) (eBool x) = esBool (l.set k x) := setL_flat x (fun _ _ => rfl) rfl h
theorem esBool_leaf (l : List Bool) : leafCs (esBool l) = true := leafCs_flat (fun _ => rfl)
theorem esBool_fit (l : List Bool) : fitCs (esBool l) = true := fitCs_flat (fun _ => rfl)
theorem esBool_get (l : List Bool) (k : Nat) (h : k < l.length) : (esBool l)[k]? = some (B l[k]) := by have := flat_get (enc := eBool) (sz := 1) (l := l) (fun _ _ => rfl) (k := k) (j := 0) h (by decide); rw [Nat.mul_one, Nat.add_zero] at this; exact this
theorem esBool_set (l : List Bool) (k : Nat) (x : Bool) (h : k < l.length) : (esBool l).set k (B x) = esBool (l.set k x) := by have := esBool_setL l k x h; rw [Nat.mul_one] at this; rw [setL_one _ _ (by rw [esBool_len]; omega)]; exact this
theorem esBool_share (l : List Bool) : AV.shares (esBool l) = esBool l := shares_flat (fun x => by simp [eBool, AV.shares, AV.share])
theorem esBool_pure (l : List Bool) : pureVs (esBool l) = true := pureVs_flat (fun x => by simp [eBool, pureVs, pureV])
theorem esBool_free (l : List Bool) : AV.noRefs (esBool l) = true := noRefs_flat (fun x => by simp [eBool, AV.noRefs, AV.noRef])
def eStr (x : ByteArray) : List AV := [S x]
theorem eStr_eq (x : ByteArray) : eStr x = [S x] := rfl
def esStr (l : List ByteArray) : List AV := l.flatMap eStr
theorem esStr_len (l : List ByteArray) : (esStr l).length = l.length * 1 := flat_len (fun _ _ => rfl)
theorem esStr_nil : esStr [] = [] := rfl
theorem esStr_cons (x : ByteArray) (l : List ByteArray) : esStr (x :: l) = eStr x ++ esStr l := rfl
theorem esStr_app (l k : List ByteArray) : esStr (l ++ k) = esStr l ++ esStr k := by simp [esStr]
theorem esStr_dropk (l : List ByteArray) (k : Nat) : (esStr l).drop (k * 1) = esStr (l.drop k) := flat_drop k (fun _ _ => rfl)
theorem esStr_drop (l : List ByteArray) (k : Nat) (h : k < l.length) : (esStr l).drop (k * 1) = eStr l[k] ++ esStr (l.drop (k + 1)) := by rw [esStr_dropk, List.drop_eq_getElem_cons h]; rfl
theorem esStr_drop1 (l : List ByteArray) (k : Nat) (h : k < l.length) : (esStr l).drop k = eStr l[k] ++ esStr (l.drop (k + 1)) := by have := esStr_drop l k h; simpa using this
theorem esStr_takek (l : List ByteArray) (k : Nat) : (esStr l).take (k * 1) = esStr (l.take k) := flat_take k (fun _ _ => rfl)
theorem esStr_setL (l : List ByteArray) (k : Nat) (x : ByteArray) (h : k < l.length) : Av.setL (esStr l) (k * 1) (eStr x) = esStr (l.set k x) := setL_flat x (fun _ _ => rfl) rfl h
theorem esStr_leaf (l : List ByteArray) : leafCs (esStr l) = true := leafCs_flat (fun _ => rfl)
theorem esStr_fit (l : List ByteArray) : fitCs (esStr l) = true := fitCs_flat (fun _ => rfl)
theorem esStr_get (l : List ByteArray) (k : Nat) (h : k < l.length) : (esStr l)[k]? = some (S l[k]) := by have := flat_get (enc := eStr) (sz := 1) (l := l) (fun _ _ => rfl) (k := k) (j := 0) h (by decide); rw [Nat.mul_one, Nat.add_zero] at this; exact this
theorem esStr_set (l : List ByteArray) (k : Nat) (x : ByteArray) (h : k < l.length) : (esStr l).set k (S x) = esStr (l.set k x) := by have := esStr_setL l k x h; rw [Nat.mul_one] at this; rw [setL_one _ _ (by rw [esStr_len]; omega)]; exact this
theorem esStr_share (l : List ByteArray) : AV.shares (esStr l) = esStr l := shares_flat (fun x => by simp [eStr, AV.shares, AV.share])
theorem esStr_pure (l : List ByteArray) : pureVs (esStr l) = true := pureVs_flat (fun x => by simp [eStr, pureVs, pureV])
theorem esStr_free (l : List ByteArray) : AV.noRefs (esStr l) = true := noRefs_flat (fun x => by simp [eStr, AV.noRefs, AV.noRef])
def eU8 (x : Int) : List AV := [U8 x]
theorem eU8_eq (x : Int) : eU8 x = [U8 x] := rfl
def esU8 (l : List Int) : List AV := l.flatMap eU8
theorem esU8_len (l : List Int) : (esU8 l).length = l.length * 1 := flat_len (fun _ _ => rfl)
theorem esU8_nil : esU8 [] = [] := rfl
theorem esU8_cons (x : Int) (l : List Int) : esU8 (x :: l) = eU8 x ++ esU8 l := rfl
theorem esU8_app (l k : List Int) : esU8 (l ++ k) = esU8 l ++ esU8 k := by simp [esU8]
theorem esU8_dropk (l : List Int) (k : Nat) : (esU8 l).drop (k * 1) = esU8 (l.drop k) := flat_drop k (fun _ _ => rfl)
theorem esU8_drop (l : List Int) (k : Nat) (h : k < l.length) : (esU8 l).drop (k * 1) = eU8 l[k] ++ esU8 (l.drop (k + 1)) := by rw [esU8_dropk, List.drop_eq_getElem_cons h]; rfl
theorem esU8_drop1 (l : List Int) (k : Nat) (h : k < l.length) : (esU8 l).drop k = eU8 l[k] ++ esU8 (l.drop (k + 1)) := by have := esU8_drop l k h; simpa using this
theorem esU8_takek (l : List Int) (k : Nat) : (esU8 l).take (k * 1) = esU8 (l.take k) := flat_take k (fun _ _ => rfl)
theorem esU8_setL (l : List Int) (k : Nat) (x : Int) (h : k < l.length) : Av.setL (esU8 l) (k * 1) (eU8 x) = esU8 (l.set k x) := setL_flat x (fun _ _ => rfl) rfl h
theorem esU8_leaf (l : List Int) : leafCs (esU8 l) = true := leafCs_flat (fun _ => rfl)
theorem esU8_fit (l : List Int) : fitCs (esU8 l) = true := fitCs_flat (fun _ => rfl)
theorem esU8_get (l : List Int) (k : Nat) (h : k < l.length) : (esU8 l)[k]? = some (U8 l[k]) := by have := flat_get (enc := eU8) (sz := 1) (l := l) (fun _ _ => rfl) (k := k) (j := 0) h (by decide); rw [Nat.mul_one, Nat.add_zero] at this; exact this
theorem esU8_set (l : List Int) (k : Nat) (x : Int) (h : k < l.length) : (esU8 l).set k (U8 x) = esU8 (l.set k x) := by have := esU8_setL l k x h; rw [Nat.mul_one] at this; rw [setL_one _ _ (by rw [esU8_len]; omega)]; exact this
theorem esU8_share (l : List Int) : AV.shares (esU8 l) = esU8 l := shares_flat (fun x => by simp [eU8, AV.shares, AV.share])
theorem esU8_pure (l : List Int) : pureVs (esU8 l) = true := pureVs_flat (fun x => by simp [eU8, pureVs, pureV])
theorem esU8_free (l : List Int) : AV.noRefs (esU8 l) = true := noRefs_flat (fun x => by simp [eU8, AV.noRefs, AV.noRef])
structure GSeat where
  X : Int
  Y : Int
  Hp : Int
  deriving DecidableEq, Inhabited
def eSeat (x : GSeat) : List AV := [I x.X, I x.Y, I x.Hp]
theorem eSeat_eq (x : GSeat) : eSeat x = [I x.X, I x.Y, I x.Hp] := rfl
def esSeat (l : List GSeat) : List AV := l.flatMap eSeat
theorem esSeat_len (l : List GSeat) : (esSeat l).length = l.length * 3 := flat_len (fun _ _ => rfl)
theorem esSeat_nil : esSeat [] = [] := rfl
theorem esSeat_cons (x : GSeat) (l : List GSeat) : esSeat (x :: l) = eSeat x ++ esSeat l := rfl
theorem esSeat_app (l k : List GSeat) : esSeat (l ++ k) = esSeat l ++ esSeat k := by simp [esSeat]
theorem esSeat_dropk (l : List GSeat) (k : Nat) : (esSeat l).drop (k * 3) = esSeat (l.drop k) := flat_drop k (fun _ _ => rfl)
theorem esSeat_drop (l : List GSeat) (k : Nat) (h : k < l.length) : (esSeat l).drop (k * 3) = eSeat l[k] ++ esSeat (l.drop (k + 1)) := by rw [esSeat_dropk, List.drop_eq_getElem_cons h]; rfl
theorem esSeat_takek (l : List GSeat) (k : Nat) : (esSeat l).take (k * 3) = esSeat (l.take k) := flat_take k (fun _ _ => rfl)
theorem esSeat_setL (l : List GSeat) (k : Nat) (x : GSeat) (h : k < l.length) : Av.setL (esSeat l) (k * 3) (eSeat x) = esSeat (l.set k x) := setL_flat x (fun _ _ => rfl) rfl h
theorem esSeat_leaf (l : List GSeat) : leafCs (esSeat l) = true := leafCs_flat (fun _ => rfl)
theorem esSeat_fit (l : List GSeat) : fitCs (esSeat l) = true := fitCs_flat (fun _ => rfl)
theorem esSeat_get_X (l : List GSeat) (k : Nat) (h : k < l.length) : (esSeat l)[k * 3]? = some (I l[k].X) := by have := flat_get (enc := eSeat) (sz := 3) (l := l) (fun _ _ => rfl) (k := k) (j := 0) h (by decide); exact this
theorem esSeat_set_X (l : List GSeat) (k : Nat) (v : Int) (h : k < l.length) : (esSeat l).set (k * 3) (I v) = esSeat (l.set k { l[k] with X := v }) := by have := flat_set (enc := eSeat) (sz := 3) (l := l) (x := { l[k] with X := v }) (fun _ _ => rfl) rfl (k := k) h 0 (by decide) (I v) rfl; exact this
theorem esSeat_get_Y (l : List GSeat) (k : Nat) (h : k < l.length) : (esSeat l)[k * 3 + 1]? = some (I l[k].Y) := by have := flat_get (enc := eSeat) (sz := 3) (l := l) (fun _ _ => rfl) (k := k) (j := 1) h (by decide); exact this
theorem esSeat_set_Y (l : List GSeat) (k : Nat) (v : Int) (h : k < l.length) : (esSeat l).set (k * 3 + 1) (I v) = esSeat (l.set k { l[k] with Y := v }) := by have := flat_set (enc := eSeat) (sz := 3) (l := l) (x := { l[k] with Y := v }) (fun _ _ => rfl) rfl (k := k) h 1 (by decide) (I v) rfl; exact this
theorem esSeat_get_Hp (l : List GSeat) (k : Nat) (h : k < l.length) : (esSeat l)[k * 3 + 2]? = some (I l[k].Hp) := by have := flat_get (enc := eSeat) (sz := 3) (l := l) (fun _ _ => rfl) (k := k) (j := 2) h (by decide); exact this
theorem esSeat_set_Hp (l : List GSeat) (k : Nat) (v : Int) (h : k < l.length) : (esSeat l).set (k * 3 + 2) (I v) = esSeat (l.set k { l[k] with Hp := v }) := by have := flat_set (enc := eSeat) (sz := 3) (l := l) (x := { l[k] with Hp := v }) (fun _ _ => rfl) rfl (k := k) h 2 (by decide) (I v) rfl; exact this
theorem esSeat_share (l : List GSeat) : AV.shares (esSeat l) = esSeat l := shares_flat (fun x => by simp [eSeat, AV.shares, AV.share])
theorem esSeat_pure (l : List GSeat) : pureVs (esSeat l) = true := pureVs_flat (fun x => by simp [eSeat, pureVs, pureV])
theorem esSeat_free (l : List GSeat) : AV.noRefs (esSeat l) = true := noRefs_flat (fun x => by simp [eSeat, AV.noRefs, AV.noRef])
structure GGame where
  Frame : Int
  Coin : Int
  Seats : List GSeat
  deriving DecidableEq, Inhabited
def eGame (x : GGame) : List AV := [I x.Frame, I x.Coin, .row false 3 x.Seats.length (esSeat x.Seats)]
theorem eGame_eq (x : GGame) : eGame x = [I x.Frame, I x.Coin, .row false 3 x.Seats.length (esSeat x.Seats)] := rfl
def esGame (l : List GGame) : List AV := l.flatMap eGame
theorem esGame_len (l : List GGame) : (esGame l).length = l.length * 3 := flat_len (fun _ _ => rfl)
theorem esGame_nil : esGame [] = [] := rfl
theorem esGame_cons (x : GGame) (l : List GGame) : esGame (x :: l) = eGame x ++ esGame l := rfl
theorem esGame_app (l k : List GGame) : esGame (l ++ k) = esGame l ++ esGame k := by simp [esGame]
theorem esGame_dropk (l : List GGame) (k : Nat) : (esGame l).drop (k * 3) = esGame (l.drop k) := flat_drop k (fun _ _ => rfl)
theorem esGame_drop (l : List GGame) (k : Nat) (h : k < l.length) : (esGame l).drop (k * 3) = eGame l[k] ++ esGame (l.drop (k + 1)) := by rw [esGame_dropk, List.drop_eq_getElem_cons h]; rfl
theorem esGame_takek (l : List GGame) (k : Nat) : (esGame l).take (k * 3) = esGame (l.take k) := flat_take k (fun _ _ => rfl)
theorem esGame_setL (l : List GGame) (k : Nat) (x : GGame) (h : k < l.length) : Av.setL (esGame l) (k * 3) (eGame x) = esGame (l.set k x) := setL_flat x (fun _ _ => rfl) rfl h
theorem esGame_leaf (l : List GGame) : leafCs (esGame l) = true := leafCs_flat (fun _ => rfl)
theorem esGame_fit (l : List GGame) : fitCs (esGame l) = true := fitCs_flat (fun _ => rfl)
theorem esGame_get_Frame (l : List GGame) (k : Nat) (h : k < l.length) : (esGame l)[k * 3]? = some (I l[k].Frame) := by have := flat_get (enc := eGame) (sz := 3) (l := l) (fun _ _ => rfl) (k := k) (j := 0) h (by decide); exact this
theorem esGame_set_Frame (l : List GGame) (k : Nat) (v : Int) (h : k < l.length) : (esGame l).set (k * 3) (I v) = esGame (l.set k { l[k] with Frame := v }) := by have := flat_set (enc := eGame) (sz := 3) (l := l) (x := { l[k] with Frame := v }) (fun _ _ => rfl) rfl (k := k) h 0 (by decide) (I v) rfl; exact this
theorem esGame_get_Coin (l : List GGame) (k : Nat) (h : k < l.length) : (esGame l)[k * 3 + 1]? = some (I l[k].Coin) := by have := flat_get (enc := eGame) (sz := 3) (l := l) (fun _ _ => rfl) (k := k) (j := 1) h (by decide); exact this
theorem esGame_set_Coin (l : List GGame) (k : Nat) (v : Int) (h : k < l.length) : (esGame l).set (k * 3 + 1) (I v) = esGame (l.set k { l[k] with Coin := v }) := by have := flat_set (enc := eGame) (sz := 3) (l := l) (x := { l[k] with Coin := v }) (fun _ _ => rfl) rfl (k := k) h 1 (by decide) (I v) rfl; exact this
theorem esGame_get_Seats (l : List GGame) (k : Nat) (h : k < l.length) : (esGame l)[k * 3 + 2]? = some (.row false 3 l[k].Seats.length (esSeat l[k].Seats)) := by have := flat_get (enc := eGame) (sz := 3) (l := l) (fun _ _ => rfl) (k := k) (j := 2) h (by decide); exact this
theorem esGame_set_Seats (l : List GGame) (k : Nat) (v : List GSeat) (h : k < l.length) : (esGame l).set (k * 3 + 2) (.row false 3 v.length (esSeat v)) = esGame (l.set k { l[k] with Seats := v }) := by have := flat_set (enc := eGame) (sz := 3) (l := l) (x := { l[k] with Seats := v }) (fun _ _ => rfl) rfl (k := k) h 2 (by decide) (.row false 3 v.length (esSeat v)) rfl; exact this
theorem esGame_share (l : List GGame) : AV.shares (esGame l) = esGame l := shares_flat (fun x => by simp [eGame, AV.shares, AV.share, esSeat_share])
theorem esGame_free (l : List GGame) : AV.noRefs (esGame l) = true := noRefs_flat (fun x => by simp [eGame, AV.noRefs, AV.noRef])
def eGameo (x : GGame) : List AV := [I x.Frame, I x.Coin, .row true 3 x.Seats.length (esSeat x.Seats)]
theorem eGameo_eq (x : GGame) : eGameo x = [I x.Frame, I x.Coin, .row true 3 x.Seats.length (esSeat x.Seats)] := rfl
def esGameo (l : List GGame) : List AV := l.flatMap eGameo
theorem esGameo_len (l : List GGame) : (esGameo l).length = l.length * 3 := flat_len (fun _ _ => rfl)
theorem esGameo_nil : esGameo [] = [] := rfl
theorem esGameo_cons (x : GGame) (l : List GGame) : esGameo (x :: l) = eGameo x ++ esGameo l := rfl
theorem esGameo_app (l k : List GGame) : esGameo (l ++ k) = esGameo l ++ esGameo k := by simp [esGameo]
theorem esGameo_dropk (l : List GGame) (k : Nat) : (esGameo l).drop (k * 3) = esGameo (l.drop k) := flat_drop k (fun _ _ => rfl)
theorem esGameo_drop (l : List GGame) (k : Nat) (h : k < l.length) : (esGameo l).drop (k * 3) = eGameo l[k] ++ esGameo (l.drop (k + 1)) := by rw [esGameo_dropk, List.drop_eq_getElem_cons h]; rfl
theorem esGameo_takek (l : List GGame) (k : Nat) : (esGameo l).take (k * 3) = esGameo (l.take k) := flat_take k (fun _ _ => rfl)
theorem esGameo_setL (l : List GGame) (k : Nat) (x : GGame) (h : k < l.length) : Av.setL (esGameo l) (k * 3) (eGameo x) = esGameo (l.set k x) := setL_flat x (fun _ _ => rfl) rfl h
theorem esGameo_fit (l : List GGame) : fitCs (esGameo l) = true := fitCs_flat (fun _ => rfl)
theorem esGameo_get_Frame (l : List GGame) (k : Nat) (h : k < l.length) : (esGameo l)[k * 3]? = some (I l[k].Frame) := by have := flat_get (enc := eGameo) (sz := 3) (l := l) (fun _ _ => rfl) (k := k) (j := 0) h (by decide); exact this
theorem esGameo_set_Frame (l : List GGame) (k : Nat) (v : Int) (h : k < l.length) : (esGameo l).set (k * 3) (I v) = esGameo (l.set k { l[k] with Frame := v }) := by have := flat_set (enc := eGameo) (sz := 3) (l := l) (x := { l[k] with Frame := v }) (fun _ _ => rfl) rfl (k := k) h 0 (by decide) (I v) rfl; exact this
theorem esGameo_get_Coin (l : List GGame) (k : Nat) (h : k < l.length) : (esGameo l)[k * 3 + 1]? = some (I l[k].Coin) := by have := flat_get (enc := eGameo) (sz := 3) (l := l) (fun _ _ => rfl) (k := k) (j := 1) h (by decide); exact this
theorem esGameo_set_Coin (l : List GGame) (k : Nat) (v : Int) (h : k < l.length) : (esGameo l).set (k * 3 + 1) (I v) = esGameo (l.set k { l[k] with Coin := v }) := by have := flat_set (enc := eGameo) (sz := 3) (l := l) (x := { l[k] with Coin := v }) (fun _ _ => rfl) rfl (k := k) h 1 (by decide) (I v) rfl; exact this
theorem esGameo_get_Seats (l : List GGame) (k : Nat) (h : k < l.length) : (esGameo l)[k * 3 + 2]? = some (.row true 3 l[k].Seats.length (esSeat l[k].Seats)) := by have := flat_get (enc := eGameo) (sz := 3) (l := l) (fun _ _ => rfl) (k := k) (j := 2) h (by decide); exact this
theorem esGameo_set_Seats (l : List GGame) (k : Nat) (v : List GSeat) (h : k < l.length) : (esGameo l).set (k * 3 + 2) (.row true 3 v.length (esSeat v)) = esGameo (l.set k { l[k] with Seats := v }) := by have := flat_set (enc := eGameo) (sz := 3) (l := l) (x := { l[k] with Seats := v }) (fun _ _ => rfl) rfl (k := k) h 2 (by decide) (.row true 3 v.length (esSeat v)) rfl; exact this
theorem esGameo_share (l : List GGame) : AV.shares (esGameo l) = esGame l := shares_flat (fun x => by simp [eGameo, eGame, AV.shares, AV.share, esSeat_share])
theorem esGameo_pure (l : List GGame) : pureVs (esGameo l) = true := pureVs_flat (fun x => by simp [eGameo, pureVs, pureV, esSeat_pure])
structure GPlayer where
  Name : ByteArray
  Rating : Int
  Since : Int
  deriving DecidableEq, Inhabited
def ePlayer (x : GPlayer) : List AV := [S x.Name, I x.Rating, I x.Since]
theorem ePlayer_eq (x : GPlayer) : ePlayer x = [S x.Name, I x.Rating, I x.Since] := rfl
def esPlayer (l : List GPlayer) : List AV := l.flatMap ePlayer
theorem esPlayer_len (l : List GPlayer) : (esPlayer l).length = l.length * 3 := flat_len (fun _ _ => rfl)
theorem esPlayer_nil : esPlayer [] = [] := rfl
theorem esPlayer_cons (x : GPlayer) (l : List GPlayer) : esPlayer (x :: l) = ePlayer x ++ esPlayer l := rfl
theorem esPlayer_app (l k : List GPlayer) : esPlayer (l ++ k) = esPlayer l ++ esPlayer k := by simp [esPlayer]
theorem esPlayer_dropk (l : List GPlayer) (k : Nat) : (esPlayer l).drop (k * 3) = esPlayer (l.drop k) := flat_drop k (fun _ _ => rfl)
theorem esPlayer_drop (l : List GPlayer) (k : Nat) (h : k < l.length) : (esPlayer l).drop (k * 3) = ePlayer l[k] ++ esPlayer (l.drop (k + 1)) := by rw [esPlayer_dropk, List.drop_eq_getElem_cons h]; rfl
theorem esPlayer_takek (l : List GPlayer) (k : Nat) : (esPlayer l).take (k * 3) = esPlayer (l.take k) := flat_take k (fun _ _ => rfl)
theorem esPlayer_setL (l : List GPlayer) (k : Nat) (x : GPlayer) (h : k < l.length) : Av.setL (esPlayer l) (k * 3) (ePlayer x) = esPlayer (l.set k x) := setL_flat x (fun _ _ => rfl) rfl h
theorem esPlayer_leaf (l : List GPlayer) : leafCs (esPlayer l) = true := leafCs_flat (fun _ => rfl)
theorem esPlayer_fit (l : List GPlayer) : fitCs (esPlayer l) = true := fitCs_flat (fun _ => rfl)
theorem esPlayer_get_Name (l : List GPlayer) (k : Nat) (h : k < l.length) : (esPlayer l)[k * 3]? = some (S l[k].Name) := by have := flat_get (enc := ePlayer) (sz := 3) (l := l) (fun _ _ => rfl) (k := k) (j := 0) h (by decide); exact this
theorem esPlayer_set_Name (l : List GPlayer) (k : Nat) (v : ByteArray) (h : k < l.length) : (esPlayer l).set (k * 3) (S v) = esPlayer (l.set k { l[k] with Name := v }) := by have := flat_set (enc := ePlayer) (sz := 3) (l := l) (x := { l[k] with Name := v }) (fun _ _ => rfl) rfl (k := k) h 0 (by decide) (S v) rfl; exact this
theorem esPlayer_get_Rating (l : List GPlayer) (k : Nat) (h : k < l.length) : (esPlayer l)[k * 3 + 1]? = some (I l[k].Rating) := by have := flat_get (enc := ePlayer) (sz := 3) (l := l) (fun _ _ => rfl) (k := k) (j := 1) h (by decide); exact this
theorem esPlayer_set_Rating (l : List GPlayer) (k : Nat) (v : Int) (h : k < l.length) : (esPlayer l).set (k * 3 + 1) (I v) = esPlayer (l.set k { l[k] with Rating := v }) := by have := flat_set (enc := ePlayer) (sz := 3) (l := l) (x := { l[k] with Rating := v }) (fun _ _ => rfl) rfl (k := k) h 1 (by decide) (I v) rfl; exact this
theorem esPlayer_get_Since (l : List GPlayer) (k : Nat) (h : k < l.length) : (esPlayer l)[k * 3 + 2]? = some (I l[k].Since) := by have := flat_get (enc := ePlayer) (sz := 3) (l := l) (fun _ _ => rfl) (k := k) (j := 2) h (by decide); exact this
theorem esPlayer_set_Since (l : List GPlayer) (k : Nat) (v : Int) (h : k < l.length) : (esPlayer l).set (k * 3 + 2) (I v) = esPlayer (l.set k { l[k] with Since := v }) := by have := flat_set (enc := ePlayer) (sz := 3) (l := l) (x := { l[k] with Since := v }) (fun _ _ => rfl) rfl (k := k) h 2 (by decide) (I v) rfl; exact this
theorem esPlayer_share (l : List GPlayer) : AV.shares (esPlayer l) = esPlayer l := shares_flat (fun x => by simp [ePlayer, AV.shares, AV.share])
theorem esPlayer_pure (l : List GPlayer) : pureVs (esPlayer l) = true := pureVs_flat (fun x => by simp [ePlayer, pureVs, pureV])
theorem esPlayer_free (l : List GPlayer) : AV.noRefs (esPlayer l) = true := noRefs_flat (fun x => by simp [ePlayer, AV.noRefs, AV.noRef])
def eLInt (x : List Int) : List AV := [.row false 1 x.length (esInt x)]
theorem eLInt_eq (x : List Int) : eLInt x = [.row false 1 x.length (esInt x)] := rfl
def esLInt (l : List (List Int)) : List AV := l.flatMap eLInt
theorem esLInt_len (l : List (List Int)) : (esLInt l).length = l.length * 1 := flat_len (fun _ _ => rfl)
theorem esLInt_nil : esLInt [] = [] := rfl
theorem esLInt_cons (x : List Int) (l : List (List Int)) : esLInt (x :: l) = eLInt x ++ esLInt l := rfl
theorem esLInt_app (l k : List (List Int)) : esLInt (l ++ k) = esLInt l ++ esLInt k := by simp [esLInt]
theorem esLInt_dropk (l : List (List Int)) (k : Nat) : (esLInt l).drop (k * 1) = esLInt (l.drop k) := flat_drop k (fun _ _ => rfl)
theorem esLInt_drop (l : List (List Int)) (k : Nat) (h : k < l.length) : (esLInt l).drop (k * 1) = eLInt l[k] ++ esLInt (l.drop (k + 1)) := by rw [esLInt_dropk, List.drop_eq_getElem_cons h]; rfl
theorem esLInt_drop1 (l : List (List Int)) (k : Nat) (h : k < l.length) : (esLInt l).drop k = eLInt l[k] ++ esLInt (l.drop (k + 1)) := by have := esLInt_drop l k h; simpa using this
theorem esLInt_takek (l : List (List Int)) (k : Nat) : (esLInt l).take (k * 1) = esLInt (l.take k) := flat_take k (fun _ _ => rfl)
theorem esLInt_setL (l : List (List Int)) (k : Nat) (x : List Int) (h : k < l.length) : Av.setL (esLInt l) (k * 1) (eLInt x) = esLInt (l.set k x) := setL_flat x (fun _ _ => rfl) rfl h
theorem esLInt_leaf (l : List (List Int)) : leafCs (esLInt l) = true := leafCs_flat (fun _ => rfl)
theorem esLInt_fit (l : List (List Int)) : fitCs (esLInt l) = true := fitCs_flat (fun _ => rfl)
theorem esLInt_get (l : List (List Int)) (k : Nat) (h : k < l.length) : (esLInt l)[k]? = some (.row false 1 l[k].length (esInt l[k])) := by have := flat_get (enc := eLInt) (sz := 1) (l := l) (fun _ _ => rfl) (k := k) (j := 0) h (by decide); rw [Nat.mul_one, Nat.add_zero] at this; exact this
theorem esLInt_set (l : List (List Int)) (k : Nat) (x : List Int) (h : k < l.length) : (esLInt l).set k (.row false 1 x.length (esInt x)) = esLInt (l.set k x) := by have := esLInt_setL l k x h; rw [Nat.mul_one] at this; rw [setL_one _ _ (by rw [esLInt_len]; omega)]; exact this
theorem esLInt_share (l : List (List Int)) : AV.shares (esLInt l) = esLInt l := shares_flat (fun x => by simp [eLInt, AV.shares, AV.share, esInt_share])
theorem esLInt_free (l : List (List Int)) : AV.noRefs (esLInt l) = true := noRefs_flat (fun x => by simp [eLInt, AV.noRefs, AV.noRef])
def eLInto (x : List Int) : List AV := [.row true 1 x.length (esInt x)]
theorem eLInto_eq (x : List Int) : eLInto x = [.row true 1 x.length (esInt x)] := rfl
def esLInto (l : List (List Int)) : List AV := l.flatMap eLInto
theorem esLInto_len (l : List (List Int)) : (esLInto l).length = l.length * 1 := flat_len (fun _ _ => rfl)
theorem esLInto_nil : esLInto [] = [] := rfl
theorem esLInto_cons (x : List Int) (l : List (List Int)) : esLInto (x :: l) = eLInto x ++ esLInto l := rfl
theorem esLInto_app (l k : List (List Int)) : esLInto (l ++ k) = esLInto l ++ esLInto k := by simp [esLInto]
theorem esLInto_dropk (l : List (List Int)) (k : Nat) : (esLInto l).drop (k * 1) = esLInto (l.drop k) := flat_drop k (fun _ _ => rfl)
theorem esLInto_drop (l : List (List Int)) (k : Nat) (h : k < l.length) : (esLInto l).drop (k * 1) = eLInto l[k] ++ esLInto (l.drop (k + 1)) := by rw [esLInto_dropk, List.drop_eq_getElem_cons h]; rfl
theorem esLInto_drop1 (l : List (List Int)) (k : Nat) (h : k < l.length) : (esLInto l).drop k = eLInto l[k] ++ esLInto (l.drop (k + 1)) := by have := esLInto_drop l k h; simpa using this
theorem esLInto_takek (l : List (List Int)) (k : Nat) : (esLInto l).take (k * 1) = esLInto (l.take k) := flat_take k (fun _ _ => rfl)
theorem esLInto_setL (l : List (List Int)) (k : Nat) (x : List Int) (h : k < l.length) : Av.setL (esLInto l) (k * 1) (eLInto x) = esLInto (l.set k x) := setL_flat x (fun _ _ => rfl) rfl h
theorem esLInto_fit (l : List (List Int)) : fitCs (esLInto l) = true := fitCs_flat (fun _ => rfl)
theorem esLInto_get (l : List (List Int)) (k : Nat) (h : k < l.length) : (esLInto l)[k]? = some (.row true 1 l[k].length (esInt l[k])) := by have := flat_get (enc := eLInto) (sz := 1) (l := l) (fun _ _ => rfl) (k := k) (j := 0) h (by decide); rw [Nat.mul_one, Nat.add_zero] at this; exact this
theorem esLInto_set (l : List (List Int)) (k : Nat) (x : List Int) (h : k < l.length) : (esLInto l).set k (.row true 1 x.length (esInt x)) = esLInto (l.set k x) := by have := esLInto_setL l k x h; rw [Nat.mul_one] at this; rw [setL_one _ _ (by rw [esLInto_len]; omega)]; exact this
theorem esLInto_share (l : List (List Int)) : AV.shares (esLInto l) = esLInt l := shares_flat (fun x => by simp [eLInto, eLInt, AV.shares, AV.share, esInt_share])
theorem esLInto_pure (l : List (List Int)) : pureVs (esLInto l) = true := pureVs_flat (fun x => by simp [eLInto, pureVs, pureV, esInt_pure])
structure GClaim where
  Seats : Int
  Seed : Int
  Inputs : List (List Int)
  Sums : List Int
  deriving DecidableEq, Inhabited
def eClaim (x : GClaim) : List AV := [I x.Seats, I x.Seed, .row false 1 x.Inputs.length (esLInt x.Inputs), .row false 1 x.Sums.length (esInt x.Sums)]
theorem eClaim_eq (x : GClaim) : eClaim x = [I x.Seats, I x.Seed, .row false 1 x.Inputs.length (esLInt x.Inputs), .row false 1 x.Sums.length (esInt x.Sums)] := rfl
def esClaim (l : List GClaim) : List AV := l.flatMap eClaim
theorem esClaim_len (l : List GClaim) : (esClaim l).length = l.length * 4 := flat_len (fun _ _ => rfl)
theorem esClaim_nil : esClaim [] = [] := rfl
theorem esClaim_cons (x : GClaim) (l : List GClaim) : esClaim (x :: l) = eClaim x ++ esClaim l := rfl
theorem esClaim_app (l k : List GClaim) : esClaim (l ++ k) = esClaim l ++ esClaim k := by simp [esClaim]
theorem esClaim_dropk (l : List GClaim) (k : Nat) : (esClaim l).drop (k * 4) = esClaim (l.drop k) := flat_drop k (fun _ _ => rfl)
theorem esClaim_drop (l : List GClaim) (k : Nat) (h : k < l.length) : (esClaim l).drop (k * 4) = eClaim l[k] ++ esClaim (l.drop (k + 1)) := by rw [esClaim_dropk, List.drop_eq_getElem_cons h]; rfl
theorem esClaim_takek (l : List GClaim) (k : Nat) : (esClaim l).take (k * 4) = esClaim (l.take k) := flat_take k (fun _ _ => rfl)
theorem esClaim_setL (l : List GClaim) (k : Nat) (x : GClaim) (h : k < l.length) : Av.setL (esClaim l) (k * 4) (eClaim x) = esClaim (l.set k x) := setL_flat x (fun _ _ => rfl) rfl h
theorem esClaim_leaf (l : List GClaim) : leafCs (esClaim l) = true := leafCs_flat (fun _ => rfl)
theorem esClaim_fit (l : List GClaim) : fitCs (esClaim l) = true := fitCs_flat (fun _ => rfl)
theorem esClaim_get_Seats (l : List GClaim) (k : Nat) (h : k < l.length) : (esClaim l)[k * 4]? = some (I l[k].Seats) := by have := flat_get (enc := eClaim) (sz := 4) (l := l) (fun _ _ => rfl) (k := k) (j := 0) h (by decide); exact this
theorem esClaim_set_Seats (l : List GClaim) (k : Nat) (v : Int) (h : k < l.length) : (esClaim l).set (k * 4) (I v) = esClaim (l.set k { l[k] with Seats := v }) := by have := flat_set (enc := eClaim) (sz := 4) (l := l) (x := { l[k] with Seats := v }) (fun _ _ => rfl) rfl (k := k) h 0 (by decide) (I v) rfl; exact this
theorem esClaim_get_Seed (l : List GClaim) (k : Nat) (h : k < l.length) : (esClaim l)[k * 4 + 1]? = some (I l[k].Seed) := by have := flat_get (enc := eClaim) (sz := 4) (l := l) (fun _ _ => rfl) (k := k) (j := 1) h (by decide); exact this
theorem esClaim_set_Seed (l : List GClaim) (k : Nat) (v : Int) (h : k < l.length) : (esClaim l).set (k * 4 + 1) (I v) = esClaim (l.set k { l[k] with Seed := v }) := by have := flat_set (enc := eClaim) (sz := 4) (l := l) (x := { l[k] with Seed := v }) (fun _ _ => rfl) rfl (k := k) h 1 (by decide) (I v) rfl; exact this
theorem esClaim_get_Inputs (l : List GClaim) (k : Nat) (h : k < l.length) : (esClaim l)[k * 4 + 2]? = some (.row false 1 l[k].Inputs.length (esLInt l[k].Inputs)) := by have := flat_get (enc := eClaim) (sz := 4) (l := l) (fun _ _ => rfl) (k := k) (j := 2) h (by decide); exact this
theorem esClaim_set_Inputs (l : List GClaim) (k : Nat) (v : List (List Int)) (h : k < l.length) : (esClaim l).set (k * 4 + 2) (.row false 1 v.length (esLInt v)) = esClaim (l.set k { l[k] with Inputs := v }) := by have := flat_set (enc := eClaim) (sz := 4) (l := l) (x := { l[k] with Inputs := v }) (fun _ _ => rfl) rfl (k := k) h 2 (by decide) (.row false 1 v.length (esLInt v)) rfl; exact this
theorem esClaim_get_Sums (l : List GClaim) (k : Nat) (h : k < l.length) : (esClaim l)[k * 4 + 3]? = some (.row false 1 l[k].Sums.length (esInt l[k].Sums)) := by have := flat_get (enc := eClaim) (sz := 4) (l := l) (fun _ _ => rfl) (k := k) (j := 3) h (by decide); exact this
theorem esClaim_set_Sums (l : List GClaim) (k : Nat) (v : List Int) (h : k < l.length) : (esClaim l).set (k * 4 + 3) (.row false 1 v.length (esInt v)) = esClaim (l.set k { l[k] with Sums := v }) := by have := flat_set (enc := eClaim) (sz := 4) (l := l) (x := { l[k] with Sums := v }) (fun _ _ => rfl) rfl (k := k) h 3 (by decide) (.row false 1 v.length (esInt v)) rfl; exact this
theorem esClaim_share (l : List GClaim) : AV.shares (esClaim l) = esClaim l := shares_flat (fun x => by simp [eClaim, AV.shares, AV.share, esLInt_share, esInt_share])
theorem esClaim_free (l : List GClaim) : AV.noRefs (esClaim l) = true := noRefs_flat (fun x => by simp [eClaim, AV.noRefs, AV.noRef])
def eClaimo (x : GClaim) : List AV := [I x.Seats, I x.Seed, .row true 1 x.Inputs.length (esLInto x.Inputs), .row true 1 x.Sums.length (esInt x.Sums)]
theorem eClaimo_eq (x : GClaim) : eClaimo x = [I x.Seats, I x.Seed, .row true 1 x.Inputs.length (esLInto x.Inputs), .row true 1 x.Sums.length (esInt x.Sums)] := rfl
def esClaimo (l : List GClaim) : List AV := l.flatMap eClaimo
theorem esClaimo_len (l : List GClaim) : (esClaimo l).length = l.length * 4 := flat_len (fun _ _ => rfl)
theorem esClaimo_nil : esClaimo [] = [] := rfl
theorem esClaimo_cons (x : GClaim) (l : List GClaim) : esClaimo (x :: l) = eClaimo x ++ esClaimo l := rfl
theorem esClaimo_app (l k : List GClaim) : esClaimo (l ++ k) = esClaimo l ++ esClaimo k := by simp [esClaimo]
theorem esClaimo_dropk (l : List GClaim) (k : Nat) : (esClaimo l).drop (k * 4) = esClaimo (l.drop k) := flat_drop k (fun _ _ => rfl)
theorem esClaimo_drop (l : List GClaim) (k : Nat) (h : k < l.length) : (esClaimo l).drop (k * 4) = eClaimo l[k] ++ esClaimo (l.drop (k + 1)) := by rw [esClaimo_dropk, List.drop_eq_getElem_cons h]; rfl
theorem esClaimo_takek (l : List GClaim) (k : Nat) : (esClaimo l).take (k * 4) = esClaimo (l.take k) := flat_take k (fun _ _ => rfl)
theorem esClaimo_setL (l : List GClaim) (k : Nat) (x : GClaim) (h : k < l.length) : Av.setL (esClaimo l) (k * 4) (eClaimo x) = esClaimo (l.set k x) := setL_flat x (fun _ _ => rfl) rfl h
theorem esClaimo_fit (l : List GClaim) : fitCs (esClaimo l) = true := fitCs_flat (fun _ => rfl)
theorem esClaimo_get_Seats (l : List GClaim) (k : Nat) (h : k < l.length) : (esClaimo l)[k * 4]? = some (I l[k].Seats) := by have := flat_get (enc := eClaimo) (sz := 4) (l := l) (fun _ _ => rfl) (k := k) (j := 0) h (by decide); exact this
theorem esClaimo_set_Seats (l : List GClaim) (k : Nat) (v : Int) (h : k < l.length) : (esClaimo l).set (k * 4) (I v) = esClaimo (l.set k { l[k] with Seats := v }) := by have := flat_set (enc := eClaimo) (sz := 4) (l := l) (x := { l[k] with Seats := v }) (fun _ _ => rfl) rfl (k := k) h 0 (by decide) (I v) rfl; exact this
theorem esClaimo_get_Seed (l : List GClaim) (k : Nat) (h : k < l.length) : (esClaimo l)[k * 4 + 1]? = some (I l[k].Seed) := by have := flat_get (enc := eClaimo) (sz := 4) (l := l) (fun _ _ => rfl) (k := k) (j := 1) h (by decide); exact this
theorem esClaimo_set_Seed (l : List GClaim) (k : Nat) (v : Int) (h : k < l.length) : (esClaimo l).set (k * 4 + 1) (I v) = esClaimo (l.set k { l[k] with Seed := v }) := by have := flat_set (enc := eClaimo) (sz := 4) (l := l) (x := { l[k] with Seed := v }) (fun _ _ => rfl) rfl (k := k) h 1 (by decide) (I v) rfl; exact this
theorem esClaimo_get_Inputs (l : List GClaim) (k : Nat) (h : k < l.length) : (esClaimo l)[k * 4 + 2]? = some (.row true 1 l[k].Inputs.length (esLInto l[k].Inputs)) := by have := flat_get (enc := eClaimo) (sz := 4) (l := l) (fun _ _ => rfl) (k := k) (j := 2) h (by decide); exact this
theorem esClaimo_set_Inputs (l : List GClaim) (k : Nat) (v : List (List Int)) (h : k < l.length) : (esClaimo l).set (k * 4 + 2) (.row true 1 v.length (esLInto v)) = esClaimo (l.set k { l[k] with Inputs := v }) := by have := flat_set (enc := eClaimo) (sz := 4) (l := l) (x := { l[k] with Inputs := v }) (fun _ _ => rfl) rfl (k := k) h 2 (by decide) (.row true 1 v.length (esLInto v)) rfl; exact this
theorem esClaimo_get_Sums (l : List GClaim) (k : Nat) (h : k < l.length) : (esClaimo l)[k * 4 + 3]? = some (.row true 1 l[k].Sums.length (esInt l[k].Sums)) := by have := flat_get (enc := eClaimo) (sz := 4) (l := l) (fun _ _ => rfl) (k := k) (j := 3) h (by decide); exact this
theorem esClaimo_set_Sums (l : List GClaim) (k : Nat) (v : List Int) (h : k < l.length) : (esClaimo l).set (k * 4 + 3) (.row true 1 v.length (esInt v)) = esClaimo (l.set k { l[k] with Sums := v }) := by have := flat_set (enc := eClaimo) (sz := 4) (l := l) (x := { l[k] with Sums := v }) (fun _ _ => rfl) rfl (k := k) h 3 (by decide) (.row true 1 v.length (esInt v)) rfl; exact this
theorem esClaimo_share (l : List GClaim) : AV.shares (esClaimo l) = esClaim l := shares_flat (fun x => by simp [eClaimo, eClaim, AV.shares, AV.share, esLInto_share, esInt_share])
theorem esClaimo_pure (l : List GClaim) : pureVs (esClaimo l) = true := pureVs_flat (fun x => by simp [eClaimo, pureVs, pureV, esLInto_pure, esInt_pure])
end Go.Av
