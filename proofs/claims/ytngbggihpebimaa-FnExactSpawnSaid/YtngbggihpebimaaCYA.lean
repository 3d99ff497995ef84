/- The types of the program, their cells. -/
import Derived.Test.YtngbggihpebimaaCZw
set_option linter.unusedSimpArgs false
set_option linter.unusedVariables false
/-! The types of the program, their cells. -/
namespace Go.Av
def eInt (x : Int) : List AV := [I x]
theorem eInt_eq (x : Int) : eInt x = [I x] := rfl
def esInt (l : List Int) : List AV := l.flatMap eInt
theorem esInt_len (l : List Int) : (esInt l).length = l.length * 1 := flat_len (fun _ _ => rfl)
theorem esInt_nil : esInt [] = [] := rfl
theorem esInt_cons (x : Int) (l : List Int) : esInt (x :: l) = eInt x ++ esInt l := rfl
theorem esInt_app (l k : List Int) : esInt (l ++ k) = esInt l ++ esInt k := by simp [esInt]
theorem esInt_dropk (l : List Int) (k : Nat) : (esInt l).drop (k * 1) = esInt (l.drop k) := flat_drop k (fun _ _ => rfl)
theorem esInt_drop (l : List Int) (k : Nat) (h : k < l.length) : (esInt l).drop (k * 1) = eInt l[k] ++ esInt (l.drop (k + 1)) := by rw [esInt_dropk, List.drop_eq_getElem_cons h]; rfl
theorem esInt_drop1 (l : List Int) (k : Nat) (h : k < l.length) : (esInt l).drop k = eInt l[k] ++ esInt (l.drop (k + 1)) := by have := esInt_drop l k h; simpa using this
theorem esInt_takek (l : List Int) (k : Nat) : (esInt l).take (k * 1) = esInt (l.take k) := flat_take k (fun _ _ => rfl)
theorem esInt_setL (l : List Int) (k : Nat) (x : Int) (h : k < l.length) : Av.setL (esInt l) (k * 1) (eInt x) = esInt (l.set k x) := setL_flat x (fun _ _ => rfl) rfl h
theorem esInt_leaf (l : List Int) : leafCs (esInt l) = true := leafCs_flat (fun _ => rfl)
theorem esInt_fit (l : List Int) : fitCs (esInt l) = true := fitCs_flat (fun _ => rfl)
theorem esInt_get (l : List Int) (k : Nat) (h : k < l.length) : (esInt l)[k]? = some (I l[k]) := by have := flat_get (enc := eInt) (sz := 1) (l := l) (fun _ _ => rfl) (k := k) (j := 0) h (by decide); rw [Nat.mul_one, Nat.add_zero] at this; exact this
theorem esInt_set (l : List Int) (k : Nat) (x : Int) (h : k < l.length) : (esInt l).set k (I x) = esInt (l.set k x) := by have := esInt_setL l k x h; rw [Nat.mul_one] at this; rw [setL_one _ _ (by rw [esInt_len]; omega)]; exact this
theorem esInt_share (l : List Int) : AV.shares (esInt l) = esInt l := shares_flat (fun x => by simp [eInt, AV.shares, AV.share])
theorem esInt_pure (l : List Int) : pureVs (esInt l) = true := pureVs_flat (fun x => by simp [eInt, pureVs, pureV])
theorem esInt_free (l : List Int) : AV.noRefs (esInt l) = true := noRefs_flat (fun x => by simp [eInt, AV.noRefs, AV.noRef])
def eBool (x : Bool) : List AV := [B x]
theorem eBool_eq (x : Bool) : eBool x = [B x] := rfl
def esBool (l : List Bool) : List AV := l.flatMap eBool
theorem esBool_len (l : List Bool) : (esBool l).length = l.length * 1 := flat_len (fun _ _ => rfl)
theorem esBool_nil : esBool [] = [] := rfl
theorem esBool_cons (x : Bool) (l : List Bool) : esBool (x :: l) = eBool x ++ esBool l := rfl
theorem esBool_app (l k : List Bool) : esBool (l ++ k) = esBool l ++ esBool k := by simp [esBool]
theorem esBool_dropk (l : List Bool) (k : Nat) : (esBool l).drop (k * 1) = esBool (l.drop k) := flat_drop k (fun _ _ => rfl)
theorem esBool_drop (l : List Bool) (k : Nat) (h : k < l.length) : (esBool l).drop (k * 1) = eBool l[k] ++ esBool (l.drop (k + 1)) := by rw [esBool_dropk, List.drop_eq_getElem_cons h]; rfl
theorem esBool_drop1 (l : List Bool) (k : Nat) (h : k < l.length) : (esBool l).drop k = eBool l[k] ++ esBool (l.drop (k + 1)) := by have := esBool_drop l k h; simpa using this
theorem esBool_takek (l : List Bool) (k : Nat) : (esBool l).take (k * 1) = esBool (l.take k) := flat_take k (fun _ _ => rfl)
theorem esBool_setL (l : List Bool) (k : Nat) (x : Bool) (h : k < l.length) : Av.setL (esBool l) (k * 1) (eBool x) = esBool (l.set k x) := setL_flat x (fun _ _ => rfl) rfl h
theorem esBool_leaf (l : List Bool) : leafCs (esBool l) = true := leafCs_flat (fun _ => rfl)
theorem esBool_fit (l : List Bool) : fitCs (esBool l) = true := fitCs_flat (fun _ => rfl)
theorem esBool_get (l : List Bool) (k : Nat) (h : k < l.length) : (esBool l)[k]? = some (B l[k]) := by have := flat_get (enc := eBool) (sz := 1) (l := l) (fun _ _ => rfl) (k := k) (j := 0) h (by decide); rw [Nat.mul_one, Nat.add_zero] at this; exact this
theorem esBool_set (l : List Bool) (k : Nat) (x : Bool) (h : k < l.length) : (esBool l).set k (B x) = esBool (l.set k x) := by have := esBool_setL l k x h; rw [Nat.mul_one] at this; rw [setL_one _ _ (by rw [esBool_len]; omega)]; exact this
theorem esBool_share (l : List Bool) : AV.shares (esBool l) = esBool l := shares_flat (fun x => by simp [eBool, AV.shares, AV.share])
theorem esBool_pure (l : List Bool) : pureVs (esBool l) = true := pureVs_flat (fun x => by simp [eBool, pureVs, pureV])
theorem esBool_free (l : List Bool) : AV.noRefs (esBool l) = true := noRefs_flat (fun x => by simp [eBool, AV.noRefs, AV.noRef])
def eStr (x : ByteArray) : List AV := [S x]
theorem eStr_eq (x : ByteArray) : eStr x = [S x] := rfl
def esStr (l : List ByteArray) : List AV := l.flatMap eStr
theorem esStr_len (l : List ByteArray) : (esStr l).length = l.length * 1 := flat_len (fun _ _ => rfl)
theorem esStr_nil : esStr [] = [] := rfl
theorem esStr_cons (x : ByteArray) (l : List ByteArray) : esStr (x :: l) = eStr x ++ esStr l := rfl
theorem esStr_app (l k : List ByteArray) : esStr (l ++ k) = esStr l ++ esStr k := by simp [esStr]
theorem esStr_dropk (l : List ByteArray) (k : Nat) : (esStr l).drop (k * 1) = esStr (l.drop k) := flat_drop k (fun _ _ => rfl)
theorem esStr_drop (l : List ByteArray) (k : Nat) (h : k < l.length) : (esStr l).drop (k * 1) = eStr l[k] ++ esStr (l.drop (k + 1)) := by rw [esStr_dropk, List.drop_eq_getElem_cons h]; rfl
theorem esStr_drop1 (l : List ByteArray) (k : Nat) (h : k < l.length) : (esStr l).drop k = eStr l[k] ++ esStr (l.drop (k + 1)) := by have := esStr_drop l k h; simpa using this
theorem esStr_takek (l : List ByteArray) (k : Nat) : (esStr l).take (k * 1) = esStr (l.take k) := flat_take k (fun _ _ => rfl)
theorem esStr_setL (l : List ByteArray) (k : Nat) (x : ByteArray) (h : k < l.length) : Av.setL (esStr l) (k * 1) (eStr x) = esStr (l.set k x) := setL_flat x (fun _ _ => rfl) rfl h
theorem esStr_leaf (l : List ByteArray) : leafCs (esStr l) = true := leafCs_flat (fun _ => rfl)
theorem esStr_fit (l : List ByteArray) : fitCs (esStr l) = true := fitCs_flat (fun _ => rfl)
theorem esStr_get (l : List ByteArray) (k : Nat) (h : k < l.length) : (esStr l)[k]? = some (S l[k]) := by have := flat_get (enc := eStr) (sz := 1) (l := l) (fun _ _ => rfl) (k := k) (j := 0) h (by decide); rw [Nat.mul_one, Nat.add_zero] at this; exact this
theorem esStr_set (l : List ByteArray) (k : Nat) (x : ByteArray) (h : k < l.length) : (esStr l).set k (S x) = esStr (l.set k x) := by have := esStr_setL l k x h; rw [Nat.mul_one] at this; rw [setL_one _ _ (by rw [esStr_len]; omega)]; exact this
theorem esStr_share (l : List ByteArray) : AV.shares (esStr l) = esStr l := shares_flat (fun x => by simp [eStr, AV.shares, AV.share])
theorem esStr_pure (l : List ByteArray) : pureVs (esStr l) = true := pureVs_flat (fun x => by simp [eStr, pureVs, pureV])
theorem esStr_free (l : List ByteArray) : AV.noRefs (esStr l) = true := noRefs_flat (fun x => by simp [eStr, AV.noRefs, AV.noRef])
def eU8 (x : Int) : List AV := [U8 x]
theorem eU8_eq (x : Int) : eU8 x = [U8 x] := rfl
def esU8 (l : List Int) : List AV := l.flatMap eU8
theorem esU8_len (l : List Int) : (esU8 l).length = l.length * 1 := flat_len (fun _ _ => rfl)
theorem esU8_nil : esU8 [] = [] := rfl
theorem esU8_cons (x : Int) (l : List Int) : esU8 (x :: l) = eU8 x ++ esU8 l := rfl
theorem esU8_app (l k : List Int) : esU8 (l ++ k) = esU8 l ++ esU8 k := by simp [esU8]
theorem esU8_dropk (l : List Int) (k : Nat) : (esU8 l).drop (k * 1) = esU8 (l.drop k) := flat_drop k (fun _ _ => rfl)
theorem esU8_drop (l : List Int) (k : Nat) (h : k < l.length) : (esU8 l).drop (k * 1) = eU8 l[k] ++ esU8 (l.drop (k + 1)) := by rw [esU8_dropk, List.drop_eq_getElem_cons h]; rfl
theorem esU8_drop1 (l : List Int) (k : Nat) (h : k < l.length) : (esU8 l).drop k = eU8 l[k] ++ esU8 (l.drop (k + 1)) := by have := esU8_drop l k h; simpa using this
theorem esU8_takek (l : List Int) (k : Nat) : (esU8 l).take (k * 1) = esU8 (l.take k) := flat_take k (fun _ _ => rfl)
theorem esU8_setL (l : List Int) (k : Nat) (x : Int) (h : k < l.length) : Av.setL (esU8 l) (k * 1) (eU8 x) = esU8 (l.set k x) := setL_flat x (fun _ _ => rfl) rfl h
theorem esU8_leaf (l : List Int) : leafCs (esU8 l) = true := leafCs_flat (fun _ => rfl)
theorem esU8_fit (l : List Int) : fitCs (esU8 l) = true := fitCs_flat (fun _ => rfl)
theorem esU8_get (l : List Int) (k : Nat) (h : k < l.length) : (esU8 l)[k]? = some (U8 l[k]) := by have := flat_get (enc := eU8) (sz := 1) (l := l) (fun _ _ => rfl) (k := k) (j := 0) h (by decide); rw [Nat.mul_one, Nat.add_zero] at this; exact this
theorem esU8_set (l : List Int) (k : Nat) (x : Int) (h : k < l.length) : (esU8 l).set k (U8 x) = esU8 (l.set k x) := by have := esU8_setL l k x h; rw [Nat.mul_one] at this; rw [setL_one _ _ (by rw [esU8_len]; omega)]; exact this
theorem esU8_share (l : List Int) : AV.shares (esU8 l) = esU8 l := shares_flat (fun x => by simp [eU8, AV.shares, AV.share])
theorem esU8_pure (l : List Int) : pureVs (esU8 l) = true := pureVs_flat (fun x => by simp [eU8, pureVs, pureV])
theorem esU8_free (l : List Int) : AV.noRefs (esU8 l) = true := noRefs_flat (fun x => by simp [eU8, AV.noRefs, AV.noRef])
structure GSeat where
  X : Int
  Y : Int
  Hp : Int
  deriving DecidableEq, Inhabited
def eSeat (x : GSeat) : List AV := [I x.X, I x.Y, I x.Hp]
theorem eSeat_eq (x : GSeat) : eSeat x = [I x.X, I x.Y, I x.Hp] := rfl
def esSeat (l : List GSeat) : List AV := l.flatMap eSeat
theorem esSeat_len (l : List GSeat) : (esSeat l).length = l.length * 3 := flat_len (fun _ _ => rfl)
theorem esSeat_nil : esSeat [] = [] := rfl
theorem esSeat_cons (x : GSeat) (l : List GSeat) : esSeat (x :: l) = eSeat x ++ esSeat l := rfl
theorem esSeat_app (l k : List GSeat) : esSeat (l ++ k) = esSeat l ++ esSeat k := by simp [esSeat]
theorem esSeat_dropk (l : List GSeat) (k : Nat) : (esSeat l).drop (k * 3) = esSeat (l.drop k) := flat_drop k (fun _ _ => rfl)
theorem esSeat_drop (l : List GSeat) (k : Nat) (h : k < l.length) : (esSeat l).drop (k * 3) = eSeat l[k] ++ esSeat (l.drop (k + 1)) := by rw [esSeat_dropk, List.drop_eq_getElem_cons h]; rfl
theorem esSeat_takek (l : List GSeat) (k : Nat) : (esSeat l).take (k * 3) = esSeat (l.take k) := flat_take k (fun _ _ => rfl)
theorem esSeat_setL (l : List GSeat) (k : Nat) (x : GSeat) (h : k < l.length) : Av.setL (esSeat l) (k * 3) (eSeat x) = esSeat (l.set k x) := setL_flat x (fun _ _ => rfl) rfl h
theorem esSeat_leaf (l : List GSeat) : leafCs (esSeat l) = true := leafCs_flat (fun _ => rfl)
theorem esSeat_fit (l : List GSeat) : fitCs (esSeat l) = true := fitCs_flat (fun _ => rfl)
theorem esSeat_get_X (l : List GSeat) (k : Nat) (h : k < l.length) : (esSeat l)[k * 3]? = some (I l[k].X) := by have := flat_get (enc := eSeat) (sz := 3) (l := l) (fun _ _ => rfl) (k := k) (j := 0) h (by decide); exact this
theorem esSeat_set_X (l : List GSeat) (k : Nat) (v : Int) (h : k < l.length) : (esSeat l).set (k * 3) (I v) = esSeat (l.set k { l[k] with X := v }) := by have := flat_set (enc := eSeat) (sz := 3) (l := l) (x := { l[k] with X := v }) (fun _ _ => rfl) rfl (k := k) h 0 (by decide) (I v) rfl; exact this
theorem esSeat_get_Y (l : List GSeat) (k : Nat) (h : k < l.length) : (esSeat l)[k * 3 + 1]? = some (I l[k].Y) := by have := flat_get (enc := eSeat) (sz := 3) (l := l) (fun _ _ => rfl) (k := k) (j := 1) h (by decide); exact this
theorem esSeat_set_Y (l : List GSeat) (k : Nat) (v : Int) (h : k < l.length) : (esSeat l).set (k * 3 + 1) (I v) = esSeat (l.set k { l[k] with Y := v }) := by have := flat_set (enc := eSeat) (sz := 3) (l := l) (x := { l[k] with Y := v }) (fun _ _ => rfl) rfl (k := k) h 1 (by decide) (I v) rfl; exact this
theorem esSeat_get_Hp (l : List GSeat) (k : Nat) (h : k < l.length) : (esSeat l)[k * 3 + 2]? = some (I l[k].Hp) := by have := flat_get (enc := eSeat) (sz := 3) (l := l) (fun _ _ => rfl) (k := k) (j := 2) h (by decide); exact this
theorem esSeat_set_Hp (l : List GSeat) (k : Nat) (v : Int) (h : k < l.length) : (esSeat l).set (k * 3 + 2) (I v) = esSeat (l.set k { l[k] with Hp := v }) := by have := flat_set (enc := eSeat) (sz := 3) (l := l) (x := { l[k] with Hp := v }) (fun _ _ => rfl) rfl (k := k) h 2 (by decide) (I v) rfl; exact this
theorem esSeat_share (l : List GSeat) : AV.shares (esSeat l) = esSeat l := shares_flat (fun x => by simp [eSeat, AV.shares, AV.share])
theorem esSeat_pure (l : List GSeat) : pureVs (esSeat l) = true := pureVs_flat (fun x => by simp [eSeat, pureVs, pureV])
theorem esSeat_free (l : List GSeat) : AV.noRefs (esSeat l) = true := noRefs_flat (fun x => by simp [eSeat, AV.noRefs, AV.noRef])
structure GGame where
  Frame : Int
  Coin : Int
  Seats : List GSeat
  deriving DecidableEq, Inhabited
def eGame (x : GGame) : List AV := [I x.Frame, I x.Coin, .row false 3 x.Seats.length (esSeat x.Seats)]
theorem eGame_eq (x : GGame) : eGame x = [I x.Frame, I x.Coin, .row false 3 x.Seats.length (esSeat x.Seats)] := rfl
def esGame (l : List GGame) : List AV := l.flatMap eGame
theorem esGame_len (l : List GGame) : (esGame l).length = l.length * 3 := flat_len (fun _ _ => rfl)
theorem esGame_nil : esGame [] = [] := rfl
theorem esGame_cons (x : GGame) (l : List GGame) : esGame (x :: l) = eGame x ++ esGame l := rfl
theorem esGame_app (l k : List GGame) : esGame (l ++ k) = esGame l ++ esGame k := by simp [esGame]
theorem esGame_dropk (l : List GGame) (k : Nat) : (esGame l).drop (k * 3) = esGame (l.drop k) := flat_drop k (fun _ _ => rfl)
theorem esGame_drop (l : List GGame) (k : Nat) (h : k < l.length) : (esGame l).drop (k * 3) = eGame l[k] ++ esGame (l.drop (k + 1)) := by rw [esGame_dropk, List.drop_eq_getElem_cons h]; rfl
theorem esGame_takek (l : List GGame) (k : Nat) : (esGame l).take (k * 3) = esGame (l.take k) := flat_take k (fun _ _ => rfl)
theorem esGame_setL (l : List GGame) (k : Nat) (x : GGame) (h : k < l.length) : Av.setL (esGame l) (k * 3) (eGame x) = esGame (l.set k x) := setL_flat x (fun _ _ => rfl) rfl h
theorem esGame_leaf (l : List GGame) : leafCs (esGame l) = true := leafCs_flat (fun _ => rfl)
theorem esGame_fit (l : List GGame) : fitCs (esGame l) = true := fitCs_flat (fun _ => rfl)
theorem esGame_get_Frame (l : List GGame) (k : Nat) (h : k < l.length) : (esGame l)[k * 3]? = some (I l[k].Frame) := by have := flat_get (enc := eGame) (sz := 3) (l := l) (fun _ _ => rfl) (k := k) (j := 0) h (by decide); exact this
theorem esGame_set_Frame (l : List GGame) (k : Nat) (v : Int) (h : k < l.length) : (esGame l).set (k * 3) (I v) = esGame (l.set k { l[k] with Frame := v }) := by have := flat_set (enc := eGame) (sz := 3) (l := l) (x := { l[k] with Frame := v }) (fun _ _ => rfl) rfl (k := k) h 0 (by decide) (I v) rfl; exact this
theorem esGame_get_Coin (l : List GGame) (k : Nat) (h : k < l.length) : (esGame l)[k * 3 + 1]? = some (I l[k].Coin) := by have := flat_get (enc := eGame) (sz := 3) (l := l) (fun _ _ => rfl) (k := k) (j := 1) h (by decide); exact this
theorem esGame_set_Coin (l : List GGame) (k : Nat) (v : Int) (h : k < l.length) : (esGame l).set (k * 3 + 1) (I v) = esGame (l.set k { l[k] with Coin := v }) := by have := flat_set (enc := eGame) (sz := 3) (l := l) (x := { l[k] with Coin := v }) (fun _ _ => rfl) rfl (k := k) h 1 (by decide) (I v) rfl; exact this
theorem esGame_get_Seats (l : List GGame) (k : Nat) (h : k < l.length) : (esGame l)[k * 3 + 2]? = some (.row false 3 l[k].Seats.length (esSeat l[k].Seats)) := by have := flat_get (enc := eGame) (sz := 3) (l := l) (fun _ _ => rfl) (k := k) (j := 2) h (by decide); exact this
theorem esGame_set_Seats (l : List GGame) (k : Nat) (v : List GSeat) (h : k < l.length) : (esGame l).set (k * 3 + 2) (.row false 3 v.length (esSeat v)) = esGame (l.set k { l[k] with Seats := v }) := by have := flat_set (enc := eGame) (sz := 3) (l := l) (x := { l[k] with Seats := v }) (fun _ _ => rfl) rfl (k := k) h 2 (by decide) (.row false 3 v.length (esSeat v)) rfl; exact this
theorem esGame_share (l : List GGame) : AV.shares (esGame l) = esGame l := shares_flat (fun x => by simp [eGame, AV.shares, AV.share, esSeat_share])
theorem esGame_free (l : List GGame) : AV.noRefs (esGame l) = true := noRefs_flat (fun x => by simp [eGame, AV.noRefs, AV.noRef])
def eGameo (x : GGame) : List AV := [I x.Frame, I x.Coin, .row true 3 x.Seats.length (esSeat x.Seats)]
theorem eGameo_eq (x : GGame) : eGameo x = [I x.Frame, I x.Coin, .row true 3 x.Seats.length (esSeat x.Seats)] := rfl
def esGameo (l : List GGame) : List AV := l.flatMap eGameo
theorem esGameo_len (l : List GGame) : (esGameo l).length = l.length * 3 := flat_len (fun _ _ => rfl)
theorem esGameo_nil : esGameo [] = [] := rfl
theorem esGameo_cons (x : GGame) (l : List GGame) : esGameo (x :: l) = eGameo x ++ esGameo l := rfl
theorem esGameo_app (l k : List GGame) : esGameo (l ++ k) = esGameo l ++ esGameo k := by simp [esGameo]
theorem esGameo_dropk (l : List GGame) (k : Nat) : (esGameo l).drop (k * 3) = esGameo (l.drop k) := flat_drop k (fun _ _ => rfl)
theorem esGameo_drop (l : List GGame) (k : Nat) (h : k < l.length) : (esGameo l).drop (k * 3) = eGameo l[k] ++ esGameo (l.drop (k + 1)) := by rw [esGameo_dropk, List.drop_eq_getElem_cons h]; rfl
theorem esGameo_takek (l : List GGame) (k : Nat) : (esGameo l).take (k * 3) = esGameo (l.take k) := flat_take k (fun _ _ => rfl)
theorem esGameo_setL (l : List GGame) (k : Nat) (x : GGame) (h : k < l.length) : Av.setL (esGameo l) (k * 3) (eGameo x) = esGameo (l.set k x) := setL_flat x (fun _ _ => rfl) rfl h
theorem esGameo_fit (l : List GGame) : fitCs (esGameo l) = true := fitCs_flat (fun _ => rfl)
theorem esGameo_get_Frame (l : List GGame) (k : Nat) (h : k < l.length) : (esGameo l)[k * 3]? = some (I l[k].Frame) := by have := flat_get (enc := eGameo) (sz := 3) (l := l) (fun _ _ => rfl) (k := k) (j := 0) h (by decide); exact this
theorem esGameo_set_Frame (l : List GGame) (k : Nat) (v : Int) (h : k < l.length) : (esGameo l).set (k * 3) (I v) = esGameo (l.set k { l[k] with Frame := v }) := by have := flat_set (enc := eGameo) (sz := 3) (l := l) (x := { l[k] with Frame := v }) (fun _ _ => rfl) rfl (k := k) h 0 (by decide) (I v) rfl; exact this
theorem esGameo_get_Coin (l : List GGame) (k : Nat) (h : k < l.length) : (esGameo l)[k * 3 + 1]? = some (I l[k].Coin) := by have := flat_get (enc := eGameo) (sz := 3) (l := l) (fun _ _ => rfl) (k := k) (j := 1) h (by decide); exact this
theorem esGameo_set_Coin (l : List GGame) (k : Nat) (v : Int) (h : k < l.length) : (esGameo l).set (k * 3 + 1) (I v) = esGameo (l.set k { l[k] with Coin := v }) := by have := flat_set (enc := eGameo) (sz := 3) (l := l) (x := { l[k] with Coin := v }) (fun _ _ => rfl) rfl (k := k) h 1 (by decide) (I v) rfl; exact this
theorem esGameo_get_Seats (l : List GGame) (k : Nat) (h : k < l.length) : (esGameo l)[k * 3 + 2]? = some (.row true 3 l[k].Seats.length (esSeat l[k].Seats)) := by have := flat_get (enc := eGameo) (sz := 3) (l := l) (fun _ _ => rfl) (k := k) (j := 2) h (by decide); exact this
theorem esGameo_set_Seats (l : List GGame) (k : Nat) (v : List GSeat) (h : k < l.length) : (esGameo l).set (k * 3 + 2) (.row true 3 v.length (esSeat v)) = esGameo (l.set k { l[k] with Seats := v }) := by have := flat_set (enc := eGameo) (sz := 3) (l := l) (x := { l[k] with Seats := v }) (fun _ _ => rfl) rfl (k := k) h 2 (by decide) (.row true 3 v.length (esSeat v)) rfl; exact this
theorem esGameo_share (l : List GGame) : AV.shares (esGameo l) = esGame l := shares_flat (fun x => by simp [eGameo, eGame, AV.shares, AV.share, esSeat_share])
theorem esGameo_pure (l : List GGame) : pureVs (esGameo l) = true := pureVs_flat (fun x => by simp [eGameo, pureVs, pureV, esSeat_pure])
structure GLate where
  Frame : Int
  Seat : Int
  Input : Int
  deriving DecidableEq, Inhabited
def eLate (x : GLate) : List AV := [I x.Frame, I x.Seat, I x.Input]
theorem eLate_eq (x : GLate) : eLate x = [I x.Frame, I x.Seat, I x.Input] := rfl
def esLate (l : List GLate) : List AV := l.flatMap eLate
theorem esLate_len (l : List GLate) : (esLate l).length = l.length * 3 := flat_len (fun _ _ => rfl)
theorem esLate_nil : esLate [] = [] := rfl
theorem esLate_cons (x : GLate) (l : List GLate) : esLate (x :: l) = eLate x ++ esLate l := rfl
theorem esLate_app (l k : List GLate) : esLate (l ++ k) = esLate l ++ esLate k := by simp [esLate]
theorem esLate_dropk (l : List GLate) (k : Nat) : (esLate l).drop (k * 3) = esLate (l.drop k) := flat_drop k (fun _ _ => rfl)
theorem esLate_drop (l : List GLate) (k : Nat) (h : k < l.length) : (esLate l).drop (k * 3) = eLate l[k] ++ esLate (l.drop (k + 1)) := by rw [esLate_dropk, List.drop_eq_getElem_cons h]; rfl
theorem esLate_takek (l : List GLate) (k : Nat) : (esLate l).take (k * 3) = esLate (l.take k) := flat_take k (fun _ _ => rfl)
theorem esLate_setL (l : List GLate) (k : Nat) (x : GLate) (h : k < l.length) : Av.setL (esLate l) (k * 3) (eLate x) = esLate (l.set k x) := setL_flat x (fun _ _ => rfl) rfl h
theorem esLate_leaf (l : List GLate) : leafCs (esLate l) = true := leafCs_flat (fun _ => rfl)
theorem esLate_fit (l : List GLate) : fitCs (esLate l) = true := fitCs_flat (fun _ => rfl)
theorem esLate_get_Frame (l : List GLate) (k : Nat) (h : k < l.length) : (esLate l)[k * 3]? = some (I l[k].Frame) := by have := flat_get (enc := eLate) (sz := 3) (l := l) (fun _ _ => rfl) (k := k) (j := 0) h (by decide); exact this
theorem esLate_set_Frame (l : List GLate) (k : Nat) (v : Int) (h : k < l.length) : (esLate l).set (k * 3) (I v) = esLate (l.set k { l[k] with Frame := v }) := by have := flat_set (enc := eLate) (sz := 3) (l := l) (x := { l[k] with Frame := v }) (fun _ _ => rfl) rfl (k := k) h 0 (by decide) (I v) rfl; exact this
theorem esLate_get_Seat (l : List GLate) (k : Nat) (h : k < l.length) : (esLate l)[k * 3 + 1]? = some (I l[k].Seat) := by have := flat_get (enc := eLate) (sz := 3) (l := l) (fun _ _ => rfl) (k := k) (j := 1) h (by decide); exact this
theorem esLate_set_Seat (l : List GLate) (k : Nat) (v : Int) (h : k < l.length) : (esLate l).set (k * 3 + 1) (I v) = esLate (l.set k { l[k] with Seat := v }) := by have := flat_set (enc := eLate) (sz := 3) (l := l) (x := { l[k] with Seat := v }) (fun _ _ => rfl) rfl (k := k) h 1 (by decide) (I v) rfl; exact this
theorem esLate_get_Input (l : List GLate) (k : Nat) (h : k < l.length) : (esLate l)[k * 3 + 2]? = some (I l[k].Input) := by have := flat_get (enc := eLate) (sz := 3) (l := l) (fun _ _ => rfl) (k := k) (j := 2) h (by decide); exact this
theorem esLate_set_Input (l : List GLate) (k : Nat) (v : Int) (h : k < l.length) : (esLate l).set (k * 3 + 2) (I v) = esLate (l.set k { l[k] with Input := v }) := by have := flat_set (enc := eLate) (sz := 3) (l := l) (x := { l[k] with Input := v }) (fun _ _ => rfl) rfl (k := k) h 2 (by decide) (I v) rfl; exact this
theorem esLate_share (l : List GLate) : AV.shares (esLate l) = esLate l := shares_flat (fun x => by simp [eLate, AV.shares, AV.share])
theorem esLate_pure (l : List GLate) : pureVs (esLate l) = true := pureVs_flat (fun x => by simp [eLate, pureVs, pureV])
theorem esLate_free (l : List GLate) : AV.noRefs (esLate l) = true := noRefs_flat (fun x => by simp [eLate, AV.noRefs, AV.noRef])
def eLInt (x : List Int) : List AV := [.row false 1 x.length (esInt x)]
theorem eLInt_eq (x : List Int) : eLInt x = [.row false 1 x.length (esInt x)] := rfl
def esLInt (l : List (List Int)) : List AV := l.flatMap eLInt
theorem esLInt_len (l : List (List Int)) : (esLInt l).length = l.length * 1 := flat_len (fun _ _ => rfl)
theorem esLInt_nil : esLInt [] = [] := rfl
theorem esLInt_cons (x : List Int) (l : List (List Int)) : esLInt (x :: l) = eLInt x ++ esLInt l := rfl
theorem esLInt_app (l k : List (List Int)) : esLInt (l ++ k) = esLInt l ++ esLInt k := by simp [esLInt]
theorem esLInt_dropk (l : List (List Int)) (k : Nat) : (esLInt l).drop (k * 1) = esLInt (l.drop k) := flat_drop k (fun _ _ => rfl)
theorem esLInt_drop (l : List (List Int)) (k : Nat) (h : k < l.length) : (esLInt l).drop (k * 1) = eLInt l[k] ++ esLInt (l.drop (k + 1)) := by rw [esLInt_dropk, List.drop_eq_getElem_cons h]; rfl
theorem esLInt_drop1 (l : List (List Int)) (k : Nat) (h : k < l.length) : (esLInt l).drop k = eLInt l[k] ++ esLInt (l.drop (k + 1)) := by have := esLInt_drop l k h; simpa using this
theorem esLInt_takek (l : List (List Int)) (k : Nat) : (esLInt l).take (k * 1) = esLInt (l.take k) := flat_take k (fun _ _ => rfl)
theorem esLInt_setL (l : List (List Int)) (k : Nat) (x : List Int) (h : k < l.length) : Av.setL (esLInt l) (k * 1) (eLInt x) = esLInt (l.set k x) := setL_flat x (fun _ _ => rfl) rfl h
theorem esLInt_leaf (l : List (List Int)) : leafCs (esLInt l) = true := leafCs_flat (fun _ => rfl)
theorem esLInt_fit (l : List (List Int)) : fitCs (esLInt l) = true := fitCs_flat (fun _ => rfl)
theorem esLInt_get (l : List (List Int)) (k : Nat) (h : k < l.length) : (esLInt l)[k]? = some (.row false 1 l[k].length (esInt l[k])) := by have := flat_get (enc := eLInt) (sz := 1) (l := l) (fun _ _ => rfl) (k := k) (j := 0) h (by decide); rw [Nat.mul_one, Nat.add_zero] at this; exact this
theorem esLInt_set (l : List (List Int)) (k : Nat) (x : List Int) (h : k < l.length) : (esLInt l).set k (.row false 1 x.length (esInt x)) = esLInt (l.set k x) := by have := esLInt_setL l k x h; rw [Nat.mul_one] at this; rw [setL_one _ _ (by rw [esLInt_len]; omega)]; exact this
theorem esLInt_share (l : List (List Int)) : AV.shares (esLInt l) = esLInt l := shares_flat (fun x => by simp [eLInt, AV.shares, AV.share, esInt_share])
theorem esLInt_free (l : List (List Int)) : AV.noRefs (esLInt l) = true := noRefs_flat (fun x => by simp [eLInt, AV.noRefs, AV.noRef])
def eLInto (x : List Int) : List AV := [.row true 1 x.length (esInt x)]
theorem eLInto_eq (x : List Int) : eLInto x = [.row true 1 x.length (esInt x)] := rfl
def esLInto (l : List (List Int)) : List AV := l.flatMap eLInto
theorem esLInto_len (l : List (List Int)) : (esLInto l).length = l.length * 1 := flat_len (fun _ _ => rfl)
theorem esLInto_nil : esLInto [] = [] := rfl
theorem esLInto_cons (x : List Int) (l : List (List Int)) : esLInto (x :: l) = eLInto x ++ esLInto l := rfl
theorem esLInto_app (l k : List (List Int)) : esLInto (l ++ k) = esLInto l ++ esLInto k := by simp [esLInto]
theorem esLInto_dropk (l : List (List Int)) (k : Nat) : (esLInto l).drop (k * 1) = esLInto (l.drop k) := flat_drop k (fun _ _ => rfl)
theorem esLInto_drop (l : List (List Int)) (k : Nat) (h : k < l.length) : (esLInto l).drop (k * 1) = eLInto l[k] ++ esLInto (l.drop (k + 1)) := by rw [esLInto_dropk, List.drop_eq_getElem_cons h]; rfl
theorem esLInto_drop1 (l : List (List Int)) (k : Nat) (h : k < l.length) : (esLInto l).drop k = eLInto l[k] ++ esLInto (l.drop (k + 1)) := by have := esLInto_drop l k h; simpa using this
theorem esLInto_takek (l : List (List Int)) (k : Nat) : (esLInto l).take (k * 1) = esLInto (l.take k) := flat_take k (fun _ _ => rfl)
theorem esLInto_setL (l : List (List Int)) (k : Nat) (x : List Int) (h : k < l.length) : Av.setL (esLInto l) (k * 1) (eLInto x) = esLInto (l.set k x) := setL_flat x (fun _ _ => rfl) rfl h
theorem esLInto_fit (l : List (List Int)) : fitCs (esLInto l) = true := fitCs_flat (fun _ => rfl)
theorem esLInto_get (l : List (List Int)) (k : Nat) (h : k < l.length) : (esLInto l)[k]? = some (.row true 1 l[k].length (esInt l[k])) := by have := flat_get (enc := eLInto) (sz := 1) (l := l) (fun _ _ => rfl) (k := k) (j := 0) h (by decide); rw [Nat.mul_one, Nat.add_zero] at this; exact this
theorem esLInto_set (l : List (List Int)) (k : Nat) (x : List Int) (h : k < l.length) : (esLInto l).set k (.row true 1 x.length (esInt x)) = esLInto (l.set k x) := by have := esLInto_setL l k x h; rw [Nat.mul_one] at this; rw [setL_one _ _ (by rw [esLInto_len]; omega)]; exact this
theorem esLInto_share (l : List (List Int)) : AV.shares (esLInto l) = esLInt l := shares_flat (fun x => by simp [eLInto, eLInt, AV.shares, AV.share, esInt_share])
theorem esLInto_pure (l : List (List Int)) : pureVs (esLInto l) = true := pureVs_flat (fun x => by simp [eLInto, pureVs, pureV, esInt_pure])
def eLBool (x : List Bool) : List AV := [.row false 1 x.length (esBool x)]
theorem eLBool_eq (x : List Bool) : eLBool x = [.row false 1 x.length (esBool x)] := rfl
def esLBool (l : List (List Bool)) : List AV := l.flatMap eLBool
theorem esLBool_len (l : List (List Bool)) : (esLBool l).length = l.length * 1 := flat_len (fun _ _ => rfl)
theorem esLBool_nil : esLBool [] = [] := rfl
theorem esLBool_cons (x : List Bool) (l : List (List Bool)) : esLBool (x :: l) = eLBool x ++ esLBool l := rfl
theorem esLBool_app (l k : List (List Bool)) : esLBool (l ++ k) = esLBool l ++ esLBool k := by simp [esLBool]
theorem esLBool_dropk (l : List (List Bool)) (k : Nat) : (esLBool l).drop (k * 1) = esLBool (l.drop k) := flat_drop k (fun _ _ => rfl)
theorem esLBool_drop (l : List (List Bool)) (k : Nat) (h : k < l.length) : (esLBool l).drop (k * 1) = eLBool l[k] ++ esLBool (l.drop (k + 1)) := by rw [esLBool_dropk, List.drop_eq_getElem_cons h]; rfl
theorem esLBool_drop1 (l : List (List Bool)) (k : Nat) (h : k < l.length) : (esLBool l).drop k = eLBool l[k] ++ esLBool (l.drop (k + 1)) := by have := esLBool_drop l k h; simpa using this
theorem esLBool_takek (l : List (List Bool)) (k : Nat) : (esLBool l).take (k * 1) = esLBool (l.take k) := flat_take k (fun _ _ => rfl)
theorem esLBool_setL (l : List (List Bool)) (k : Nat) (x : List Bool) (h : k < l.length) : Av.setL (esLBool l) (k * 1) (eLBool x) = esLBool (l.set k x) := setL_flat x (fun _ _ => rfl) rfl h
theorem esLBool_leaf (l : List (List Bool)) : leafCs (esLBool l) = true := leafCs_flat (fun _ => rfl)
theorem esLBool_fit (l : List (List Bool)) : fitCs (esLBool l) = true := fitCs_flat (fun _ => rfl)
theorem esLBool_get (l : List (List Bool)) (k : Nat) (h : k < l.length) : (esLBool l)[k]? = some (.row false 1 l[k].length (esBool l[k])) := by have := flat_get (enc := eLBool) (sz := 1) (l := l) (fun _ _ => rfl) (k := k) (j := 0) h (by decide); rw [Nat.mul_one, Nat.add_zero] at this; exact this
theorem esLBool_set (l : List (List Bool)) (k : Nat) (x : List Bool) (h : k < l.length) : (esLBool l).set k (.row false 1 x.length (esBool x)) = esLBool (l.set k x) := by have := esLBool_setL l k x h; rw [Nat.mul_one] at this; rw [setL_one _ _ (by rw [esLBool_len]; omega)]; exact this
theorem esLBool_share (l : List (List Bool)) : AV.shares (esLBool l) = esLBool l := shares_flat (fun x => by simp [eLBool, AV.shares, AV.share, esBool_share])
theorem esLBool_free (l : List (List Bool)) : AV.noRefs (esLBool l) = true := noRefs_flat (fun x => by simp [eLBool, AV.noRefs, AV.noRef])
def eLBoolo (x : List Bool) : List AV := [.row true 1 x.length (esBool x)]
theorem eLBoolo_eq (x : List Bool) : eLBoolo x = [.row true 1 x.length (esBool x)] := rfl
def esLBoolo (l : List (List Bool)) : List AV := l.flatMap eLBoolo
theorem esLBoolo_len (l : List (List Bool)) : (esLBoolo l).length = l.length * 1 := flat_len (fun _ _ => rfl)
theorem esLBoolo_nil : esLBoolo [] = [] := rfl
theorem esLBoolo_cons (x : List Bool) (l : List (List Bool)) : esLBoolo (x :: l) = eLBoolo x ++ esLBoolo l := rfl
theorem esLBoolo_app (l k : List (List Bool)) : esLBoolo (l ++ k) = esLBoolo l ++ esLBoolo k := by simp [esLBoolo]
theorem esLBoolo_dropk (l : List (List Bool)) (k : Nat) : (esLBoolo l).drop (k * 1) = esLBoolo (l.drop k) := flat_drop k (fun _ _ => rfl)
theorem esLBoolo_drop (l : List (List Bool)) (k : Nat) (h : k < l.length) : (esLBoolo l).drop (k * 1) = eLBoolo l[k] ++ esLBoolo (l.drop (k + 1)) := by rw [esLBoolo_dropk, List.drop_eq_getElem_cons h]; rfl
theorem esLBoolo_drop1 (l : List (List Bool)) (k : Nat) (h : k < l.length) : (esLBoolo l).drop k = eLBoolo l[k] ++ esLBoolo (l.drop (k + 1)) := by have := esLBoolo_drop l k h; simpa using this
theorem esLBoolo_takek (l : List (List Bool)) (k : Nat) : (esLBoolo l).take (k * 1) = esLBoolo (l.take k) := flat_take k (fun _ _ => rfl)
theorem esLBoolo_setL (l : List (List Bool)) (k : Nat) (x : List Bool) (h : k < l.length) : Av.setL (esLBoolo l) (k * 1) (eLBoolo x) = esLBoolo (l.set k x) := setL_flat x (fun _ _ => rfl) rfl h
theorem esLBoolo_fit (l : List (List Bool)) : fitCs (esLBoolo l) = true := fitCs_flat (fun _ => rfl)
theorem esLBoolo_get (l : List (List Bool)) (k : Nat) (h : k < l.length) : (esLBoolo l)[k]? = some (.row true 1 l[k].length (esBool l[k])) := by have := flat_get (enc := eLBoolo) (sz := 1) (l := l) (fun _ _ => rfl) (k := k) (j := 0) h (by decide); rw [Nat.mul_one, Nat.add_zero] at this; exact this
theorem esLBoolo_set (l : List (List Bool)) (k : Nat) (x : List Bool) (h : k < l.length) : (esLBoolo l).set k (.row true 1 x.length (esBool x)) = esLBoolo (l.set k x) := by have := esLBoolo_setL l k x h; rw [Nat.mul_one] at this; rw [setL_one _ _ (by rw [esLBoolo_len]; omega)]; exact this
theorem esLBoolo_share (l : List (List Bool)) : AV.shares (esLBoolo l) = esLBool l := shares_flat (fun x => by simp [eLBoolo, eLBool, AV.shares, AV.share, esBool_share])
theorem esLBoolo_pure (l : List (List Bool)) : pureVs (esLBoolo l) = true := pureVs_flat (fun x => by simp [eLBoolo, pureVs, pureV, esBool_pure])
structure GPeer where
  Game : GGame
  Inputs : List (List Int)
  Known : List (List Bool)
  Past : List GGame
  deriving DecidableEq, Inhabited
def ePeer (x : GPeer) : List AV := [I x.Game.Frame, I x.Game.Coin, .row false 3 x.Game.Seats.length (esSeat x.Game.Seats), .row false 1 x.Inputs.length (esLInt x.Inputs), .row false 1 x.Known.length (esLBool x.Known), .row false 3 x.Past.length (esGame x.Past)]
theorem ePeer_eq (x : GPeer) : ePeer x = [I x.Game.Frame, I x.Game.Coin, .row false 3 x.Game.Seats.length (esSeat x.Game.Seats), .row false 1 x.Inputs.length (esLInt x.Inputs), .row false 1 x.Known.length (esLBool x.Known), .row false 3 x.Past.length (esGame x.Past)] := rfl
def esPeer (l : List GPeer) : List AV := l.flatMap ePeer
theorem esPeer_len (l : List GPeer) : (esPeer l).length = l.length * 6 := flat_len (fun _ _ => rfl)
theorem esPeer_nil : esPeer [] = [] := rfl
theorem esPeer_cons (x : GPeer) (l : List GPeer) : esPeer (x :: l) = ePeer x ++ esPeer l := rfl
theorem esPeer_app (l k : List GPeer) : esPeer (l ++ k) = esPeer l ++ esPeer k := by simp [esPeer]
theorem esPeer_dropk (l : List GPeer) (k : Nat) : (esPeer l).drop (k * 6) = esPeer (l.drop k) := flat_drop k (fun _ _ => rfl)
theorem esPeer_drop (l : List GPeer) (k : Nat) (h : k < l.length) : (esPeer l).drop (k * 6) = ePeer l[k] ++ esPeer (l.drop (k + 1)) := by rw [esPeer_dropk, List.drop_eq_getElem_cons h]; rfl
theorem esPeer_takek (l : List GPeer) (k : Nat) : (esPeer l).take (k * 6) = esPeer (l.take k) := flat_take k (fun _ _ => rfl)
theorem esPeer_setL (l : List GPeer) (k : Nat) (x : GPeer) (h : k < l.length) : Av.setL (esPeer l) (k * 6) (ePeer x) = esPeer (l.set k x) := setL_flat x (fun _ _ => rfl) rfl h
theorem esPeer_leaf (l : List GPeer) : leafCs (esPeer l) = true := leafCs_flat (fun _ => rfl)
theorem esPeer_fit (l : List GPeer) : fitCs (esPeer l) = true := fitCs_flat (fun _ => rfl)
theorem esPeer_get_Inputs (l : List GPeer) (k : Nat) (h : k < l.length) : (esPeer l)[k * 6 + 3]? = some (.row false 1 l[k].Inputs.length (esLInt l[k].Inputs)) := by have := flat_get (enc := ePeer) (sz := 6) (l := l) (fun _ _ => rfl) (k := k) (j := 3) h (by decide); exact this
theorem esPeer_set_Inputs (l : List GPeer) (k : Nat) (v : List (List Int)) (h : k < l.length) : (esPeer l).set (k * 6 + 3) (.row false 1 v.length (esLInt v)) = esPeer (l.set k { l[k] with Inputs := v }) := by have := flat_set (enc := ePeer) (sz := 6) (l := l) (x := { l[k] with Inputs := v }) (fun _ _ => rfl) rfl (k := k) h 3 (by decide) (.row false 1 v.length (esLInt v)) rfl; exact this
theorem esPeer_get_Known (l : List GPeer) (k : Nat) (h : k < l.length) : (esPeer l)[k * 6 + 4]? = some (.row false 1 l[k].Known.length (esLBool l[k].Known)) := by have := flat_get (enc := ePeer) (sz := 6) (l := l) (fun _ _ => rfl) (k := k) (j := 4) h (by decide); exact this
theorem esPeer_set_Known (l : List GPeer) (k : Nat) (v : List (List Bool)) (h : k < l.length) : (esPeer l).set (k * 6 + 4) (.row false 1 v.length (esLBool v)) = esPeer (l.set k { l[k] with Known := v }) := by have := flat_set (enc := ePeer) (sz := 6) (l := l) (x := { l[k] with Known := v }) (fun _ _ => rfl) rfl (k := k) h 4 (by decide) (.row false 1 v.length (esLBool v)) rfl; exact this
theorem esPeer_get_Past (l : List GPeer) (k : Nat) (h : k < l.length) : (esPeer l)[k * 6 + 5]? = some (.row false 3 l[k].Past.length (esGame l[k].Past)) := by have := flat_get (enc := ePeer) (sz := 6) (l := l) (fun _ _ => rfl) (k := k) (j := 5) h (by decide); exact this
theorem esPeer_set_Past (l : List GPeer) (k : Nat) (v : List GGame) (h : k < l.length) : (esPeer l).set (k * 6 + 5) (.row false 3 v.length (esGame v)) = esPeer (l.set k { l[k] with Past := v }) := by have := flat_set (enc := ePeer) (sz := 6) (l := l) (x := { l[k] with Past := v }) (fun _ _ => rfl) rfl (k := k) h 5 (by decide) (.row false 3 v.length (esGame v)) rfl; exact this
theorem esPeer_share (l : List GPeer) : AV.shares (esPeer l) = esPeer l := shares_flat (fun x => by simp [ePeer, AV.shares, AV.share, esSeat_share, esLInt_share, esLBool_share, esGame_share])
theorem esPeer_free (l : List GPeer) : AV.noRefs (esPeer l) = true := noRefs_flat (fun x => by simp [ePeer, AV.noRefs, AV.noRef])
def ePeero (x : GPeer) : List AV := [I x.Game.Frame, I x.Game.Coin, .row true 3 x.Game.Seats.length (esSeat x.Game.Seats), .row true 1 x.Inputs.length (esLInto x.Inputs), .row true 1 x.Known.length (esLBoolo x.Known), .row true 3 x.Past.length (esGameo x.Past)]
theorem ePeero_eq (x : GPeer) : ePeero x = [I x.Game.Frame, I x.Game.Coin, .row true 3 x.Game.Seats.length (esSeat x.Game.Seats), .row true 1 x.Inputs.length (esLInto x.Inputs), .row true 1 x.Known.length (esLBoolo x.Known), .row true 3 x.Past.length (esGameo x.Past)] := rfl
def esPeero (l : List GPeer) : List AV := l.flatMap ePeero
theorem esPeero_len (l : List GPeer) : (esPeero l).length = l.length * 6 := flat_len (fun _ _ => rfl)
theorem esPeero_nil : esPeero [] = [] := rfl
theorem esPeero_cons (x : GPeer) (l : List GPeer) : esPeero (x :: l) = ePeero x ++ esPeero l := rfl
theorem esPeero_app (l k : List GPeer) : esPeero (l ++ k) = esPeero l ++ esPeero k := by simp [esPeero]
theorem esPeero_dropk (l : List GPeer) (k : Nat) : (esPeero l).drop (k * 6) = esPeero (l.drop k) := flat_drop k (fun _ _ => rfl)
theorem esPeero_drop (l : List GPeer) (k : Nat) (h : k < l.length) : (esPeero l).drop (k * 6) = ePeero l[k] ++ esPeero (l.drop (k + 1)) := by rw [esPeero_dropk, List.drop_eq_getElem_cons h]; rfl
theorem esPeero_takek (l : List GPeer) (k : Nat) : (esPeero l).take (k * 6) = esPeero (l.take k) := flat_take k (fun _ _ => rfl)
theorem esPeero_setL (l : List GPeer) (k : Nat) (x : GPeer) (h : k < l.length) : Av.setL (esPeero l) (k * 6) (ePeero x) = esPeero (l.set k x) := setL_flat x (fun _ _ => rfl) rfl h
theorem esPeero_fit (l : List GPeer) : fitCs (esPeero l) = true := fitCs_flat (fun _ => rfl)
theorem esPeero_get_Inputs (l : List GPeer) (k : Nat) (h : k < l.length) : (esPeero l)[k * 6 + 3]? = some (.row true 1 l[k].Inputs.length (esLInto l[k].Inputs)) := by have := flat_get (enc := ePeero) (sz := 6) (l := l) (fun _ _ => rfl) (k := k) (j := 3) h (by decide); exact this
theorem esPeero_set_Inputs (l : List GPeer) (k : Nat) (v : List (List Int)) (h : k < l.length) : (esPeero l).set (k * 6 + 3) (.row true 1 v.length (esLInto v)) = esPeero (l.set k { l[k] with Inputs := v }) := by have := flat_set (enc := ePeero) (sz := 6) (l := l) (x := { l[k] with Inputs := v }) (fun _ _ => rfl) rfl (k := k) h 3 (by decide) (.row true 1 v.length (esLInto v)) rfl; exact this
theorem esPeero_get_Known (l : List GPeer) (k : Nat) (h : k < l.length) : (esPeero l)[k * 6 + 4]? = some (.row true 1 l[k].Known.length (esLBoolo l[k].Known)) := by have := flat_get (enc := ePeero) (sz := 6) (l := l) (fun _ _ => rfl) (k := k) (j := 4) h (by decide); exact this
theorem esPeero_set_Known (l : List GPeer) (k : Nat) (v : List (List Bool)) (h : k < l.length) : (esPeero l).set (k * 6 + 4) (.row true 1 v.length (esLBoolo v)) = esPeero (l.set k { l[k] with Known := v }) := by have := flat_set (enc := ePeero) (sz := 6) (l := l) (x := { l[k] with Known := v }) (fun _ _ => rfl) rfl (k := k) h 4 (by decide) (.row true 1 v.length (esLBoolo v)) rfl; exact this
theorem esPeero_get_Past (l : List GPeer) (k : Nat) (h : k < l.length) : (esPeero l)[k * 6 + 5]? = some (.row true 3 l[k].Past.length (esGameo l[k].Past)) := by have := flat_get (enc := ePeero) (sz := 6) (l := l) (fun _ _ => rfl) (k := k) (j := 5) h (by decide); exact this
theorem esPeero_set_Past (l : List GPeer) (k : Nat) (v : List GGame) (h : k < l.length) : (esPeero l).set (k * 6 + 5) (.row true 3 v.length (esGameo v)) = esPeero (l.set k { l[k] with Past := v }) := by have := flat_set (enc := ePeero) (sz := 6) (l := l) (x := { l[k] with Past := v }) (fun _ _ => rfl) rfl (k := k) h 5 (by decide) (.row true 3 v.length (esGameo v)) rfl; exact this
theorem esPeero_share (l : List GPeer) : AV.shares (esPeero l) = esPeer l := shares_flat (fun x => by simp [ePeero, ePeer, AV.shares, AV.share, esSeat_share, esLInto_share, esLBoolo_share, esGameo_share])
theorem esPeero_pure (l : List GPeer) : pureVs (esPeero l) = true := pureVs_flat (fun x => by simp [ePeero, pureVs, pureV, esSeat_pure, esLInto_pure, esLBoolo_pure, esGameo_pure])
structure GPart where
  Name : ByteArray
  Value : Int
  Tick : Int
  deriving DecidableEq, Inhabited
def ePart (x : GPart) : List AV := [S x.Name, I x.Value, I x.Tick]
theorem ePart_eq (x : GPart) : ePart x = [S x.Name, I x.Value, I x.Tick] := rfl
def esPart (l : List GPart) : List AV := l.flatMap ePart
theorem esPart_len (l : List GPart) : (esPart l).length = l.length * 3 := flat_len (fun _ _ => rfl)
theorem esPart_nil : esPart [] = [] := rfl
theorem esPart_cons (x : GPart) (l : List GPart) : esPart (x :: l) = ePart x ++ esPart l := rfl
theorem esPart_app (l k : List GPart) : esPart (l ++ k) = esPart l ++ esPart k := by simp [esPart]
theorem esPart_dropk (l : List GPart) (k : Nat) : (esPart l).drop (k * 3) = esPart (l.drop k) := flat_drop k (fun _ _ => rfl)
theorem esPart_drop (l : List GPart) (k : Nat) (h : k < l.length) : (esPart l).drop (k * 3) = ePart l[k] ++ esPart (l.drop (k + 1)) := by rw [esPart_dropk, List.drop_eq_getElem_cons h]; rfl
theorem esPart_takek (l : List GPart) (k : Nat) : (esPart l).take (k * 3) = esPart (l.take k) := flat_take k (fun _ _ => rfl)
theorem esPart_setL (l : List GPart) (k : Nat) (x : GPart) (h : k < l.length) : Av.setL (esPart l) (k * 3) (ePart x) = esPart (l.set k x) := setL_flat x (fun _ _ => rfl) rfl h
theorem esPart_leaf (l : List GPart) : leafCs (esPart l) = true := leafCs_flat (fun _ => rfl)
theorem esPart_fit (l : List GPart) : fitCs (esPart l) = true := fitCs_flat (fun _ => rfl)
theorem esPart_get_Name (l : List GPart) (k : Nat) (h : k < l.length) : (esPart l)[k * 3]? = some (S l[k].Name) := by have := flat_get (enc := ePart) (sz := 3) (l := l) (fun _ _ => rfl) (k := k) (j := 0) h (by decide); exact this
theorem esPart_set_Name (l : List GPart) (k : Nat) (v : ByteArray) (h : k < l.length) : (esPart l).set (k * 3) (S v) = esPart (l.set k { l[k] with Name := v }) := by have := flat_set (enc := ePart) (sz := 3) (l := l) (x := { l[k] with Name := v }) (fun _ _ => rfl) rfl (k := k) h 0 (by decide) (S v) rfl; exact this
theorem esPart_get_Value (l : List GPart) (k : Nat) (h : k < l.length) : (esPart l)[k * 3 + 1]? = some (I l[k].Value) := by have := flat_get (enc := ePart) (sz := 3) (l := l) (fun _ _ => rfl) (k := k) (j := 1) h (by decide); exact this
theorem esPart_set_Value (l : List GPart) (k : Nat) (v : Int) (h : k < l.length) : (esPart l).set (k * 3 + 1) (I v) = esPart (l.set k { l[k] with Value := v }) := by have := flat_set (enc := ePart) (sz := 3) (l := l) (x := { l[k] with Value := v }) (fun _ _ => rfl) rfl (k := k) h 1 (by decide) (I v) rfl; exact this
theorem esPart_get_Tick (l : List GPart) (k : Nat) (h : k < l.length) : (esPart l)[k * 3 + 2]? = some (I l[k].Tick) := by have := flat_get (enc := ePart) (sz := 3) (l := l) (fun _ _ => rfl) (k := k) (j := 2) h (by decide); exact this
theorem esPart_set_Tick (l : List GPart) (k : Nat) (v : Int) (h : k < l.length) : (esPart l).set (k * 3 + 2) (I v) = esPart (l.set k { l[k] with Tick := v }) := by have := flat_set (enc := ePart) (sz := 3) (l := l) (x := { l[k] with Tick := v }) (fun _ _ => rfl) rfl (k := k) h 2 (by decide) (I v) rfl; exact this
theorem esPart_share (l : List GPart) : AV.shares (esPart l) = esPart l := shares_flat (fun x => by simp [ePart, AV.shares, AV.share])
theorem esPart_pure (l : List GPart) : pureVs (esPart l) = true := pureVs_flat (fun x => by simp [ePart, pureVs, pureV])
theorem esPart_free (l : List GPart) : AV.noRefs (esPart l) = true := noRefs_flat (fun x => by simp [ePart, AV.noRefs, AV.noRef])
structure GEntity where
  Id : Int
  Parts : List GPart
  deriving DecidableEq, Inhabited
def eEntity (x : GEntity) : List AV := [I x.Id, .row false 3 x.Parts.length (esPart x.Parts)]
theorem eEntity_eq (x : GEntity) : eEntity x = [I x.Id, .row false 3 x.Parts.length (esPart x.Parts)] := rfl
def esEntity (l : List GEntity) : List AV := l.flatMap eEntity
theorem esEntity_len (l : List GEntity) : (esEntity l).length = l.length * 2 := flat_len (fun _ _ => rfl)
theorem esEntity_nil : esEntity [] = [] := rfl
theorem esEntity_cons (x : GEntity) (l : List GEntity) : esEntity (x :: l) = eEntity x ++ esEntity l := rfl
theorem esEntity_app (l k : List GEntity) : esEntity (l ++ k) = esEntity l ++ esEntity k := by simp [esEntity]
theorem esEntity_dropk (l : List GEntity) (k : Nat) : (esEntity l).drop (k * 2) = esEntity (l.drop k) := flat_drop k (fun _ _ => rfl)
theorem esEntity_drop (l : List GEntity) (k : Nat) (h : k < l.length) : (esEntity l).drop (k * 2) = eEntity l[k] ++ esEntity (l.drop (k + 1)) := by rw [esEntity_dropk, List.drop_eq_getElem_cons h]; rfl
theorem esEntity_takek (l : List GEntity) (k : Nat) : (esEntity l).take (k * 2) = esEntity (l.take k) := flat_take k (fun _ _ => rfl)
theorem esEntity_setL (l : List GEntity) (k : Nat) (x : GEntity) (h : k < l.length) : Av.setL (esEntity l) (k * 2) (eEntity x) = esEntity (l.set k x) := setL_flat x (fun _ _ => rfl) rfl h
theorem esEntity_leaf (l : List GEntity) : leafCs (esEntity l) = true := leafCs_flat (fun _ => rfl)
theorem esEntity_fit (l : List GEntity) : fitCs (esEntity l) = true := fitCs_flat (fun _ => rfl)
theorem esEntity_get_Id (l : List GEntity) (k : Nat) (h : k < l.length) : (esEntity l)[k * 2]? = some (I l[k].Id) := by have := flat_get (enc := eEntity) (sz := 2) (l := l) (fun _ _ => rfl) (k := k) (j := 0) h (by decide); exact this
theorem esEntity_set_Id (l : List GEntity) (k : Nat) (v : Int) (h : k < l.length) : (esEntity l).set (k * 2) (I v) = esEntity (l.set k { l[k] with Id := v }) := by have := flat_set (enc := eEntity) (sz := 2) (l := l) (x := { l[k] with Id := v }) (fun _ _ => rfl) rfl (k := k) h 0 (by decide) (I v) rfl; exact this
theorem esEntity_get_Parts (l : List GEntity) (k : Nat) (h : k < l.length) : (esEntity l)[k * 2 + 1]? = some (.row false 3 l[k].Parts.length (esPart l[k].Parts)) := by have := flat_get (enc := eEntity) (sz := 2) (l := l) (fun _ _ => rfl) (k := k) (j := 1) h (by decide); exact this
theorem esEntity_set_Parts (l : List GEntity) (k : Nat) (v : List GPart) (h : k < l.length) : (esEntity l).set (k * 2 + 1) (.row false 3 v.length (esPart v)) = esEntity (l.set k { l[k] with Parts := v }) := by have := flat_set (enc := eEntity) (sz := 2) (l := l) (x := { l[k] with Parts := v }) (fun _ _ => rfl) rfl (k := k) h 1 (by decide) (.row false 3 v.length (esPart v)) rfl; exact this
theorem esEntity_share (l : List GEntity) : AV.shares (esEntity l) = esEntity l := shares_flat (fun x => by simp [eEntity, AV.shares, AV.share, esPart_share])
theorem esEntity_free (l : List GEntity) : AV.noRefs (esEntity l) = true := noRefs_flat (fun x => by simp [eEntity, AV.noRefs, AV.noRef])
def eEntityo (x : GEntity) : List AV := [I x.Id, .row true 3 x.Parts.length (esPart x.Parts)]
theorem eEntityo_eq (x : GEntity) : eEntityo x = [I x.Id, .row true 3 x.Parts.length (esPart x.Parts)] := rfl
def esEntityo (l : List GEntity) : List AV := l.flatMap eEntityo
theorem esEntityo_len (l : List GEntity) : (esEntityo l).length = l.length * 2 := flat_len (fun _ _ => rfl)
theorem esEntityo_nil : esEntityo [] = [] := rfl
theorem esEntityo_cons (x : GEntity) (l : List GEntity) : esEntityo (x :: l) = eEntityo x ++ esEntityo l := rfl
theorem esEntityo_app (l k : List GEntity) : esEntityo (l ++ k) = esEntityo l ++ esEntityo k := by simp [esEntityo]
theorem esEntityo_dropk (l : List GEntity) (k : Nat) : (esEntityo l).drop (k * 2) = esEntityo (l.drop k) := flat_drop k (fun _ _ => rfl)
theorem esEntityo_drop (l : List GEntity) (k : Nat) (h : k < l.length) : (esEntityo l).drop (k * 2) = eEntityo l[k] ++ esEntityo (l.drop (k + 1)) := by rw [esEntityo_dropk, List.drop_eq_getElem_cons h]; rfl
theorem esEntityo_takek (l : List GEntity) (k : Nat) : (esEntityo l).take (k * 2) = esEntityo (l.take k) := flat_take k (fun _ _ => rfl)
theorem esEntityo_setL (l : List GEntity) (k : Nat) (x : GEntity) (h : k < l.length) : Av.setL (esEntityo l) (k * 2) (eEntityo x) = esEntityo (l.set k x) := setL_flat x (fun _ _ => rfl) rfl h
theorem esEntityo_fit (l : List GEntity) : fitCs (esEntityo l) = true := fitCs_flat (fun _ => rfl)
theorem esEntityo_get_Id (l : List GEntity) (k : Nat) (h : k < l.length) : (esEntityo l)[k * 2]? = some (I l[k].Id) := by have := flat_get (enc := eEntityo) (sz := 2) (l := l) (fun _ _ => rfl) (k := k) (j := 0) h (by decide); exact this
theorem esEntityo_set_Id (l : List GEntity) (k : Nat) (v : Int) (h : k < l.length) : (esEntityo l).set (k * 2) (I v) = esEntityo (l.set k { l[k] with Id := v }) := by have := flat_set (enc := eEntityo) (sz := 2) (l := l) (x := { l[k] with Id := v }) (fun _ _ => rfl) rfl (k := k) h 0 (by decide) (I v) rfl; exact this
theorem esEntityo_get_Parts (l : List GEntity) (k : Nat) (h : k < l.length) : (esEntityo l)[k * 2 + 1]? = some (.row true 3 l[k].Parts.length (esPart l[k].Parts)) := by have := flat_get (enc := eEntityo) (sz := 2) (l := l) (fun _ _ => rfl) (k := k) (j := 1) h (by decide); exact this
theorem esEntityo_set_Parts (l : List GEntity) (k : Nat) (v : List GPart) (h : k < l.length) : (esEntityo l).set (k * 2 + 1) (.row true 3 v.length (esPart v)) = esEntityo (l.set k { l[k] with Parts := v }) := by have := flat_set (enc := eEntityo) (sz := 2) (l := l) (x := { l[k] with Parts := v }) (fun _ _ => rfl) rfl (k := k) h 1 (by decide) (.row true 3 v.length (esPart v)) rfl; exact this
theorem esEntityo_share (l : List GEntity) : AV.shares (esEntityo l) = esEntity l := shares_flat (fun x => by simp [eEntityo, eEntity, AV.shares, AV.share, esPart_share])
theorem esEntityo_pure (l : List GEntity) : pureVs (esEntityo l) = true := pureVs_flat (fun x => by simp [eEntityo, pureVs, pureV, esPart_pure])
structure GWorld where
  Next : Int
  Tick : Int
  Entities : List GEntity
  deriving DecidableEq, Inhabited
def eWorld (x : GWorld) : List AV := [I x.Next, I x.Tick, .row false 2 x.Entities.length (esEntity x.Entities)]
theorem eWorld_eq (x : GWorld) : eWorld x = [I x.Next, I x.Tick, .row false 2 x.Entities.length (esEntity x.Entities)] := rfl
def esWorld (l : List GWorld) : List AV := l.flatMap eWorld
theorem esWorld_len (l : List GWorld) : (esWorld l).length = l.length * 3 := flat_len (fun _ _ => rfl)
theorem esWorld_nil : esWorld [] = [] := rfl
theorem esWorld_cons (x : GWorld) (l : List GWorld) : esWorld (x :: l) = eWorld x ++ esWorld l := rfl
theorem esWorld_app (l k : List GWorld) : esWorld (l ++ k) = esWorld l ++ esWorld k := by simp [esWorld]
theorem esWorld_dropk (l : List GWorld) (k : Nat) : (esWorld l).drop (k * 3) = esWorld (l.drop k) := flat_drop k (fun _ _ => rfl)
theorem esWorld_drop (l : List GWorld) (k : Nat) (h : k < l.length) : (esWorld l).drop (k * 3) = eWorld l[k] ++ esWorld (l.drop (k + 1)) := by rw [esWorld_dropk, List.drop_eq_getElem_cons h]; rfl
theorem esWorld_takek (l : List GWorld) (k : Nat) : (esWorld l).take (k * 3) = esWorld (l.take k) := flat_take k (fun _ _ => rfl)
theorem esWorld_setL (l : List GWorld) (k : Nat) (x : GWorld) (h : k < l.length) : Av.setL (esWorld l) (k * 3) (eWorld x) = esWorld (l.set k x) := setL_flat x (fun _ _ => rfl) rfl h
theorem esWorld_leaf (l : List GWorld) : leafCs (esWorld l) = true := leafCs_flat (fun _ => rfl)
theorem esWorld_fit (l : List GWorld) : fitCs (esWorld l) = true := fitCs_flat (fun _ => rfl)
theorem esWorld_get_Next (l : List GWorld) (k : Nat) (h : k < l.length) : (esWorld l)[k * 3]? = some (I l[k].Next) := by have := flat_get (enc := eWorld) (sz := 3) (l := l) (fun _ _ => rfl) (k := k) (j := 0) h (by decide); exact this
theorem esWorld_set_Next (l : List GWorld) (k : Nat) (v : Int) (h : k < l.length) : (esWorld l).set (k * 3) (I v) = esWorld (l.set k { l[k] with Next := v }) := by have := flat_set (enc := eWorld) (sz := 3) (l := l) (x := { l[k] with Next := v }) (fun _ _ => rfl) rfl (k := k) h 0 (by decide) (I v) rfl; exact this
theorem esWorld_get_Tick (l : List GWorld) (k : Nat) (h : k < l.length) : (esWorld l)[k * 3 + 1]? = some (I l[k].Tick) := by have := flat_get (enc := eWorld) (sz := 3) (l := l) (fun _ _ => rfl) (k := k) (j := 1) h (by decide); exact this
theorem esWorld_set_Tick (l : List GWorld) (k : Nat) (v : Int) (h : k < l.length) : (esWorld l).set (k * 3 + 1) (I v) = esWorld (l.set k { l[k] with Tick := v }) := by have := flat_set (enc := eWorld) (sz := 3) (l := l) (x := { l[k] with Tick := v }) (fun _ _ => rfl) rfl (k := k) h 1 (by decide) (I v) rfl; exact this
theorem esWorld_get_Entities (l : List GWorld) (k : Nat) (h : k < l.length) : (esWorld l)[k * 3 + 2]? = some (.row false 2 l[k].Entities.length (esEntity l[k].Entities)) := by have := flat_get (enc := eWorld) (sz := 3) (l := l) (fun _ _ => rfl) (k := k) (j := 2) h (by decide); exact this
theorem esWorld_set_Entities (l : List GWorld) (k : Nat) (v : List GEntity) (h : k < l.length) : (esWorld l).set (k * 3 + 2) (.row false 2 v.length (esEntity v)) = esWorld (l.set k { l[k] with Entities := v }) := by have := flat_set (enc := eWorld) (sz := 3) (l := l) (x := { l[k] with Entities := v }) (fun _ _ => rfl) rfl (k := k) h 2 (by decide) (.row false 2 v.length (esEntity v)) rfl; exact this
theorem esWorld_share (l : List GWorld) : AV.shares (esWorld l) = esWorld l := shares_flat (fun x => by simp [eWorld, AV.shares, AV.share, esEntity_share])
theorem esWorld_free (l : List GWorld) : AV.noRefs (esWorld l) = true := noRefs_flat (fun x => by simp [eWorld, AV.noRefs, AV.noRef])
def eWorldo (x : GWorld) : List AV := [I x.Next, I x.Tick, .row true 2 x.Entities.length (esEntityo x.Entities)]
theorem eWorldo_eq (x : GWorld) : eWorldo x = [I x.Next, I x.Tick, .row true 2 x.Entities.length (esEntityo x.Entities)] := rfl
def esWorldo (l : List GWorld) : List AV := l.flatMap eWorldo
theorem esWorldo_len (l : List GWorld) : (esWorldo l).length = l.length * 3 := flat_len (fun _ _ => rfl)
theorem esWorldo_nil : esWorldo [] = [] := rfl
theorem esWorldo_cons (x : GWorld) (l : List GWorld) : esWorldo (x :: l) = eWorldo x ++ esWorldo l := rfl
theorem esWorldo_app (l k : List GWorld) : esWorldo (l ++ k) = esWorldo l ++ esWorldo k := by simp [esWorldo]
theorem esWorldo_dropk (l : List GWorld) (k : Nat) : (esWorldo l).drop (k * 3) = esWorldo (l.drop k) := flat_drop k (fun _ _ => rfl)
theorem esWorldo_drop (l : List GWorld) (k : Nat) (h : k < l.length) : (esWorldo l).drop (k * 3) = eWorldo l[k] ++ esWorldo (l.drop (k + 1)) := by rw [esWorldo_dropk, List.drop_eq_getElem_cons h]; rfl
theorem esWorldo_takek (l : List GWorld) (k : Nat) : (esWorldo l).take (k * 3) = esWorldo (l.take k) := flat_take k (fun _ _ => rfl)
theorem esWorldo_setL (l : List GWorld) (k : Nat) (x : GWorld) (h : k < l.length) : Av.setL (esWorldo l) (k * 3) (eWorldo x) = esWorldo (l.set k x) := setL_flat x (fun _ _ => rfl) rfl h
theorem esWorldo_fit (l : List GWorld) : fitCs (esWorldo l) = true := fitCs_flat (fun _ => rfl)
theorem esWorldo_get_Next (l : List GWorld) (k : Nat) (h : k < l.length) : (esWorldo l)[k * 3]? = some (I l[k].Next) := by have := flat_get (enc := eWorldo) (sz := 3) (l := l) (fun _ _ => rfl) (k := k) (j := 0) h (by decide); exact this
theorem esWorldo_set_Next (l : List GWorld) (k : Nat) (v : Int) (h : k < l.length) : (esWorldo l).set (k * 3) (I v) = esWorldo (l.set k { l[k] with Next := v }) := by have := flat_set (enc := eWorldo) (sz := 3) (l := l) (x := { l[k] with Next := v }) (fun _ _ => rfl) rfl (k := k) h 0 (by decide) (I v) rfl; exact this
theorem esWorldo_get_Tick (l : List GWorld) (k : Nat) (h : k < l.length) : (esWorldo l)[k * 3 + 1]? = some (I l[k].Tick) := by have := flat_get (enc := eWorldo) (sz := 3) (l := l) (fun _ _ => rfl) (k := k) (j := 1) h (by decide); exact this
theorem esWorldo_set_Tick (l : List GWorld) (k : Nat) (v : Int) (h : k < l.length) : (esWorldo l).set (k * 3 + 1) (I v) = esWorldo (l.set k { l[k] with Tick := v }) := by have := flat_set (enc := eWorldo) (sz := 3) (l := l) (x := { l[k] with Tick := v }) (fun _ _ => rfl) rfl (k := k) h 1 (by decide) (I v) rfl; exact this
theorem esWorldo_get_Entities (l : List GWorld) (k : Nat) (h : k < l.length) : (esWorldo l)[k * 3 + 2]? = some (.row true 2 l[k].Entities.length (esEntityo l[k].Entities)) := by have := flat_get (enc := eWorldo) (sz := 3) (l := l) (fun _ _ => rfl) (k := k) (j := 2) h (by decide); exact this
theorem esWorldo_set_Entities (l : List GWorld) (k : Nat) (v : List GEntity) (h : k < l.length) : (esWorldo l).set (k * 3 + 2) (.row true 2 v.length (esEntityo v)) = esWorldo (l.set k { l[k] with Entities := v }) := by have := flat_set (enc := eWorldo) (sz := 3) (l := l) (x := { l[k] with Entities := v }) (fun _ _ => rfl) rfl (k := k) h 2 (by decide) (.row true 2 v.length (esEntityo v)) rfl; exact this
theorem esWorldo_share (l : List GWorld) : AV.shares (esWorldo l) = esWorld l := shares_flat (fun x => by simp [eWorldo, eWorld, AV.shares, AV.share, esEntityo_share])
theorem esWorldo_pure (l : List GWorld) : pureVs (esWorldo l) = true := pureVs_flat (fun x => by simp [eWorldo, pureVs, pureV, esEntityo_pure])
end Go.Av
