/-
  Pure twins of the Go functions, written by program.
-/
import Derived.Test.YtfdiabglpgkbeaaPure
namespace Go.Proofs.Ytfdiabglpgkbeaa
namespace V
structure T_api_Channel where
  Local : Int
  Remote : Int
  PSM : Int
  MTU : Int
  MPS : Int
  PeerMTU : Int
  PeerMPS : Int
  TxCredits : Int
  RxCredits : Int
  Given : Int
  Out : (List (List Int))
  Sent : Int
  In : (List Int)
  Want : Int
  Failed : Bool

def wirelessref33_isCID (F : Nat) (n_1 : Int) : Option (Bool) :=
  some ((decide (n_1 ≥ 64)) && (decide (n_1 ≤ 127)))

def wirelessref33_isSize (F : Nat) (n_1 : Int) : Option (Bool) :=
  some ((decide (n_1 ≥ 23)) && (decide (n_1 ≤ 4096)))

def wirelessref33_isCount (F : Nat) (n_1 : Int) : Option (Bool) :=
  some ((decide (n_1 ≥ 0)) && (decide (n_1 ≤ 65535)))

def sdu_in (F : Nat) (n_1 : Int) (low_2 : Int) (high_3 : Int) : Option (Bool) :=
  some ((decide (n_1 ≥ low_2)) && (decide (n_1 ≤ high_3)))

def octets_Join_j1 (F : Nat) (l_5 : (List Int)) : Option ((List Int)) :=
  some l_5

def octets_Join_l16 (F : Nat) (parts_1 : (List (List Int))) (l_10 : (List Int)) (x_15 : Int) : Option (Out ((List Int) × Int) ((List Int))) :=
  if (decide (x_15 < (len parts_1))) = true then
    (idx parts_1 x_15).bind fun x_17 =>
    (app 1 l_10 x_17).bind fun l_24 =>
    some (.next (l_24, w64 (x_15 + 1)))
  else
    some (.done (l_10))

def octets_Join (F : Nat) (parts_1 : (List (List Int))) : Option ((List Int)) :=
  (iter (fun s => octets_Join_l16 F parts_1 s.1 s.2) F ([], 0)).bind fun o =>
  octets_Join_j1 F o

def wirelessref23_Same (F : Nat) (a_1 : (List Int)) (b_5 : (List Int)) : Option (Bool) :=
  some ((str a_1) == (str b_5))

def wirelessref23_Put_j1 (F : Nat) (l_3 : (List Int)) : Option ((List Int)) :=
  some l_3

def wirelessref23_Put_l15 (F : Nat) (size_2 : Int) (x_8 : Int) (l_9 : (List Int)) (x_14 : Int) : Option (Out (Int × (List Int) × Int) ((List Int))) :=
  if (decide (x_14 < size_2)) = true then
    (irem x_8 256).bind fun x_16 =>
    (app 1 l_9 [wu8 x_16]).bind fun l_21 =>
    (iquo .u64 x_8 256).bind fun x_26 =>
    some (.next (x_26, l_21, w64 (x_14 + 1)))
  else
    some (.done (l_9))

def wirelessref23_Put (F : Nat) (n_1 : Int) (size_2 : Int) : Option ((List Int)) :=
  (iter (fun s => wirelessref23_Put_l15 F size_2 s.1 s.2.1 s.2.2) F (n_1, [], 0)).bind fun o =>
  wirelessref23_Put_j1 F o

def wirelessref33_SameLists_j1 (F : Nat) : Option (Bool) :=
  some true

def wirelessref33_SameLists_j2 (F : Nat) (x_9 : Int) (z_11 : Bool) : Option (Out (Int) (Sum (Unit) (Bool))) :=
  if z_11 = true then
    some (.done (.inr false))
  else
    some (.next (w64 (x_9 + 1)))

def wirelessref33_SameLists_l10 (F : Nat) (a_1 : (List (List Int))) (b_5 : (List (List Int))) (x_9 : Int) : Option (Out (Int) (Sum (Unit) (Bool))) :=
  if (decide (x_9 < (len a_1))) = true then
    (idx a_1 x_9).bind fun x_12 =>
    (idx b_5 x_9).bind fun x_20 =>
    (wirelessref23_Same F x_12 x_20).bind fun x_28 =>
    wirelessref33_SameLists_j2 F x_9 (!x_28)
  else
    some (.done (.inl ()))

def wirelessref33_SameLists (F : Nat) (a_1 : (List (List Int))) (b_5 : (List (List Int))) : Option (Bool) :=
  if ((len a_1) != (len b_5)) = true then
    some false
  else
    (iter (fun s => wirelessref33_SameLists_l10 F a_1 b_5 s) F (0)).bind fun o =>
    match o with
    | .inl u => wirelessref33_SameLists_j1 F
    | .inr u => some u

def wirelessref33_SameChannel (F : Nat) (a_1 : T_api_Channel) (b_8 : T_api_Channel) : Option (Bool) :=
  if (((((((a_1.Local != b_8.Local) || (a_1.Remote != b_8.Remote)) || (a_1.PSM != b_8.PSM)) || (a_1.MTU != b_8.MTU)) || (a_1.MPS != b_8.MPS)) || (a_1.PeerMTU != b_8.PeerMTU)) || (a_1.PeerMPS != b_8.PeerMPS)) = true then
    some false
  else
    if ((((((a_1.TxCredits != b_8.TxCredits) || (a_1.RxCredits != b_8.RxCredits)) || (a_1.Given != b_8.Given)) || (a_1.Sent != b_8.Sent)) || (a_1.Want != b_8.Want)) || (a_1.Failed != b_8.Failed)) = true then
      some false
    else
      (wirelessref33_SameLists F a_1.Out b_8.Out).bind fun x_28 =>
      (if x_28 = true then
        (wirelessref23_Same F a_1.In b_8.In).bind fun x_32 =>
        some (x_32)
      else
        some (false)).bind fun z_30 =>
      some z_30

def sdu_copied_j1 (F : Nat) (c_1 : T_api_Channel) (l_10 : (List (List Int))) : Option (T_api_Channel) :=
  (octets_Join F [c_1.In]).bind fun x_20 =>
  some ({ c_1 with Out := l_10, In := x_20 })

def sdu_copied_l30 (F : Nat) (c_1 : T_api_Channel) (l_24 : (List (List Int))) (x_29 : Int) : Option (Out ((List (List Int)) × Int) ((List (List Int)))) :=
  if (decide (x_29 < (len c_1.Out))) = true then
    (idx c_1.Out x_29).bind fun x_31 =>
    (mk 1 0 (len x_31)).bind fun l_38 =>
    (app 24 l_24 [cpy l_38 x_31]).bind fun l_49 =>
    some (.next (l_49, w64 (x_29 + 1)))
  else
    some (.done (l_24))

def sdu_copied (F : Nat) (c_1 : T_api_Channel) : Option (T_api_Channel) :=
  (iter (fun s => sdu_copied_l30 F c_1 s.1 s.2) F ([], 0)).bind fun o =>
  sdu_copied_j1 F c_1 o

def sdu_Queue_j1 (F : Nat) (x_14 : T_api_Channel) (l_22 : (List (List Int))) : Option (T_api_Channel × Int) :=
  some ({ x_14 with Out := l_22 }, 0)

def sdu_Queue (F : Nat) (c_1 : T_api_Channel) (sdu_8 : (List Int)) : Option (T_api_Channel × Int) :=
  (sdu_copied F c_1).bind fun x_14 =>
  if x_14.Failed = true then
    some (x_14, 9)
  else
    if (decide ((len sdu_8) > x_14.PeerMTU)) = true then
      some (x_14, 4)
    else
      if (decide ((len x_14.Out) ≥ 64)) = true then
        some (x_14, 8)
      else
        (octets_Join F [sdu_8]).bind fun x_32 =>
        (app 24 x_14.Out [x_32]).bind fun l_40 =>
        sdu_Queue_j1 F x_14 l_40

def wirelessref33_Queue (F : Nat) (c_1 : T_api_Channel) (sdu_8 : (List Int)) : Option (T_api_Channel × Int) :=
  if c_1.Failed = true then
    some (c_1, 9)
  else
    if (decide ((len sdu_8) > c_1.PeerMTU)) = true then
      some (c_1, 4)
    else
      if (decide ((len c_1.Out) ≥ 64)) = true then
        some (c_1, 8)
      else
        (app 24 ([] : (List (List Int))) c_1.Out).bind fun l_18 =>
        (app 1 ([] : (List Int)) sdu_8).bind fun l_27 =>
        (app 24 l_18 [l_27]).bind fun l_37 =>
        some ({ c_1 with Out := l_37 }, 0)

def sdu_taken_j1 (F : Nat) (c_1 : T_api_Channel) (b_8 : (List Int)) : Option ((List Int) × Int × Int) :=
  some (b_8, c_1.Want, 0)

def sdu_taken_j2 (F : Nat) (c_1 : T_api_Channel) (b_8 : (List Int)) (x_13 : Int) : Option ((List Int) × Int × Int) :=
  if ((decide (x_13 > c_1.MTU)) || (decide (x_13 < (w64 ((len b_8) - 2))))) = true then
    some ([], 0, 4)
  else
    (sub b_8 2 (len b_8)).bind fun l_15 =>
    some (l_15, x_13, 0)

def sdu_taken (F : Nat) (c_1 : T_api_Channel) (b_8 : (List Int)) : Option ((List Int) × Int × Int) :=
  if (decide (c_1.RxCredits ≤ 0)) = true then
    some ([], 0, 19)
  else
    if (decide ((len b_8) > c_1.MPS)) = true then
      some ([], 0, 4)
    else
      if (c_1.Want != (-1)) = true then
        if ((len b_8) == 0) = true then
          some ([], 0, 3)
        else
          if (decide ((w64 ((len c_1.In) + (len b_8))) > c_1.Want)) = true then
            some ([], 0, 4)
          else
            sdu_taken_j1 F c_1 b_8
      else
        if (decide ((len b_8) < 2)) = true then
          some ([], 0, 3)
        else
          (idx b_8 0).bind fun x_19 =>
          (idx b_8 1).bind fun x_24 =>
          (ishl .i64 (w64 x_24) 8).bind fun x_30 =>
          sdu_taken_j2 F c_1 b_8 (ior .i64 (w64 x_19) x_30)

def sdu_Input (F : Nat) (c_1 : T_api_Channel) (b_8 : (List Int)) : Option (T_api_Channel × (List (List Int)) × Int) :=
  (sdu_copied F c_1).bind fun x_14 =>
  if x_14.Failed = true then
    some (x_14, [], 9)
  else
    (sdu_taken F x_14 b_8).bind fun x_23 =>
    if (x_23.2.2 != 0) = true then
      some ({ x_14 with Failed := true }, [], x_23.2.2)
    else
      (octets_Join F [x_14.In, x_23.1]).bind fun x_32 =>
      if (decide ((len x_32) < x_23.2.1)) = true then
        some ({ x_14 with RxCredits := w64 (x_14.RxCredits - 1), In := x_32, Want := x_23.2.1 }, [], 0)
      else
        some ({ x_14 with RxCredits := w64 (x_14.RxCredits - 1), In := [], Want := (-1) }, [x_32], 0)

def wirelessref23_Num_j1 (F : Nat) (x_7 : Int) : Option (Int) :=
  some x_7

def wirelessref23_Num_l10 (F : Nat) (b_1 : (List Int)) (at_5 : Int) (x_8 : Int) (x_9 : Int) : Option (Out (Int × Int) (Int)) :=
  if (decide (x_9 ≥ 0)) = true then
    (idx b_1 (w64 (at_5 + x_9))).bind fun x_11 =>
    some (.next (wu64 ((wu64 (x_8 * 256)) + (wu64 x_11)), w64 (x_9 - 1)))
  else
    some (.done (x_8))

def wirelessref23_Num (F : Nat) (b_1 : (List Int)) (at_5 : Int) (size_6 : Int) : Option (Int) :=
  (iter (fun s => wirelessref23_Num_l10 F b_1 at_5 s.1 s.2) F (0, w64 (size_6 - 1))).bind fun o =>
  wirelessref23_Num_j1 F o

def wirelessref33_fault (F : Nat) (c_1 : T_api_Channel) (b_8 : (List Int)) : Option (Int) :=
  if (c_1.RxCredits == 0) = true then
    some 19
  else
    if (decide ((len b_8) > c_1.MPS)) = true then
      some 4
    else
      if (c_1.Want == (-1)) = true then
        if (decide ((len b_8) < 2)) = true then
          some 3
        else
          (wirelessref23_Num F b_8 0 2).bind fun x_13 =>
          if ((decide ((w64 x_13) > c_1.MTU)) || (decide ((w64 ((len b_8) - 2)) > (w64 x_13)))) = true then
            some 4
          else
            some 0
      else
        if ((len b_8) == 0) = true then
          some 3
        else
          if (decide ((w64 ((len c_1.In) + (len b_8))) > c_1.Want)) = true then
            some 4
          else
            some 0

def wirelessref33_Input_j1 (F : Nat) (c_1 : T_api_Channel) (l_15 : (List Int)) (x_19 : Int) : Option (T_api_Channel × (List (List Int)) × Int) :=
  (app 1 ([] : (List Int)) c_1.In).bind fun l_24 =>
  (app 1 l_24 l_15).bind fun l_29 =>
  if (decide ((len l_29) < x_19)) = true then
    some ({ c_1 with RxCredits := w64 (c_1.RxCredits - 1), In := l_29, Want := x_19 }, [], 0)
  else
    some ({ c_1 with RxCredits := w64 (c_1.RxCredits - 1), In := [], Want := (-1) }, [l_29], 0)

def wirelessref33_Input (F : Nat) (c_1 : T_api_Channel) (b_8 : (List Int)) : Option (T_api_Channel × (List (List Int)) × Int) :=
  if c_1.Failed = true then
    some (c_1, [], 9)
  else
    (wirelessref33_fault F c_1 b_8).bind fun x_14 =>
    if (x_14 != 0) = true then
      some ({ c_1 with Failed := true }, [], x_14)
    else
      if (c_1.Want == (-1)) = true then
        (wirelessref23_Num F b_8 0 2).bind fun x_39 =>
        (sub b_8 2 (len b_8)).bind fun l_40 =>
        wirelessref33_Input_j1 F c_1 l_40 (w64 x_39)
      else
        wirelessref33_Input_j1 F c_1 b_8 c_1.Want

def sdu_more (F : Nat) (credits_1 : Int) (n_2 : Int) : Option (Int) :=
  if (decide (n_2 < 1)) = true then
    some 5
  else
    if (decide (n_2 > (w64 (65535 - credits_1)))) = true then
      some 19
    else
      some 0

def sdu_Grant_j1 (F : Nat) (x_11 : T_api_Channel) (x_19 : Int) (x_20 : Int) : Option (T_api_Channel × Int) :=
  some ({ x_11 with RxCredits := x_20 }, x_19)

def sdu_Grant (F : Nat) (c_1 : T_api_Channel) (n_8 : Int) : Option (T_api_Channel × Int) :=
  (sdu_copied F c_1).bind fun x_11 =>
  if x_11.Failed = true then
    some (x_11, 9)
  else
    (sdu_more F x_11.RxCredits n_8).bind fun x_19 =>
    if (x_19 == 0) = true then
      sdu_Grant_j1 F x_11 x_19 (w64 (x_11.RxCredits + n_8))
    else
      sdu_Grant_j1 F x_11 x_19 x_11.RxCredits

def sdu_Credit_j1 (F : Nat) (x_11 : T_api_Channel) (x_19 : Int) (c_22 : T_api_Channel) : Option (T_api_Channel × Int) :=
  some ({ x_11 with TxCredits := c_22.TxCredits, Failed := c_22.Failed }, x_19)

def sdu_Credit (F : Nat) (c_1 : T_api_Channel) (n_8 : Int) : Option (T_api_Channel × Int) :=
  (sdu_copied F c_1).bind fun x_11 =>
  if x_11.Failed = true then
    some (x_11, 9)
  else
    (sdu_more F x_11.TxCredits n_8).bind fun x_19 =>
    if (x_19 == 0) = true then
      sdu_Credit_j1 F x_11 x_19 ({ x_11 with TxCredits := w64 (x_11.TxCredits + n_8) })
    else
      sdu_Credit_j1 F x_11 x_19 ({ x_11 with Failed := true })

def wirelessref33_Grant (F : Nat) (c_1 : T_api_Channel) (n_8 : Int) : Option (T_api_Channel × Int) :=
  if c_1.Failed = true then
    some (c_1, 9)
  else
    if (decide (n_8 < 1)) = true then
      some (c_1, 5)
    else
      if (decide (n_8 > (w64 (65535 - c_1.RxCredits)))) = true then
        some (c_1, 19)
      else
        some ({ c_1 with RxCredits := w64 (c_1.RxCredits + n_8) }, 0)

def wirelessref33_Credit (F : Nat) (c_1 : T_api_Channel) (n_8 : Int) : Option (T_api_Channel × Int) :=
  if c_1.Failed = true then
    some (c_1, 9)
  else
    if ((decide (n_8 < 1)) || (decide (n_8 > (w64 (65535 - c_1.TxCredits))))) = true then
      if (decide (n_8 < 1)) = true then
        some ({ c_1 with Failed := true }, 5)
      else
        some ({ c_1 with Failed := true }, 19)
    else
      some ({ c_1 with TxCredits := w64 (c_1.TxCredits + n_8) }, 0)

def sdu_positions_j1 (F : Nat) (c_1 : T_api_Channel) (x_9 : Int) : Option (Int) :=
  (sdu_in F c_1.Sent 0 x_9).bind fun x_10 =>
  (if (!x_10) = true then
    some (true)
  else
    (sdu_in F c_1.Want (-1) c_1.MTU).bind fun x_18 =>
    some ((!x_18))).bind fun z_12 =>
  if ((z_12 || ((c_1.Want == (-1)) && (decide ((len c_1.In) > 0)))) || ((c_1.Want != (-1)) && (decide ((len c_1.In) ≥ c_1.Want)))) = true then
    some 1
  else
    some 0

def sdu_positions (F : Nat) (c_1 : T_api_Channel) : Option (Int) :=
  if (decide ((len c_1.Out) > 0)) = true then
    (idx c_1.Out 0).bind fun x_19 =>
    sdu_positions_j1 F c_1 (w64 (1 + (len x_19)))
  else
    sdu_positions_j1 F c_1 0

def sdu_Check_j2 (F : Nat) (c_1 : T_api_Channel) : Option (Int) :=
  (sdu_positions F c_1).bind fun x_17 =>
  some x_17

def sdu_Check_l19 (F : Nat) (c_1 : T_api_Channel) (x_18 : Int) : Option (Out (Int) (Sum (Unit) (Int))) :=
  if (decide (x_18 < (len c_1.Out))) = true then
    (idx c_1.Out x_18).bind fun x_20 =>
    if (decide ((len x_20) > c_1.PeerMTU)) = true then
      some (.done (.inr 4))
    else
      some (.next (w64 (x_18 + 1)))
  else
    some (.done (.inl ()))

def sdu_Check_j1 (F : Nat) (c_1 : T_api_Channel) : Option (Int) :=
  (sdu_in F c_1.TxCredits 0 65535).bind fun x_12 =>
  (if (!x_12) = true then
    some (true)
  else
    (sdu_in F c_1.RxCredits 0 65535).bind fun x_30 =>
    some ((!x_30))).bind fun z_14 =>
  (if z_14 = true then
    some (true)
  else
    (sdu_in F c_1.Given 0 65535).bind fun x_28 =>
    some ((!x_28))).bind fun z_16 =>
  if z_16 = true then
    some 5
  else
    if (decide ((len c_1.Out) > 64)) = true then
      some 4
    else
      (iter (fun s => sdu_Check_l19 F c_1 s) F (0)).bind fun o =>
      match o with
      | .inl u => sdu_Check_j2 F c_1
      | .inr u => some u

def sdu_Check_l32 (F : Nat) (c_1 : T_api_Channel) (x_31 : Int) : Option (Out (Int) (Sum (Unit) (Int))) :=
  if (decide (x_31 < 4)) = true then
    (idx [c_1.MTU, c_1.MPS, c_1.PeerMTU, c_1.PeerMPS] x_31).bind fun x_33 =>
    (sdu_in F x_33 23 4096).bind fun x_34 =>
    if (!x_34) = true then
      some (.done (.inr 5))
    else
      some (.next (w64 (x_31 + 1)))
  else
    some (.done (.inl ()))

def sdu_Check (F : Nat) (c_1 : T_api_Channel) : Option (Int) :=
  if ((((decide (c_1.Local < 64)) || (decide (c_1.Local > 127))) || (decide (c_1.Remote < 64))) || (decide (c_1.Remote > 127))) = true then
    some 5
  else
    if (c_1.PSM == 0) = true then
      some 1
    else
      (iter (fun s => sdu_Check_l32 F c_1 s) F (0)).bind fun o =>
      match o with
      | .inl u => sdu_Check_j1 F c_1
      | .inr u => some u

def wirelessref33_Check_j2 (F : Nat) (c_1 : T_api_Channel) (x_25 : Int) : Option (Int) :=
  if ((((decide (c_1.Sent < 0)) || (decide (c_1.Sent > x_25))) || (decide (c_1.Want < (-1)))) || (decide (c_1.Want > c_1.MTU))) = true then
    some 1
  else
    if (((c_1.Want == (-1)) && (decide ((len c_1.In) > 0))) || ((decide (c_1.Want ≥ 0)) && (decide ((len c_1.In) ≥ c_1.Want)))) = true then
      some 1
    else
      some 0

def wirelessref33_Check_j1 (F : Nat) (c_1 : T_api_Channel) : Option (Int) :=
  if (decide ((len c_1.Out) > 0)) = true then
    (idx c_1.Out 0).bind fun x_32 =>
    wirelessref33_Check_j2 F c_1 (w64 (1 + (len x_32)))
  else
    wirelessref33_Check_j2 F c_1 0

def wirelessref33_Check_j3 (F : Nat) (x_39 : Int) (z_41 : Bool) : Option (Out (Int) (Sum (Unit) (Int))) :=
  if z_41 = true then
    some (.done (.inr 4))
  else
    some (.next (w64 (x_39 + 1)))

def wirelessref33_Check_l40 (F : Nat) (c_1 : T_api_Channel) (x_39 : Int) : Option (Out (Int) (Sum (Unit) (Int))) :=
  if (decide (x_39 < (len c_1.Out))) = true then
    (idx c_1.Out x_39).bind fun x_42 =>
    wirelessref33_Check_j3 F x_39 (decide ((len x_42) > c_1.PeerMTU))
  else
    some (.done (.inl ()))

def wirelessref33_Check (F : Nat) (c_1 : T_api_Channel) : Option (Int) :=
  (wirelessref33_isCID F c_1.Local).bind fun x_9 =>
  (if (!x_9) = true then
    some (true)
  else
    (wirelessref33_isCID F c_1.Remote).bind fun x_63 =>
    some ((!x_63))).bind fun z_11 =>
  if z_11 = true then
    some 5
  else
    if (c_1.PSM == 0) = true then
      some 1
    else
      (wirelessref33_isSize F c_1.MTU).bind fun x_12 =>
      (if (!x_12) = true then
        some (true)
      else
        (wirelessref33_isSize F c_1.MPS).bind fun x_61 =>
        some ((!x_61))).bind fun z_14 =>
      (if z_14 = true then
        some (true)
      else
        (wirelessref33_isSize F c_1.PeerMTU).bind fun x_59 =>
        some ((!x_59))).bind fun z_16 =>
      (if z_16 = true then
        some (true)
      else
        (wirelessref33_isSize F c_1.PeerMPS).bind fun x_57 =>
        some ((!x_57))).bind fun z_18 =>
      (if z_18 = true then
        some (true)
      else
        (wirelessref33_isCount F c_1.TxCredits).bind fun x_55 =>
        some ((!x_55))).bind fun z_20 =>
      (if z_20 = true then
        some (true)
      else
        (wirelessref33_isCount F c_1.RxCredits).bind fun x_53 =>
        some ((!x_53))).bind fun z_22 =>
      (if z_22 = true then
        some (true)
      else
        (wirelessref33_isCount F c_1.Given).bind fun x_51 =>
        some ((!x_51))).bind fun z_24 =>
      if z_24 = true then
        some 5
      else
        if (decide ((len c_1.Out) > 64)) = true then
          some 4
        else
          (iter (fun s => wirelessref33_Check_l40 F c_1 s) F (0)).bind fun o =>
          match o with
          | .inl u => wirelessref33_Check_j1 F c_1
          | .inr u => some u

def wirelesslaw33_light_j1 (F : Nat) (c_1 : T_api_Channel) (x_9 : Int) : Option (Bool) :=
  some ((decide ((len c_1.Out) ≤ 100)) && (decide (x_9 ≤ 65536)))

def wirelesslaw33_light_l13 (F : Nat) (c_1 : T_api_Channel) (x_11 : Int) (x_12 : Int) : Option (Out (Int × Int) (Sum (Int) (Bool))) :=
  if ((decide (x_12 < (len c_1.Out))) && (decide (x_12 < 100))) = true then
    (idx c_1.Out x_12).bind fun x_15 =>
    if (decide ((len x_15) > 65536)) = true then
      some (.done (.inr false))
    else
      (idx c_1.Out x_12).bind fun x_22 =>
      some (.next (w64 (x_11 + (len x_22)), w64 (x_12 + 1)))
  else
    some (.done (.inl (x_11)))

def wirelesslaw33_light (F : Nat) (c_1 : T_api_Channel) : Option (Bool) :=
  (iter (fun s => wirelesslaw33_light_l13 F c_1 s.1 s.2) F (len c_1.In, 0)).bind fun o =>
  match o with
  | .inl u => wirelesslaw33_light_j1 F c_1 u
  | .inr u => some u

def wirelessref33_Form (F : Nat) (sdu_1 : (List Int)) : Option ((List Int)) :=
  (wirelessref23_Put F (wu64 (len sdu_1)) 2).bind fun x_5 =>
  (app 1 x_5 sdu_1).bind fun l_10 =>
  some l_10

def wirelessref33_Output_j1 (F : Nat) (c_1 : T_api_Channel) (c_21 : T_api_Channel) (l_16 : (List (List Int))) : Option (T_api_Channel × (List (List Int))) :=
  some ({ c_1 with TxCredits := c_21.TxCredits, Out := c_21.Out, Sent := c_21.Sent }, l_16)

def wirelessref33_Output_l34 (F : Nat) (c_1 : T_api_Channel) (c_33 : T_api_Channel) (l_28 : (List (List Int))) : Option (Out (T_api_Channel × (List (List Int))) (T_api_Channel × (List (List Int)))) :=
  if (((!c_1.Failed) && (decide ((len c_33.Out) > 0))) && (decide (c_33.TxCredits > 0))) = true then
    (idx c_33.Out 0).bind fun x_37 =>
    (wirelessref33_Form F x_37).bind fun x_44 =>
    (sub x_44 c_33.Sent (imin (len x_44) (w64 (c_33.Sent + c_1.PeerMPS)))).bind fun l_52 =>
    (app 1 ([] : (List Int)) l_52).bind fun l_56 =>
    (app 24 l_28 [l_56]).bind fun l_66 =>
    if ((imin (len x_44) (w64 (c_33.Sent + c_1.PeerMPS))) == (len x_44)) = true then
      (sub c_33.Out 1 (len c_33.Out)).bind fun l_75 =>
      (app 24 ([] : (List (List Int))) l_75).bind fun l_79 =>
      some (.next ({ c_1 with TxCredits := w64 (c_33.TxCredits - 1), Out := l_79, Sent := 0 }, l_66))
    else
      some (.next ({ c_1 with TxCredits := w64 (c_33.TxCredits - 1), Out := c_33.Out, Sent := imin (len x_44) (w64 (c_33.Sent + c_1.PeerMPS)) }, l_66))
  else
    some (.done ({ c_1 with TxCredits := c_33.TxCredits, Out := c_33.Out, Sent := c_33.Sent }, l_28))

def wirelessref33_Output (F : Nat) (c_1 : T_api_Channel) : Option (T_api_Channel × (List (List Int))) :=
  (iter (fun s => wirelessref33_Output_l34 F c_1 s.1 s.2) F (c_1, [])).bind fun o =>
  wirelessref33_Output_j1 F c_1 o.1 o.2

def sdu_form (F : Nat) (sdu_1 : (List Int)) : Option ((List Int)) :=
  (ishr .i64 (len sdu_1) 8).bind fun x_5 =>
  (octets_Join F [[wu8 (len sdu_1), wu8 x_5], sdu_1]).bind fun x_16 =>
  some x_16

def sdu_Output_1 (F : Nat) (p_1 : T_api_Channel) (p_9 : (List (List Int))) : Option (T_api_Channel × (List (List Int))) :=
  (idx p_1.Out 0).bind fun x_15 =>
  (sdu_form F x_15).bind fun x_22 =>
  (mk 1 0 (imin (imax 1 (imin p_1.PeerMPS (w64 ((len x_22) - (imax 0 (imin p_1.Sent (len x_22))))))) (w64 ((len x_22) - (imax 0 (imin p_1.Sent (len x_22))))))).bind fun l_26 =>
  (sub x_22 (imax 0 (imin p_1.Sent (len x_22))) (len x_22)).bind fun l_31 =>
  (app 24 p_9 [cpy l_26 l_31]).bind fun l_41 =>
  if (decide ((w64 ((imax 0 (imin p_1.Sent (len x_22))) + (imax 1 (imin p_1.PeerMPS (w64 ((len x_22) - (imax 0 (imin p_1.Sent (len x_22))))))))) ≥ (len x_22))) = true then
    (sub p_1.Out 1 (len p_1.Out)).bind fun l_46 =>
    some ({ p_1 with TxCredits := w64 (p_1.TxCredits - 1), Out := l_46, Sent := 0 }, l_41)
  else
    some ({ p_1 with TxCredits := w64 (p_1.TxCredits - 1), Sent := w64 ((imax 0 (imin p_1.Sent (len x_22))) + (imax 1 (imin p_1.PeerMPS (w64 ((len x_22) - (imax 0 (imin p_1.Sent (len x_22)))))))) }, l_41)

def sdu_Output_j2 (F : Nat) (l_40 : (List (List Int))) (c_45 : T_api_Channel) : Option (T_api_Channel × (List (List Int))) :=
  some (c_45, l_40)

def sdu_Output_j1 (F : Nat) (c_45 : T_api_Channel) (l_40 : (List (List Int))) : Option (T_api_Channel × (List (List Int))) :=
  sdu_Output_j2 F l_40 c_45

def sdu_Output_l73 (F : Nat) (c_72 : T_api_Channel) (l_67 : (List (List Int))) : Option (Out (T_api_Channel × (List (List Int))) (T_api_Channel × (List (List Int)))) :=
  if ((decide ((len c_72.Out) > 0)) && (decide (c_72.TxCredits > 0))) = true then
    (sdu_Output_1 F c_72 l_67).bind fun x_75 =>
    some (.next (x_75.1, x_75.2))
  else
    some (.done (c_72, l_67))

def sdu_Output (F : Nat) (c_1 : T_api_Channel) : Option (T_api_Channel × (List (List Int))) :=
  (sdu_copied F c_1).bind fun x_10 =>
  if x_10.Failed = true then
    some (x_10, [])
  else
    (iter (fun s => sdu_Output_l73 F s.1 s.2) F (x_10, [])).bind fun o =>
    sdu_Output_j1 F o.1 o.2

def wirelesslaw33_end (F : Nat) (mtu_1 : Int) (mps_2 : Int) (credits_3 : Int) : Option (T_api_Channel) :=
  some (T_api_Channel.mk 64 65 1 mtu_1 mps_2 mtu_1 mps_2 credits_3 credits_3 0 [] 0 [] (-1) false)

def wirelesslaw33_exampleHolds_j1 (F : Nat) (c_24 : T_api_Channel) (x_23 : Int) : Option (Bool) :=
  (sdu_Output F c_24).bind fun x_25 =>
  (wirelesslaw33_end F 40 23 0).bind fun x_35 =>
  (sdu_Input F x_35 [0, 0]).bind fun x_47 =>
  (wirelesslaw33_end F 40 23 1).bind fun x_58 =>
  (sdu_Input F x_58 [0]).bind fun x_70 =>
  (wirelesslaw33_end F 40 23 1).bind fun x_81 =>
  (sdu_Input F x_81 [0, 0]).bind fun x_93 =>
  (if ((x_23 == 0) && ((len x_25.2) == 2)) = true then
    (idx x_25.2 0).bind fun x_148 =>
    some (((len x_148) == 23))
  else
    some (false)).bind fun z_106 =>
  (if z_106 = true then
    (idx x_25.2 1).bind fun x_140 =>
    some (((len x_140) == 9))
  else
    some (false)).bind fun z_108 =>
  (if z_108 = true then
    (idx x_25.2 0).bind fun x_128 =>
    (idx x_128 0).bind fun x_135 =>
    some ((x_135 == 30))
  else
    some (false)).bind fun z_110 =>
  (if ((((((z_110 && (x_25.1.TxCredits == 3)) && (x_47.2.2 == 19)) && x_47.1.Failed) && (x_70.2.2 == 3)) && (x_93.2.2 == 0)) && ((len x_93.2.1) == 1)) = true then
    (idx x_93.2.1 0).bind fun x_120 =>
    some (((len x_120) == 0))
  else
    some (false)).bind fun z_118 =>
  some z_118

def wirelesslaw33_exampleHolds (F : Nat) : Option (Bool) :=
  (wirelesslaw33_end F 40 23 5).bind fun x_155 =>
  (mk 1 0 30).bind fun l_162 =>
  (sdu_Queue F x_155 l_162).bind fun x_168 =>
  wirelesslaw33_exampleHolds_j1 F x_168.1 x_168.2

def wirelesslaw33_SduChecks_j1 (F : Nat) (z_11 : Bool) : Option (Bool) :=
  some z_11

def wirelesslaw33_SduChecks (F : Nat) (c_1 : T_api_Channel) : Option (Bool) :=
  (wirelesslaw33_light F c_1).bind fun x_9 =>
  if (!x_9) = true then
    (wirelesslaw33_exampleHolds F).bind fun x_10 =>
    some x_10
  else
    (sdu_Check F c_1).bind fun x_12 =>
    (wirelessref33_Check F c_1).bind fun x_13 =>
    if (x_12 == x_13) = true then
      (wirelesslaw33_exampleHolds F).bind fun x_15 =>
      wirelesslaw33_SduChecks_j1 F x_15
    else
      wirelesslaw33_SduChecks_j1 F false

def wirelesslaw33_SduOutputs (F : Nat) (c_1 : T_api_Channel) : Option (Bool) :=
  (wirelesslaw33_light F c_1).bind fun x_9 =>
  (if (!x_9) = true then
    some (true)
  else
    (wirelessref33_Check F c_1).bind fun x_49 =>
    some ((x_49 != 0))).bind fun z_11 =>
  if z_11 = true then
    (wirelesslaw33_exampleHolds F).bind fun x_12 =>
    some x_12
  else
    (sdu_Output F c_1).bind fun x_13 =>
    (wirelessref33_Output F c_1).bind fun x_24 =>
    (wirelessref33_SameChannel F x_13.1 x_24.1).bind fun x_35 =>
    (if x_35 = true then
      (wirelessref33_SameLists F x_13.2 x_24.2).bind fun x_47 =>
      some (x_47)
    else
      some (false)).bind fun z_37 =>
    (if z_37 = true then
      (wirelessref33_Check F x_13.1).bind fun x_45 =>
      some ((x_45 == 0))
    else
      some (false)).bind fun z_39 =>
    (if z_39 = true then
      (wirelesslaw33_exampleHolds F).bind fun x_43 =>
      some (x_43)
    else
      some (false)).bind fun z_41 =>
    some z_41

def wirelesslaw33_SduInputs_j1 (F : Nat) : Option (Bool) :=
  (wirelesslaw33_exampleHolds F).bind fun x_20 =>
  some x_20

def wirelesslaw33_SduInputs_j3 (F : Nat) (x_63 : Int) (l_89 : (List (List Int))) (x_93 : Int) (c_94 : T_api_Channel) (c_122 : T_api_Channel) (l_117 : (List (List Int))) (x_121 : Int) : Option (Out (T_api_Channel × T_api_Channel × Int) (Sum (Unit) (Bool))) :=
  (if (x_93 != x_121) = true then
    some (true)
  else
    (wirelessref33_SameChannel F c_94 c_122).bind fun x_134 =>
    some ((!x_134))).bind fun z_124 =>
  (if z_124 = true then
    some (true)
  else
    (wirelessref33_SameLists F l_89 l_117).bind fun x_132 =>
    some ((!x_132))).bind fun z_126 =>
  (if z_126 = true then
    some (true)
  else
    (wirelessref33_Check F c_94).bind fun x_130 =>
    some ((x_130 != 0))).bind fun z_128 =>
  if z_128 = true then
    some (.done (.inr false))
  else
    some (.next (c_94, c_122, w64 (x_63 + 1)))

def wirelesslaw33_SduInputs_j2 (F : Nat) (frames_8 : (List (List Int))) (x_63 : Int) (c_65 : T_api_Channel) (c_94 : T_api_Channel) (l_89 : (List (List Int))) (x_93 : Int) : Option (Out (T_api_Channel × T_api_Channel × Int) (Sum (Unit) (Bool))) :=
  (idx frames_8 x_63).bind fun x_135 =>
  (wirelessref33_Input F c_65 x_135).bind fun x_143 =>
  wirelesslaw33_SduInputs_j3 F x_63 l_89 x_93 c_94 x_143.1 x_143.2.1 x_143.2.2

def wirelesslaw33_SduInputs_l66 (F : Nat) (frames_8 : (List (List Int))) (c_64 : T_api_Channel) (c_65 : T_api_Channel) (x_63 : Int) : Option (Out (T_api_Channel × T_api_Channel × Int) (Sum (Unit) (Bool))) :=
  if (decide (x_63 < (len frames_8))) = true then
    (idx frames_8 x_63).bind fun x_165 =>
    (sdu_Input F c_64 x_165).bind fun x_173 =>
    wirelesslaw33_SduInputs_j2 F frames_8 x_63 c_65 x_173.1 x_173.2.1 x_173.2.2
  else
    some (.done (.inl ()))

def wirelesslaw33_SduInputs (F : Nat) (c_1 : T_api_Channel) (frames_8 : (List (List Int))) : Option (Bool) :=
  (wirelesslaw33_light F c_1).bind fun x_13 =>
  (if (!x_13) = true then
    some (true)
  else
    (wirelesslaw33_light F (T_api_Channel.mk 0 0 0 0 0 0 0 0 0 0 frames_8 0 [] 0 false)).bind fun x_198 =>
    some ((!x_198))).bind fun z_15 =>
  (if z_15 = true then
    some (true)
  else
    (wirelessref33_Check F c_1).bind fun x_196 =>
    some ((x_196 != 0))).bind fun z_17 =>
  if z_17 = true then
    (wirelesslaw33_exampleHolds F).bind fun x_18 =>
    some x_18
  else
    (iter (fun s => wirelesslaw33_SduInputs_l66 F frames_8 s.1 s.2.1 s.2.2) F (c_1, c_1, 0)).bind fun o =>
    match o with
    | .inl u => wirelesslaw33_SduInputs_j1 F
    | .inr u => some u

def wirelesslaw33_SduDivides_j1 (F : Nat) (credits_6 : Int) (x_27 : T_api_Channel × (List (List Int))) (l_44 : (List Int)) (x_49 : Int) (l_50 : (List Int)) : Option (Bool) :=
  if ((((len x_27.2) != (imin x_49 credits_6)) || (x_27.1.TxCredits != (w64 (credits_6 - (len x_27.2))))) || (decide ((len l_50) > (len l_44)))) = true then
    some false
  else
    (sub l_44 0 (len l_50)).bind fun l_58 =>
    (wirelessref23_Same F l_50 l_58).bind fun x_62 =>
    (if (x_62 && (((len x_27.1.Out) == 0) == ((len x_27.2) == x_49))) = true then
      (wirelesslaw33_exampleHolds F).bind fun x_67 =>
      some (x_67)
    else
      some (false)).bind fun z_65 =>
    some z_65

def wirelesslaw33_SduDivides_l74 (F : Nat) (mps_5 : Int) (x_27 : T_api_Channel × (List (List Int))) (x_49 : Int) (l_68 : (List Int)) (x_73 : Int) : Option (Out ((List Int) × Int) (Sum ((List Int)) (Bool))) :=
  if (decide (x_73 < (len x_27.2))) = true then
    (idx x_27.2 x_73).bind fun x_75 =>
    (if (((len x_75) != mps_5) && (decide ((w64 (x_73 + 1)) < x_49))) = true then
      some (true)
    else
      (idx x_27.2 x_73).bind fun x_98 =>
      some (((len x_98) == 0))).bind fun z_84 =>
    if z_84 = true then
      some (.done (.inr false))
    else
      (idx x_27.2 x_73).bind fun x_85 =>
      (app 1 l_68 x_85).bind fun l_92 =>
      some (.next (l_92, w64 (x_73 + 1)))
  else
    some (.done (.inl (l_68)))

def wirelesslaw33_SduDivides (F : Nat) (b_1 : (List Int)) (mps_5 : Int) (credits_6 : Int) : Option (Bool) :=
  if (((((decide ((len b_1) > 4096)) || (decide (mps_5 < 23))) || (decide (mps_5 > 4096))) || (decide (credits_6 < 0))) || (decide (credits_6 > 65535))) = true then
    (wirelesslaw33_exampleHolds F).bind fun x_11 =>
    some x_11
  else
    (wirelesslaw33_end F 4096 mps_5 credits_6).bind fun x_12 =>
    (sdu_Queue F x_12 b_1).bind fun x_19 =>
    if (x_19.2 != 0) = true then
      some false
    else
      (sdu_Output F x_19.1).bind fun x_27 =>
      (irem (len b_1) 256).bind fun x_38 =>
      (iquo .i64 (len b_1) 256).bind fun x_39 =>
      (app 1 [wu8 x_38, wu8 x_39] b_1).bind fun l_44 =>
      (iquo .i64 (w64 ((w64 ((len l_44) + mps_5)) - 1)) mps_5).bind fun x_49 =>
      (iter (fun s => wirelesslaw33_SduDivides_l74 F mps_5 x_27 x_49 s.1 s.2) F ([], 0)).bind fun o =>
      match o with
      | .inl u => wirelesslaw33_SduDivides_j1 F credits_6 x_27 l_44 x_49 u
      | .inr u => some u

def wirelesslaw33_SduQueues (F : Nat) (c_1 : T_api_Channel) (b_8 : (List Int)) (n_12 : Int) : Option (Bool) :=
  (wirelesslaw33_light F c_1).bind fun x_14 =>
  (if ((!x_14) || (decide ((len b_8) > 16384))) = true then
    some (true)
  else
    (wirelessref33_Check F c_1).bind fun x_92 =>
    some ((x_92 != 0))).bind fun z_17 =>
  if z_17 = true then
    (wirelesslaw33_exampleHolds F).bind fun x_18 =>
    some x_18
  else
    (sdu_Queue F c_1 b_8).bind fun x_19 =>
    (wirelessref33_Queue F c_1 b_8).bind fun x_27 =>
    (if (x_19.2 != x_27.2) = true then
      some (true)
    else
      (wirelessref33_SameChannel F x_19.1 x_27.1).bind fun x_90 =>
      some ((!x_90))).bind fun z_36 =>
    (if z_36 = true then
      some (true)
    else
      (wirelessref33_Check F x_19.1).bind fun x_88 =>
      some ((x_88 != 0))).bind fun z_38 =>
    if z_38 = true then
      some false
    else
      (sdu_Grant F c_1 n_12).bind fun x_39 =>
      (wirelessref33_Grant F c_1 n_12).bind fun x_46 =>
      (if (x_39.2 != x_46.2) = true then
        some (true)
      else
        (wirelessref33_SameChannel F x_39.1 x_46.1).bind fun x_86 =>
        some ((!x_86))).bind fun z_54 =>
      (if z_54 = true then
        some (true)
      else
        (wirelessref33_Check F x_39.1).bind fun x_84 =>
        some ((x_84 != 0))).bind fun z_56 =>
      if z_56 = true then
        some false
      else
        (sdu_Credit F c_1 n_12).bind fun x_57 =>
        (wirelessref33_Credit F c_1 n_12).bind fun x_64 =>
        (if (x_57.2 == x_64.2) = true then
          (wirelessref33_SameChannel F x_57.1 x_64.1).bind fun x_82 =>
          some (x_82)
        else
          some (false)).bind fun z_72 =>
        (if z_72 = true then
          (wirelessref33_Check F x_57.1).bind fun x_80 =>
          some ((x_80 == 0))
        else
          some (false)).bind fun z_74 =>
        (if z_74 = true then
          (wirelesslaw33_exampleHolds F).bind fun x_78 =>
          some (x_78)
        else
          some (false)).bind fun z_76 =>
        some z_76

end V
end Go.Proofs.Ytfdiabglpgkbeaa
