/-
  Pure twins of the Go functions, written by program.
-/
import Derived.Test.YtfdiabglpgkbeaaPure
namespace Go.Proofs.Ytfdiabglpgkbeaa
namespace V
structure T_api_Channel where
  Local : Int
  Remote : Int
  PSM : Int
  MTU : Int
  MPS : Int
  PeerMTU : Int
  PeerMPS : Int
  TxCredits : Int
  RxCredits : Int
  Given : Int
  Out : (List (List Int))
  Sent : Int
  In : (List Int)
  Want : Int
  Failed : Bool

structure T_wirelesslaw33_Step where
  Kind : Int
  SDU : (List Int)
  N : Int

structure T_wirelesslaw33_Way where
  MTU : Int
  MPS : Int
  Credits : Int
  Steps : (List T_wirelesslaw33_Step)

structure T_wirelesslaw33_wire where
  a : T_api_Channel
  b : T_api_Channel
  frames : (List (List Int))
  credits : (List Int)
  queued : (List (List Int))
  got : (List (List Int))
  bad : Bool

def wirelesslaw33_light_j1 (F : Nat) (c_1 : T_api_Channel) (x_2 : Int) : Option (Bool) :=
  some ((decide ((len c_1.Out) ≤ 100)) && (decide (x_2 ≤ 65536)))

def wirelesslaw33_light_l1 (F : Nat) (c_1 : T_api_Channel) (x_3 : Int) (x_4 : Int) : Option (Out (Int × Int) (Sum (Int) (Bool))) :=
  if ((decide (x_4 < (len c_1.Out))) && (decide (x_4 < 100))) = true then
    (idx c_1.Out x_4).bind fun x_5 =>
    if (decide ((len x_5) > 65536)) = true then
      some (.done (.inr false))
    else
      (idx c_1.Out x_4).bind fun x_6 =>
      some (.next (w64 (x_3 + (len x_6)), w64 (x_4 + 1)))
  else
    some (.done (.inl (x_3)))

def wirelesslaw33_light (F : Nat) (c_1 : T_api_Channel) : Option (Bool) :=
  (iter (fun s => wirelesslaw33_light_l1 F c_1 s.1 s.2) F (len c_1.In, 0)).bind fun o =>
  match o with
  | .inl u => wirelesslaw33_light_j1 F c_1 u
  | .inr u => some u

def wirelessref33_isCID (F : Nat) (n_1 : Int) : Option (Bool) :=
  some ((decide (n_1 ≥ 64)) && (decide (n_1 ≤ 127)))

def wirelessref33_isSize (F : Nat) (n_1 : Int) : Option (Bool) :=
  some ((decide (n_1 ≥ 23)) && (decide (n_1 ≤ 4096)))

def wirelessref33_isCount (F : Nat) (n_1 : Int) : Option (Bool) :=
  some ((decide (n_1 ≥ 0)) && (decide (n_1 ≤ 65535)))

def wirelessref33_Check_j2 (F : Nat) (c_1 : T_api_Channel) (x_18 : Int) : Option (Int) :=
  if ((((decide (c_1.Sent < 0)) || (decide (c_1.Sent > x_18))) || (decide (c_1.Want < (-1)))) || (decide (c_1.Want > c_1.MTU))) = true then
    some 1
  else
    if (((c_1.Want == (-1)) && (decide ((len c_1.In) > 0))) || ((decide (c_1.Want ≥ 0)) && (decide ((len c_1.In) ≥ c_1.Want)))) = true then
      some 1
    else
      some 0

def wirelessref33_Check_j1 (F : Nat) (c_1 : T_api_Channel) : Option (Int) :=
  if (decide ((len c_1.Out) > 0)) = true then
    (idx c_1.Out 0).bind fun x_19 =>
    wirelessref33_Check_j2 F c_1 (w64 (1 + (len x_19)))
  else
    wirelessref33_Check_j2 F c_1 0

def wirelessref33_Check_j3 (F : Nat) (x_20 : Int) (z_21 : Bool) : Option (Out (Int) (Sum (Unit) (Int))) :=
  if z_21 = true then
    some (.done (.inr 4))
  else
    some (.next (w64 (x_20 + 1)))

def wirelessref33_Check_l1 (F : Nat) (c_1 : T_api_Channel) (x_20 : Int) : Option (Out (Int) (Sum (Unit) (Int))) :=
  if (decide (x_20 < (len c_1.Out))) = true then
    (idx c_1.Out x_20).bind fun x_22 =>
    wirelessref33_Check_j3 F x_20 (decide ((len x_22) > c_1.PeerMTU))
  else
    some (.done (.inl ()))

def wirelessref33_Check (F : Nat) (c_1 : T_api_Channel) : Option (Int) :=
  (wirelessref33_isCID F c_1.Local).bind fun x_2 =>
  (if (!x_2) = true then
    some (true)
  else
    (wirelessref33_isCID F c_1.Remote).bind fun x_38 =>
    some ((!x_38))).bind fun z_4 =>
  if z_4 = true then
    some 5
  else
    if (c_1.PSM == 0) = true then
      some 1
    else
      (wirelessref33_isSize F c_1.MTU).bind fun x_5 =>
      (if (!x_5) = true then
        some (true)
      else
        (wirelessref33_isSize F c_1.MPS).bind fun x_36 =>
        some ((!x_36))).bind fun z_7 =>
      (if z_7 = true then
        some (true)
      else
        (wirelessref33_isSize F c_1.PeerMTU).bind fun x_34 =>
        some ((!x_34))).bind fun z_9 =>
      (if z_9 = true then
        some (true)
      else
        (wirelessref33_isSize F c_1.PeerMPS).bind fun x_32 =>
        some ((!x_32))).bind fun z_11 =>
      (if z_11 = true then
        some (true)
      else
        (wirelessref33_isCount F c_1.TxCredits).bind fun x_30 =>
        some ((!x_30))).bind fun z_13 =>
      (if z_13 = true then
        some (true)
      else
        (wirelessref33_isCount F c_1.RxCredits).bind fun x_28 =>
        some ((!x_28))).bind fun z_15 =>
      (if z_15 = true then
        some (true)
      else
        (wirelessref33_isCount F c_1.Given).bind fun x_26 =>
        some ((!x_26))).bind fun z_17 =>
      if z_17 = true then
        some 5
      else
        if (decide ((len c_1.Out) > 64)) = true then
          some 4
        else
          (iter (fun s => wirelessref33_Check_l1 F c_1 s) F (0)).bind fun o =>
          match o with
          | .inl u => wirelessref33_Check_j1 F c_1
          | .inr u => some u

def wirelesslaw33_end (F : Nat) (mtu_1 : Int) (mps_2 : Int) (credits_3 : Int) : Option (T_api_Channel) :=
  some (T_api_Channel.mk 64 65 1 mtu_1 mps_2 mtu_1 mps_2 credits_3 credits_3 0 [] 0 [] (-1) false)

def octets_Join_j1 (F : Nat) (l_2 : (List Int)) : Option ((List Int)) :=
  some l_2

def octets_Join_l1 (F : Nat) (parts_1 : (List (List Int))) (l_3 : (List Int)) (x_4 : Int) : Option (Out ((List Int) × Int) ((List Int))) :=
  if (decide (x_4 < (len parts_1))) = true then
    (idx parts_1 x_4).bind fun x_5 =>
    (app 1 l_3 x_5).bind fun l_6 =>
    some (.next (l_6, w64 (x_4 + 1)))
  else
    some (.done (l_3))

def octets_Join (F : Nat) (parts_1 : (List (List Int))) : Option ((List Int)) :=
  (iter (fun s => octets_Join_l1 F parts_1 s.1 s.2) F ([], 0)).bind fun o =>
  octets_Join_j1 F o

def sdu_copied_j1 (F : Nat) (c_1 : T_api_Channel) (l_2 : (List (List Int))) : Option (T_api_Channel) :=
  (octets_Join F [c_1.In]).bind fun x_3 =>
  some ({ c_1 with Out := l_2, In := x_3 })

def sdu_copied_l1 (F : Nat) (c_1 : T_api_Channel) (l_4 : (List (List Int))) (x_5 : Int) : Option (Out ((List (List Int)) × Int) ((List (List Int)))) :=
  if (decide (x_5 < (len c_1.Out))) = true then
    (idx c_1.Out x_5).bind fun x_6 =>
    (mk 1 0 (len x_6)).bind fun l_7 =>
    (app 24 l_4 [cpy l_7 x_6]).bind fun l_8 =>
    some (.next (l_8, w64 (x_5 + 1)))
  else
    some (.done (l_4))

def sdu_copied (F : Nat) (c_1 : T_api_Channel) : Option (T_api_Channel) :=
  (iter (fun s => sdu_copied_l1 F c_1 s.1 s.2) F ([], 0)).bind fun o =>
  sdu_copied_j1 F c_1 o

def sdu_Queue_j1 (F : Nat) (x_3 : T_api_Channel) (l_4 : (List (List Int))) : Option (T_api_Channel × Int) :=
  some ({ x_3 with Out := l_4 }, 0)

def sdu_Queue (F : Nat) (c_1 : T_api_Channel) (sdu_2 : (List Int)) : Option (T_api_Channel × Int) :=
  (sdu_copied F c_1).bind fun x_3 =>
  if x_3.Failed = true then
    some (x_3, 9)
  else
    if (decide ((len sdu_2) > x_3.PeerMTU)) = true then
      some (x_3, 4)
    else
      if (decide ((len x_3.Out) ≥ 64)) = true then
        some (x_3, 8)
      else
        (octets_Join F [sdu_2]).bind fun x_7 =>
        (app 24 x_3.Out [x_7]).bind fun l_8 =>
        sdu_Queue_j1 F x_3 l_8

def sdu_form (F : Nat) (sdu_1 : (List Int)) : Option ((List Int)) :=
  (ishr .i64 (len sdu_1) 8).bind fun x_2 =>
  (octets_Join F [[wu8 (len sdu_1), wu8 x_2], sdu_1]).bind fun x_3 =>
  some x_3

def sdu_Output_1 (F : Nat) (p_1 : T_api_Channel) (p_2 : (List (List Int))) : Option (T_api_Channel × (List (List Int))) :=
  (idx p_1.Out 0).bind fun x_3 =>
  (sdu_form F x_3).bind fun x_4 =>
  (mk 1 0 (imin (imax 1 (imin p_1.PeerMPS (w64 ((len x_4) - (imax 0 (imin p_1.Sent (len x_4))))))) (w64 ((len x_4) - (imax 0 (imin p_1.Sent (len x_4))))))).bind fun l_5 =>
  (sub x_4 (imax 0 (imin p_1.Sent (len x_4))) (len x_4)).bind fun l_6 =>
  (app 24 p_2 [cpy l_5 l_6]).bind fun l_7 =>
  if (decide ((w64 ((imax 0 (imin p_1.Sent (len x_4))) + (imax 1 (imin p_1.PeerMPS (w64 ((len x_4) - (imax 0 (imin p_1.Sent (len x_4))))))))) ≥ (len x_4))) = true then
    (sub p_1.Out 1 (len p_1.Out)).bind fun l_8 =>
    some ({ p_1 with TxCredits := w64 (p_1.TxCredits - 1), Out := l_8, Sent := 0 }, l_7)
  else
    some ({ p_1 with TxCredits := w64 (p_1.TxCredits - 1), Sent := w64 ((imax 0 (imin p_1.Sent (len x_4))) + (imax 1 (imin p_1.PeerMPS (w64 ((len x_4) - (imax 0 (imin p_1.Sent (len x_4)))))))) }, l_7)

def sdu_Output_j2 (F : Nat) (c_18 : T_api_Channel) (l_19 : (List (List Int))) : Option (T_api_Channel × (List (List Int))) :=
  some (c_18, l_19)

def sdu_Output_j1 (F : Nat) (c_18 : T_api_Channel) (l_19 : (List (List Int))) : Option (T_api_Channel × (List (List Int))) :=
  sdu_Output_j2 F c_18 l_19

def sdu_Output_l1 (F : Nat) (c_37 : T_api_Channel) (l_38 : (List (List Int))) : Option (Out (T_api_Channel × (List (List Int))) (T_api_Channel × (List (List Int)))) :=
  if ((decide ((len c_37.Out) > 0)) && (decide (c_37.TxCredits > 0))) = true then
    (sdu_Output_1 F c_37 l_38).bind fun x_39 =>
    some (.next (x_39.1, x_39.2))
  else
    some (.done (c_37, l_38))

def sdu_Output (F : Nat) (c_1 : T_api_Channel) : Option (T_api_Channel × (List (List Int))) :=
  (sdu_copied F c_1).bind fun x_2 =>
  if x_2.Failed = true then
    some (x_2, [])
  else
    (iter (fun s => sdu_Output_l1 F s.1 s.2) F (x_2, [])).bind fun o =>
    sdu_Output_j1 F o.1 o.2

def sdu_taken_j1 (F : Nat) (c_1 : T_api_Channel) (b_2 : (List Int)) : Option ((List Int) × Int × Int) :=
  some (b_2, c_1.Want, 0)

def sdu_taken_j2 (F : Nat) (c_1 : T_api_Channel) (b_2 : (List Int)) (x_5 : Int) : Option ((List Int) × Int × Int) :=
  if ((decide (x_5 > c_1.MTU)) || (decide (x_5 < (w64 ((len b_2) - 2))))) = true then
    some ([], 0, 4)
  else
    (sub b_2 2 (len b_2)).bind fun l_6 =>
    some (l_6, x_5, 0)

def sdu_taken (F : Nat) (c_1 : T_api_Channel) (b_2 : (List Int)) : Option ((List Int) × Int × Int) :=
  if (decide (c_1.RxCredits ≤ 0)) = true then
    some ([], 0, 19)
  else
    if (decide ((len b_2) > c_1.MPS)) = true then
      some ([], 0, 4)
    else
      if (c_1.Want != (-1)) = true then
        if ((len b_2) == 0) = true then
          some ([], 0, 3)
        else
          if (decide ((w64 ((len c_1.In) + (len b_2))) > c_1.Want)) = true then
            some ([], 0, 4)
          else
            sdu_taken_j1 F c_1 b_2
      else
        if (decide ((len b_2) < 2)) = true then
          some ([], 0, 3)
        else
          (idx b_2 0).bind fun x_7 =>
          (idx b_2 1).bind fun x_8 =>
          (ishl .i64 (w64 x_8) 8).bind fun x_11 =>
          sdu_taken_j2 F c_1 b_2 (ior .i64 (w64 x_7) x_11)

def sdu_Input (F : Nat) (c_1 : T_api_Channel) (b_2 : (List Int)) : Option (T_api_Channel × (List (List Int)) × Int) :=
  (sdu_copied F c_1).bind fun x_3 =>
  if x_3.Failed = true then
    some (x_3, [], 9)
  else
    (sdu_taken F x_3 b_2).bind fun x_4 =>
    if (x_4.2.2 != 0) = true then
      some ({ x_3 with Failed := true }, [], x_4.2.2)
    else
      (octets_Join F [x_3.In, x_4.1]).bind fun x_5 =>
      if (decide ((len x_5) < x_4.2.1)) = true then
        some ({ x_3 with RxCredits := w64 (x_3.RxCredits - 1), In := x_5, Want := x_4.2.1 }, [], 0)
      else
        some ({ x_3 with RxCredits := w64 (x_3.RxCredits - 1), In := [], Want := (-1) }, [x_5], 0)

def wirelesslaw33_exampleHolds_j1 (F : Nat) (c_16 : T_api_Channel) (x_17 : Int) : Option (Bool) :=
  (sdu_Output F c_16).bind fun x_18 =>
  (wirelesslaw33_end F 40 23 0).bind fun x_19 =>
  (sdu_Input F x_19 [0, 0]).bind fun x_20 =>
  (wirelesslaw33_end F 40 23 1).bind fun x_21 =>
  (sdu_Input F x_21 [0]).bind fun x_22 =>
  (wirelesslaw33_end F 40 23 1).bind fun x_23 =>
  (sdu_Input F x_23 [0, 0]).bind fun x_24 =>
  (if ((x_17 == 0) && ((len x_18.2) == 2)) = true then
    (idx x_18.2 0).bind fun x_41 =>
    some (((len x_41) == 23))
  else
    some (false)).bind fun z_26 =>
  (if z_26 = true then
    (idx x_18.2 1).bind fun x_39 =>
    some (((len x_39) == 9))
  else
    some (false)).bind fun z_28 =>
  (if z_28 = true then
    (idx x_18.2 0).bind fun x_36 =>
    (idx x_36 0).bind fun x_37 =>
    some ((x_37 == 30))
  else
    some (false)).bind fun z_30 =>
  (if ((((((z_30 && (x_18.1.TxCredits == 3)) && (x_20.2.2 == 19)) && x_20.1.Failed) && (x_22.2.2 == 3)) && (x_24.2.2 == 0)) && ((len x_24.2.1) == 1)) = true then
    (idx x_24.2.1 0).bind fun x_34 =>
    some (((len x_34) == 0))
  else
    some (false)).bind fun z_32 =>
  some z_32

def wirelesslaw33_exampleHolds (F : Nat) : Option (Bool) :=
  (wirelesslaw33_end F 40 23 5).bind fun x_44 =>
  (mk 1 0 30).bind fun l_45 =>
  (sdu_Queue F x_44 l_45).bind fun x_46 =>
  wirelesslaw33_exampleHolds_j1 F x_46.1 x_46.2

def wirelessref23_Put_j1 (F : Nat) (l_3 : (List Int)) : Option ((List Int)) :=
  some l_3

def wirelessref23_Put_l1 (F : Nat) (size_2 : Int) (x_4 : Int) (l_5 : (List Int)) (x_6 : Int) : Option (Out (Int × (List Int) × Int) ((List Int))) :=
  if (decide (x_6 < size_2)) = true then
    (irem x_4 256).bind fun x_7 =>
    (app 1 l_5 [wu8 x_7]).bind fun l_8 =>
    (iquo .u64 x_4 256).bind fun x_9 =>
    some (.next (x_9, l_8, w64 (x_6 + 1)))
  else
    some (.done (l_5))

def wirelessref23_Put (F : Nat) (n_1 : Int) (size_2 : Int) : Option ((List Int)) :=
  (iter (fun s => wirelessref23_Put_l1 F size_2 s.1 s.2.1 s.2.2) F (n_1, [], 0)).bind fun o =>
  wirelessref23_Put_j1 F o

def wirelessref33_Form (F : Nat) (sdu_1 : (List Int)) : Option ((List Int)) :=
  (wirelessref23_Put F (wu64 (len sdu_1)) 2).bind fun x_2 =>
  (app 1 x_2 sdu_1).bind fun l_3 =>
  some l_3

def wirelessref33_Output_j1 (F : Nat) (c_1 : T_api_Channel) (c_5 : T_api_Channel) (l_6 : (List (List Int))) : Option (T_api_Channel × (List (List Int))) :=
  some ({ c_1 with TxCredits := c_5.TxCredits, Out := c_5.Out, Sent := c_5.Sent }, l_6)

def wirelessref33_Output_l1 (F : Nat) (c_1 : T_api_Channel) (c_10 : T_api_Channel) (l_11 : (List (List Int))) : Option (Out (T_api_Channel × (List (List Int))) (T_api_Channel × (List (List Int)))) :=
  if (((!c_1.Failed) && (decide ((len c_10.Out) > 0))) && (decide (c_10.TxCredits > 0))) = true then
    (idx c_10.Out 0).bind fun x_12 =>
    (wirelessref33_Form F x_12).bind fun x_13 =>
    (sub x_13 c_10.Sent (imin (len x_13) (w64 (c_10.Sent + c_1.PeerMPS)))).bind fun l_14 =>
    (app 1 ([] : (List Int)) l_14).bind fun l_15 =>
    (app 24 l_11 [l_15]).bind fun l_16 =>
    if ((imin (len x_13) (w64 (c_10.Sent + c_1.PeerMPS))) == (len x_13)) = true then
      (sub c_10.Out 1 (len c_10.Out)).bind fun l_17 =>
      (app 24 ([] : (List (List Int))) l_17).bind fun l_18 =>
      some (.next ({ c_1 with TxCredits := w64 (c_10.TxCredits - 1), Out := l_18, Sent := 0 }, l_16))
    else
      some (.next ({ c_1 with TxCredits := w64 (c_10.TxCredits - 1), Out := c_10.Out, Sent := imin (len x_13) (w64 (c_10.Sent + c_1.PeerMPS)) }, l_16))
  else
    some (.done ({ c_1 with TxCredits := c_10.TxCredits, Out := c_10.Out, Sent := c_10.Sent }, l_11))

def wirelessref33_Output (F : Nat) (c_1 : T_api_Channel) : Option (T_api_Channel × (List (List Int))) :=
  (iter (fun s => wirelessref33_Output_l1 F c_1 s.1 s.2) F (c_1, [])).bind fun o =>
  wirelessref33_Output_j1 F c_1 o.1 o.2

def wirelessref23_Same (F : Nat) (a_1 : (List Int)) (b_2 : (List Int)) : Option (Bool) :=
  some ((str a_1) == (str b_2))

def wirelessref33_SameLists_j1 (F : Nat) : Option (Bool) :=
  some true

def wirelessref33_SameLists_j2 (F : Nat) (x_3 : Int) (z_4 : Bool) : Option (Out (Int) (Sum (Unit) (Bool))) :=
  if z_4 = true then
    some (.done (.inr false))
  else
    some (.next (w64 (x_3 + 1)))

def wirelessref33_SameLists_l1 (F : Nat) (a_1 : (List (List Int))) (b_2 : (List (List Int))) (x_3 : Int) : Option (Out (Int) (Sum (Unit) (Bool))) :=
  if (decide (x_3 < (len a_1))) = true then
    (idx a_1 x_3).bind fun x_5 =>
    (idx b_2 x_3).bind fun x_6 =>
    (wirelessref23_Same F x_5 x_6).bind fun x_9 =>
    wirelessref33_SameLists_j2 F x_3 (!x_9)
  else
    some (.done (.inl ()))

def wirelessref33_SameLists (F : Nat) (a_1 : (List (List Int))) (b_2 : (List (List Int))) : Option (Bool) :=
  if ((len a_1) != (len b_2)) = true then
    some false
  else
    (iter (fun s => wirelessref33_SameLists_l1 F a_1 b_2 s) F (0)).bind fun o =>
    match o with
    | .inl u => wirelessref33_SameLists_j1 F
    | .inr u => some u

def wirelessref33_SameChannel (F : Nat) (a_1 : T_api_Channel) (b_2 : T_api_Channel) : Option (Bool) :=
  if (((((((a_1.Local != b_2.Local) || (a_1.Remote != b_2.Remote)) || (a_1.PSM != b_2.PSM)) || (a_1.MTU != b_2.MTU)) || (a_1.MPS != b_2.MPS)) || (a_1.PeerMTU != b_2.PeerMTU)) || (a_1.PeerMPS != b_2.PeerMPS)) = true then
    some false
  else
    if ((((((a_1.TxCredits != b_2.TxCredits) || (a_1.RxCredits != b_2.RxCredits)) || (a_1.Given != b_2.Given)) || (a_1.Sent != b_2.Sent)) || (a_1.Want != b_2.Want)) || (a_1.Failed != b_2.Failed)) = true then
      some false
    else
      (wirelessref33_SameLists F a_1.Out b_2.Out).bind fun x_3 =>
      (if x_3 = true then
        (wirelessref23_Same F a_1.In b_2.In).bind fun x_7 =>
        some (x_7)
      else
        some (false)).bind fun z_5 =>
      some z_5

def wirelesslaw33_SduOutputs (F : Nat) (c_1 : T_api_Channel) : Option (Bool) :=
  (wirelesslaw33_light F c_1).bind fun x_2 =>
  (if (!x_2) = true then
    some (true)
  else
    (wirelessref33_Check F c_1).bind fun x_22 =>
    some ((x_22 != 0))).bind fun z_4 =>
  if z_4 = true then
    (wirelesslaw33_exampleHolds F).bind fun x_5 =>
    some x_5
  else
    (sdu_Output F c_1).bind fun x_6 =>
    (wirelessref33_Output F c_1).bind fun x_7 =>
    (wirelessref33_SameChannel F x_6.1 x_7.1).bind fun x_8 =>
    (if x_8 = true then
      (wirelessref33_SameLists F x_6.2 x_7.2).bind fun x_20 =>
      some (x_20)
    else
      some (false)).bind fun z_10 =>
    (if z_10 = true then
      (wirelessref33_Check F x_6.1).bind fun x_18 =>
      some ((x_18 == 0))
    else
      some (false)).bind fun z_12 =>
    (if z_12 = true then
      (wirelesslaw33_exampleHolds F).bind fun x_16 =>
      some (x_16)
    else
      some (false)).bind fun z_14 =>
    some z_14

def wirelessref23_Num_j1 (F : Nat) (x_4 : Int) : Option (Int) :=
  some x_4

def wirelessref23_Num_l1 (F : Nat) (b_1 : (List Int)) (at_2 : Int) (x_5 : Int) (x_6 : Int) : Option (Out (Int × Int) (Int)) :=
  if (decide (x_6 ≥ 0)) = true then
    (idx b_1 (w64 (at_2 + x_6))).bind fun x_7 =>
    some (.next (wu64 ((wu64 (x_5 * 256)) + (wu64 x_7)), w64 (x_6 - 1)))
  else
    some (.done (x_5))

def wirelessref23_Num (F : Nat) (b_1 : (List Int)) (at_2 : Int) (size_3 : Int) : Option (Int) :=
  (iter (fun s => wirelessref23_Num_l1 F b_1 at_2 s.1 s.2) F (0, w64 (size_3 - 1))).bind fun o =>
  wirelessref23_Num_j1 F o

def wirelessref33_fault (F : Nat) (c_1 : T_api_Channel) (b_2 : (List Int)) : Option (Int) :=
  if (c_1.RxCredits == 0) = true then
    some 19
  else
    if (decide ((len b_2) > c_1.MPS)) = true then
      some 4
    else
      if (c_1.Want == (-1)) = true then
        if (decide ((len b_2) < 2)) = true then
          some 3
        else
          (wirelessref23_Num F b_2 0 2).bind fun x_3 =>
          if ((decide ((w64 x_3) > c_1.MTU)) || (decide ((w64 ((len b_2) - 2)) > (w64 x_3)))) = true then
            some 4
          else
            some 0
      else
        if ((len b_2) == 0) = true then
          some 3
        else
          if (decide ((w64 ((len c_1.In) + (len b_2))) > c_1.Want)) = true then
            some 4
          else
            some 0

def wirelessref33_Input_j1 (F : Nat) (c_1 : T_api_Channel) (l_4 : (List Int)) (x_5 : Int) : Option (T_api_Channel × (List (List Int)) × Int) :=
  (app 1 ([] : (List Int)) c_1.In).bind fun l_6 =>
  (app 1 l_6 l_4).bind fun l_7 =>
  if (decide ((len l_7) < x_5)) = true then
    some ({ c_1 with RxCredits := w64 (c_1.RxCredits - 1), In := l_7, Want := x_5 }, [], 0)
  else
    some ({ c_1 with RxCredits := w64 (c_1.RxCredits - 1), In := [], Want := (-1) }, [l_7], 0)

def wirelessref33_Input (F : Nat) (c_1 : T_api_Channel) (b_2 : (List Int)) : Option (T_api_Channel × (List (List Int)) × Int) :=
  if c_1.Failed = true then
    some (c_1, [], 9)
  else
    (wirelessref33_fault F c_1 b_2).bind fun x_3 =>
    if (x_3 != 0) = true then
      some ({ c_1 with Failed := true }, [], x_3)
    else
      if (c_1.Want == (-1)) = true then
        (wirelessref23_Num F b_2 0 2).bind fun x_8 =>
        (sub b_2 2 (len b_2)).bind fun l_9 =>
        wirelessref33_Input_j1 F c_1 l_9 (w64 x_8)
      else
        wirelessref33_Input_j1 F c_1 b_2 c_1.Want

def wirelesslaw33_SduInputs_j1 (F : Nat) : Option (Bool) :=
  (wirelesslaw33_exampleHolds F).bind fun x_9 =>
  some x_9

def wirelesslaw33_SduInputs_j3 (F : Nat) (x_42 : Int) (c_58 : T_api_Channel) (l_59 : (List (List Int))) (x_60 : Int) (c_76 : T_api_Channel) (l_77 : (List (List Int))) (x_78 : Int) : Option (Out (T_api_Channel × T_api_Channel × Int) (Sum (Unit) (Bool))) :=
  (if (x_60 != x_78) = true then
    some (true)
  else
    (wirelessref33_SameChannel F c_58 c_76).bind fun x_92 =>
    some ((!x_92))).bind fun z_80 =>
  (if z_80 = true then
    some (true)
  else
    (wirelessref33_SameLists F l_59 l_77).bind fun x_90 =>
    some ((!x_90))).bind fun z_82 =>
  (if z_82 = true then
    some (true)
  else
    (wirelessref33_Check F c_58).bind fun x_88 =>
    some ((x_88 != 0))).bind fun z_84 =>
  if z_84 = true then
    some (.done (.inr false))
  else
    some (.next (c_58, c_76, w64 (x_42 + 1)))

def wirelesslaw33_SduInputs_j2 (F : Nat) (frames_2 : (List (List Int))) (c_41 : T_api_Channel) (x_42 : Int) (c_58 : T_api_Channel) (l_59 : (List (List Int))) (x_60 : Int) : Option (Out (T_api_Channel × T_api_Channel × Int) (Sum (Unit) (Bool))) :=
  (idx frames_2 x_42).bind fun x_93 =>
  (wirelessref33_Input F c_41 x_93).bind fun x_96 =>
  wirelesslaw33_SduInputs_j3 F x_42 c_58 l_59 x_60 x_96.1 x_96.2.1 x_96.2.2

def wirelesslaw33_SduInputs_l1 (F : Nat) (frames_2 : (List (List Int))) (c_25 : T_api_Channel) (c_41 : T_api_Channel) (x_42 : Int) : Option (Out (T_api_Channel × T_api_Channel × Int) (Sum (Unit) (Bool))) :=
  if (decide (x_42 < (len frames_2))) = true then
    (idx frames_2 x_42).bind fun x_98 =>
    (sdu_Input F c_25 x_98).bind fun x_101 =>
    wirelesslaw33_SduInputs_j2 F frames_2 c_41 x_42 x_101.1 x_101.2.1 x_101.2.2
  else
    some (.done (.inl ()))

def wirelesslaw33_SduInputs (F : Nat) (c_1 : T_api_Channel) (frames_2 : (List (List Int))) : Option (Bool) :=
  (wirelesslaw33_light F c_1).bind fun x_3 =>
  (if (!x_3) = true then
    some (true)
  else
    (wirelesslaw33_light F (T_api_Channel.mk 0 0 0 0 0 0 0 0 0 0 frames_2 0 [] 0 false)).bind fun x_106 =>
    some ((!x_106))).bind fun z_5 =>
  (if z_5 = true then
    some (true)
  else
    (wirelessref33_Check F c_1).bind fun x_104 =>
    some ((x_104 != 0))).bind fun z_7 =>
  if z_7 = true then
    (wirelesslaw33_exampleHolds F).bind fun x_8 =>
    some x_8
  else
    (iter (fun s => wirelesslaw33_SduInputs_l1 F frames_2 s.1 s.2.1 s.2.2) F (c_1, c_1, 0)).bind fun o =>
    match o with
    | .inl u => wirelesslaw33_SduInputs_j1 F
    | .inr u => some u

def wirelesslaw33_SduDivides_j1 (F : Nat) (credits_3 : Int) (x_7 : T_api_Channel × (List (List Int))) (l_10 : (List Int)) (x_11 : Int) (l_12 : (List Int)) : Option (Bool) :=
  if ((((len x_7.2) != (imin x_11 credits_3)) || (x_7.1.TxCredits != (w64 (credits_3 - (len x_7.2))))) || (decide ((len l_12) > (len l_10)))) = true then
    some false
  else
    (sub l_10 0 (len l_12)).bind fun l_13 =>
    (wirelessref23_Same F l_12 l_13).bind fun x_14 =>
    (if (x_14 && (((len x_7.1.Out) == 0) == ((len x_7.2) == x_11))) = true then
      (wirelesslaw33_exampleHolds F).bind fun x_18 =>
      some (x_18)
    else
      some (false)).bind fun z_16 =>
    some z_16

def wirelesslaw33_SduDivides_l1 (F : Nat) (mps_2 : Int) (x_7 : T_api_Channel × (List (List Int))) (x_11 : Int) (l_19 : (List Int)) (x_20 : Int) : Option (Out ((List Int) × Int) (Sum ((List Int)) (Bool))) :=
  if (decide (x_20 < (len x_7.2))) = true then
    (idx x_7.2 x_20).bind fun x_21 =>
    (if (((len x_21) != mps_2) && (decide ((w64 (x_20 + 1)) < x_11))) = true then
      some (true)
    else
      (idx x_7.2 x_20).bind fun x_27 =>
      some (((len x_27) == 0))).bind fun z_23 =>
    if z_23 = true then
      some (.done (.inr false))
    else
      (idx x_7.2 x_20).bind fun x_24 =>
      (app 1 l_19 x_24).bind fun l_25 =>
      some (.next (l_25, w64 (x_20 + 1)))
  else
    some (.done (.inl (l_19)))

def wirelesslaw33_SduDivides (F : Nat) (b_1 : (List Int)) (mps_2 : Int) (credits_3 : Int) : Option (Bool) :=
  if (((((decide ((len b_1) > 4096)) || (decide (mps_2 < 23))) || (decide (mps_2 > 4096))) || (decide (credits_3 < 0))) || (decide (credits_3 > 65535))) = true then
    (wirelesslaw33_exampleHolds F).bind fun x_4 =>
    some x_4
  else
    (wirelesslaw33_end F 4096 mps_2 credits_3).bind fun x_5 =>
    (sdu_Queue F x_5 b_1).bind fun x_6 =>
    if (x_6.2 != 0) = true then
      some false
    else
      (sdu_Output F x_6.1).bind fun x_7 =>
      (irem (len b_1) 256).bind fun x_8 =>
      (iquo .i64 (len b_1) 256).bind fun x_9 =>
      (app 1 [wu8 x_8, wu8 x_9] b_1).bind fun l_10 =>
      (iquo .i64 (w64 ((w64 ((len l_10) + mps_2)) - 1)) mps_2).bind fun x_11 =>
      (iter (fun s => wirelesslaw33_SduDivides_l1 F mps_2 x_7 x_11 s.1 s.2) F ([], 0)).bind fun o =>
      match o with
      | .inl u => wirelesslaw33_SduDivides_j1 F credits_3 x_7 l_10 x_11 u
      | .inr u => some u

def wirelessref33_Queue (F : Nat) (c_1 : T_api_Channel) (sdu_2 : (List Int)) : Option (T_api_Channel × Int) :=
  if c_1.Failed = true then
    some (c_1, 9)
  else
    if (decide ((len sdu_2) > c_1.PeerMTU)) = true then
      some (c_1, 4)
    else
      if (decide ((len c_1.Out) ≥ 64)) = true then
        some (c_1, 8)
      else
        (app 24 ([] : (List (List Int))) c_1.Out).bind fun l_3 =>
        (app 1 ([] : (List Int)) sdu_2).bind fun l_4 =>
        (app 24 l_3 [l_4]).bind fun l_5 =>
        some ({ c_1 with Out := l_5 }, 0)

def sdu_more (F : Nat) (credits_1 : Int) (n_2 : Int) : Option (Int) :=
  if (decide (n_2 < 1)) = true then
    some 5
  else
    if (decide (n_2 > (w64 (65535 - credits_1)))) = true then
      some 19
    else
      some 0

def sdu_Grant_j1 (F : Nat) (x_3 : T_api_Channel) (x_4 : Int) (x_5 : Int) : Option (T_api_Channel × Int) :=
  some ({ x_3 with RxCredits := x_5 }, x_4)

def sdu_Grant (F : Nat) (c_1 : T_api_Channel) (n_2 : Int) : Option (T_api_Channel × Int) :=
  (sdu_copied F c_1).bind fun x_3 =>
  if x_3.Failed = true then
    some (x_3, 9)
  else
    (sdu_more F x_3.RxCredits n_2).bind fun x_4 =>
    if (x_4 == 0) = true then
      sdu_Grant_j1 F x_3 x_4 (w64 (x_3.RxCredits + n_2))
    else
      sdu_Grant_j1 F x_3 x_4 x_3.RxCredits

def wirelessref33_Grant (F : Nat) (c_1 : T_api_Channel) (n_2 : Int) : Option (T_api_Channel × Int) :=
  if c_1.Failed = true then
    some (c_1, 9)
  else
    if (decide (n_2 < 1)) = true then
      some (c_1, 5)
    else
      if (decide (n_2 > (w64 (65535 - c_1.RxCredits)))) = true then
        some (c_1, 19)
      else
        some ({ c_1 with RxCredits := w64 (c_1.RxCredits + n_2) }, 0)

def sdu_Credit_j1 (F : Nat) (x_3 : T_api_Channel) (x_4 : Int) (c_7 : T_api_Channel) : Option (T_api_Channel × Int) :=
  some ({ x_3 with TxCredits := c_7.TxCredits, Failed := c_7.Failed }, x_4)

def sdu_Credit (F : Nat) (c_1 : T_api_Channel) (n_2 : Int) : Option (T_api_Channel × Int) :=
  (sdu_copied F c_1).bind fun x_3 =>
  if x_3.Failed = true then
    some (x_3, 9)
  else
    (sdu_more F x_3.TxCredits n_2).bind fun x_4 =>
    if (x_4 == 0) = true then
      sdu_Credit_j1 F x_3 x_4 ({ x_3 with TxCredits := w64 (x_3.TxCredits + n_2) })
    else
      sdu_Credit_j1 F x_3 x_4 ({ x_3 with Failed := true })

def wirelessref33_Credit (F : Nat) (c_1 : T_api_Channel) (n_2 : Int) : Option (T_api_Channel × Int) :=
  if c_1.Failed = true then
    some (c_1, 9)
  else
    if ((decide (n_2 < 1)) || (decide (n_2 > (w64 (65535 - c_1.TxCredits))))) = true then
      if (decide (n_2 < 1)) = true then
        some ({ c_1 with Failed := true }, 5)
      else
        some ({ c_1 with Failed := true }, 19)
    else
      some ({ c_1 with TxCredits := w64 (c_1.TxCredits + n_2) }, 0)

def wirelesslaw33_SduQueues (F : Nat) (c_1 : T_api_Channel) (b_2 : (List Int)) (n_3 : Int) : Option (Bool) :=
  (wirelesslaw33_light F c_1).bind fun x_4 =>
  (if ((!x_4) || (decide ((len b_2) > 16384))) = true then
    some (true)
  else
    (wirelessref33_Check F c_1).bind fun x_43 =>
    some ((x_43 != 0))).bind fun z_6 =>
  if z_6 = true then
    (wirelesslaw33_exampleHolds F).bind fun x_7 =>
    some x_7
  else
    (sdu_Queue F c_1 b_2).bind fun x_8 =>
    (wirelessref33_Queue F c_1 b_2).bind fun x_9 =>
    (if (x_8.2 != x_9.2) = true then
      some (true)
    else
      (wirelessref33_SameChannel F x_8.1 x_9.1).bind fun x_41 =>
      some ((!x_41))).bind fun z_11 =>
    (if z_11 = true then
      some (true)
    else
      (wirelessref33_Check F x_8.1).bind fun x_39 =>
      some ((x_39 != 0))).bind fun z_13 =>
    if z_13 = true then
      some false
    else
      (sdu_Grant F c_1 n_3).bind fun x_14 =>
      (wirelessref33_Grant F c_1 n_3).bind fun x_15 =>
      (if (x_14.2 != x_15.2) = true then
        some (true)
      else
        (wirelessref33_SameChannel F x_14.1 x_15.1).bind fun x_37 =>
        some ((!x_37))).bind fun z_17 =>
      (if z_17 = true then
        some (true)
      else
        (wirelessref33_Check F x_14.1).bind fun x_35 =>
        some ((x_35 != 0))).bind fun z_19 =>
      if z_19 = true then
        some false
      else
        (sdu_Credit F c_1 n_3).bind fun x_20 =>
        (wirelessref33_Credit F c_1 n_3).bind fun x_21 =>
        (if (x_20.2 == x_21.2) = true then
          (wirelessref33_SameChannel F x_20.1 x_21.1).bind fun x_33 =>
          some (x_33)
        else
          some (false)).bind fun z_23 =>
        (if z_23 = true then
          (wirelessref33_Check F x_20.1).bind fun x_31 =>
          some ((x_31 == 0))
        else
          some (false)).bind fun z_25 =>
        (if z_25 = true then
          (wirelesslaw33_exampleHolds F).bind fun x_29 =>
          some (x_29)
        else
          some (false)).bind fun z_27 =>
        some z_27

def sdu_in (F : Nat) (n_1 : Int) (low_2 : Int) (high_3 : Int) : Option (Bool) :=
  some ((decide (n_1 ≥ low_2)) && (decide (n_1 ≤ high_3)))

def sdu_positions_j1 (F : Nat) (c_1 : T_api_Channel) (x_2 : Int) : Option (Int) :=
  (sdu_in F c_1.Sent 0 x_2).bind fun x_3 =>
  (if (!x_3) = true then
    some (true)
  else
    (sdu_in F c_1.Want (-1) c_1.MTU).bind fun x_7 =>
    some ((!x_7))).bind fun z_5 =>
  if ((z_5 || ((c_1.Want == (-1)) && (decide ((len c_1.In) > 0)))) || ((c_1.Want != (-1)) && (decide ((len c_1.In) ≥ c_1.Want)))) = true then
    some 1
  else
    some 0

def sdu_positions (F : Nat) (c_1 : T_api_Channel) : Option (Int) :=
  if (decide ((len c_1.Out) > 0)) = true then
    (idx c_1.Out 0).bind fun x_8 =>
    sdu_positions_j1 F c_1 (w64 (1 + (len x_8)))
  else
    sdu_positions_j1 F c_1 0

def sdu_Check_j2 (F : Nat) (c_1 : T_api_Channel) : Option (Int) :=
  (sdu_positions F c_1).bind fun x_7 =>
  some x_7

def sdu_Check_l1 (F : Nat) (c_1 : T_api_Channel) (x_8 : Int) : Option (Out (Int) (Sum (Unit) (Int))) :=
  if (decide (x_8 < (len c_1.Out))) = true then
    (idx c_1.Out x_8).bind fun x_9 =>
    if (decide ((len x_9) > c_1.PeerMTU)) = true then
      some (.done (.inr 4))
    else
      some (.next (w64 (x_8 + 1)))
  else
    some (.done (.inl ()))

def sdu_Check_j1 (F : Nat) (c_1 : T_api_Channel) : Option (Int) :=
  (sdu_in F c_1.TxCredits 0 65535).bind fun x_2 =>
  (if (!x_2) = true then
    some (true)
  else
    (sdu_in F c_1.RxCredits 0 65535).bind fun x_13 =>
    some ((!x_13))).bind fun z_4 =>
  (if z_4 = true then
    some (true)
  else
    (sdu_in F c_1.Given 0 65535).bind fun x_11 =>
    some ((!x_11))).bind fun z_6 =>
  if z_6 = true then
    some 5
  else
    if (decide ((len c_1.Out) > 64)) = true then
      some 4
    else
      (iter (fun s => sdu_Check_l1 F c_1 s) F (0)).bind fun o =>
      match o with
      | .inl u => sdu_Check_j2 F c_1
      | .inr u => some u

def sdu_Check_l2 (F : Nat) (c_1 : T_api_Channel) (x_14 : Int) : Option (Out (Int) (Sum (Unit) (Int))) :=
  if (decide (x_14 < 4)) = true then
    (idx [c_1.MTU, c_1.MPS, c_1.PeerMTU, c_1.PeerMPS] x_14).bind fun x_15 =>
    (sdu_in F x_15 23 4096).bind fun x_16 =>
    if (!x_16) = true then
      some (.done (.inr 5))
    else
      some (.next (w64 (x_14 + 1)))
  else
    some (.done (.inl ()))

def sdu_Check (F : Nat) (c_1 : T_api_Channel) : Option (Int) :=
  if ((((decide (c_1.Local < 64)) || (decide (c_1.Local > 127))) || (decide (c_1.Remote < 64))) || (decide (c_1.Remote > 127))) = true then
    some 5
  else
    if (c_1.PSM == 0) = true then
      some 1
    else
      (iter (fun s => sdu_Check_l2 F c_1 s) F (0)).bind fun o =>
      match o with
      | .inl u => sdu_Check_j1 F c_1
      | .inr u => some u

def wirelesslaw33_SduChecks_j1 (F : Nat) (z_4 : Bool) : Option (Bool) :=
  some z_4

def wirelesslaw33_SduChecks (F : Nat) (c_1 : T_api_Channel) : Option (Bool) :=
  (wirelesslaw33_light F c_1).bind fun x_2 =>
  if (!x_2) = true then
    (wirelesslaw33_exampleHolds F).bind fun x_3 =>
    some x_3
  else
    (sdu_Check F c_1).bind fun x_7 =>
    (wirelessref33_Check F c_1).bind fun x_8 =>
    if (x_7 == x_8) = true then
      (wirelesslaw33_exampleHolds F).bind fun x_10 =>
      wirelesslaw33_SduChecks_j1 F x_10
    else
      wirelesslaw33_SduChecks_j1 F false

end V
end Go.Proofs.Ytfdiabglpgkbeaa
