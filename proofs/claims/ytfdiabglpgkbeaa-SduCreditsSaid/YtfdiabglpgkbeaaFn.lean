/-
  Pure twins of the Go functions, written by program.
-/
import Derived.Test.YtfdiabglpgkbeaaPure
namespace Go.Proofs.Ytfdiabglpgkbeaa
namespace V
structure T_wirelesslaw33_Step where
  Kind : Int
  SDU : (List Int)
  N : Int

structure T_wirelesslaw33_Way where
  MTU : Int
  MPS : Int
  Credits : Int
  Steps : (List T_wirelesslaw33_Step)

structure T_api_Channel where
  Local : Int
  Remote : Int
  PSM : Int
  MTU : Int
  MPS : Int
  PeerMTU : Int
  PeerMPS : Int
  TxCredits : Int
  RxCredits : Int
  Given : Int
  Out : (List (List Int))
  Sent : Int
  In : (List Int)
  Want : Int
  Failed : Bool

structure T_wirelesslaw33_wire where
  a : T_api_Channel
  b : T_api_Channel
  frames : (List (List Int))
  credits : (List Int)
  queued : (List (List Int))
  got : (List (List Int))
  bad : Bool

def wirelesslaw33_end (F : Nat) (mtu_1 : Int) (mps_2 : Int) (credits_3 : Int) : Option (T_api_Channel) :=
  some (T_api_Channel.mk 64 65 1 mtu_1 mps_2 mtu_1 mps_2 credits_3 credits_3 0 [] 0 [] (-1) false)

def octets_Join_j1 (F : Nat) (l_2 : (List Int)) : Option ((List Int)) :=
  some l_2

def octets_Join_l1 (F : Nat) (parts_1 : (List (List Int))) (l_3 : (List Int)) (x_4 : Int) : Option (Out ((List Int) × Int) ((List Int))) :=
  if (decide (x_4 < (len parts_1))) = true then
    (idx parts_1 x_4).bind fun x_5 =>
    (app 1 l_3 x_5).bind fun l_6 =>
    some (.next (l_6, w64 (x_4 + 1)))
  else
    some (.done (l_3))

def octets_Join (F : Nat) (parts_1 : (List (List Int))) : Option ((List Int)) :=
  (iter (fun s => octets_Join_l1 F parts_1 s.1 s.2) F ([], 0)).bind fun o =>
  octets_Join_j1 F o

def sdu_copied_j1 (F : Nat) (c_1 : T_api_Channel) (l_2 : (List (List Int))) : Option (T_api_Channel) :=
  (octets_Join F [c_1.In]).bind fun x_3 =>
  some ({ c_1 with Out := l_2, In := x_3 })

def sdu_copied_l1 (F : Nat) (c_1 : T_api_Channel) (l_4 : (List (List Int))) (x_5 : Int) : Option (Out ((List (List Int)) × Int) ((List (List Int)))) :=
  if (decide (x_5 < (len c_1.Out))) = true then
    (idx c_1.Out x_5).bind fun x_6 =>
    (mk 1 0 (len x_6)).bind fun l_7 =>
    (app 24 l_4 [cpy l_7 x_6]).bind fun l_8 =>
    some (.next (l_8, w64 (x_5 + 1)))
  else
    some (.done (l_4))

def sdu_copied (F : Nat) (c_1 : T_api_Channel) : Option (T_api_Channel) :=
  (iter (fun s => sdu_copied_l1 F c_1 s.1 s.2) F ([], 0)).bind fun o =>
  sdu_copied_j1 F c_1 o

def sdu_Queue_j1 (F : Nat) (x_3 : T_api_Channel) (l_4 : (List (List Int))) : Option (T_api_Channel × Int) :=
  some ({ x_3 with Out := l_4 }, 0)

def sdu_Queue (F : Nat) (c_1 : T_api_Channel) (sdu_2 : (List Int)) : Option (T_api_Channel × Int) :=
  (sdu_copied F c_1).bind fun x_3 =>
  if x_3.Failed = true then
    some (x_3, 9)
  else
    if (decide ((len sdu_2) > x_3.PeerMTU)) = true then
      some (x_3, 4)
    else
      if (decide ((len x_3.Out) ≥ 64)) = true then
        some (x_3, 8)
      else
        (octets_Join F [sdu_2]).bind fun x_327 =>
        (app 24 x_3.Out [x_327]).bind fun l_487 =>
        sdu_Queue_j1 F x_3 l_487

def sdu_form (F : Nat) (sdu_1 : (List Int)) : Option ((List Int)) :=
  (octets_Join F [[wu8 (len sdu_1), wu8 (shrp (len sdu_1) 8)], sdu_1]).bind fun x_2 =>
  some x_2

def sdu_Output_1 (F : Nat) (p_1 : T_api_Channel) (p_2 : (List (List Int))) : Option (T_api_Channel × (List (List Int))) :=
  (idx p_1.Out 0).bind fun x_3 =>
  (sdu_form F x_3).bind fun x_4 =>
  (mk 1 0 (imin (imax 1 (imin p_1.PeerMPS (w64 ((len x_4) - (imax 0 (imin p_1.Sent (len x_4))))))) (w64 ((len x_4) - (imax 0 (imin p_1.Sent (len x_4))))))).bind fun l_5 =>
  (sub x_4 (imax 0 (imin p_1.Sent (len x_4))) (len x_4)).bind fun l_6 =>
  (app 24 p_2 [cpy l_5 l_6]).bind fun l_7 =>
  if (decide ((w64 ((imax 0 (imin p_1.Sent (len x_4))) + (imax 1 (imin p_1.PeerMPS (w64 ((len x_4) - (imax 0 (imin p_1.Sent (len x_4))))))))) ≥ (len x_4))) = true then
    (sub p_1.Out 1 (len p_1.Out)).bind fun l_8 =>
    some ({ p_1 with TxCredits := w64 (p_1.TxCredits - 1), Out := l_8, Sent := 0 }, l_7)
  else
    some ({ p_1 with TxCredits := w64 (p_1.TxCredits - 1), Sent := w64 ((imax 0 (imin p_1.Sent (len x_4))) + (imax 1 (imin p_1.PeerMPS (w64 ((len x_4) - (imax 0 (imin p_1.Sent (len x_4)))))))) }, l_7)

def sdu_Output_j2 (F : Nat) (c_18 : T_api_Channel) (l_19 : (List (List Int))) : Option (T_api_Channel × (List (List Int))) :=
  some (c_18, l_19)

def sdu_Output_j1 (F : Nat) (c_18 : T_api_Channel) (l_19 : (List (List Int))) : Option (T_api_Channel × (List (List Int))) :=
  sdu_Output_j2 F c_18 l_19

def sdu_Output_l1 (F : Nat) (c_37 : T_api_Channel) (l_38 : (List (List Int))) : Option (Out (T_api_Channel × (List (List Int))) (T_api_Channel × (List (List Int)))) :=
  if ((decide ((len c_37.Out) > 0)) && (decide (c_37.TxCredits > 0))) = true then
    (sdu_Output_1 F c_37 l_38).bind fun x_39 =>
    some (.next (x_39.1, x_39.2))
  else
    some (.done (c_37, l_38))

def sdu_Output (F : Nat) (c_1 : T_api_Channel) : Option (T_api_Channel × (List (List Int))) :=
  (sdu_copied F c_1).bind fun x_2 =>
  if x_2.Failed = true then
    some (x_2, [])
  else
    (iter (fun s => sdu_Output_l1 F s.1 s.2) F (x_2, [])).bind fun o =>
    sdu_Output_j1 F o.1 o.2

def sdu_taken_j1 (F : Nat) (c_1 : T_api_Channel) (b_2 : (List Int)) : Option ((List Int) × Int × Int) :=
  some (b_2, c_1.Want, 0)

def sdu_taken_j2 (F : Nat) (c_1 : T_api_Channel) (b_2 : (List Int)) (x_5 : Int) : Option ((List Int) × Int × Int) :=
  if ((decide (x_5 > c_1.MTU)) || (decide (x_5 < (w64 ((len b_2) - 2))))) = true then
    some ([], 0, 4)
  else
    (sub b_2 2 (len b_2)).bind fun l_6 =>
    some (l_6, x_5, 0)

def sdu_taken (F : Nat) (c_1 : T_api_Channel) (b_2 : (List Int)) : Option ((List Int) × Int × Int) :=
  if (decide (c_1.RxCredits ≤ 0)) = true then
    some ([], 0, 19)
  else
    if (decide ((len b_2) > c_1.MPS)) = true then
      some ([], 0, 4)
    else
      if (c_1.Want != (-1)) = true then
        if ((len b_2) == 0) = true then
          some ([], 0, 3)
        else
          if (decide ((w64 ((len c_1.In) + (len b_2))) > c_1.Want)) = true then
            some ([], 0, 4)
          else
            sdu_taken_j1 F c_1 b_2
      else
        if (decide ((len b_2) < 2)) = true then
          some ([], 0, 3)
        else
          (idx b_2 0).bind fun x_7 =>
          (idx b_2 1).bind fun x_8 =>
          sdu_taken_j2 F c_1 b_2 (ior .i64 (w64 x_7) (shlp .i64 (w64 x_8) 8))

def sdu_Input (F : Nat) (c_1 : T_api_Channel) (b_2 : (List Int)) : Option (T_api_Channel × (List (List Int)) × Int) :=
  (sdu_copied F c_1).bind fun x_3 =>
  if x_3.Failed = true then
    some (x_3, [], 9)
  else
    (sdu_taken F x_3 b_2).bind fun x_4 =>
    if (x_4.2.2 != 0) = true then
      some ({ x_3 with Failed := true }, [], x_4.2.2)
    else
      (octets_Join F [x_3.In, x_4.1]).bind fun x_5 =>
      if (decide ((len x_5) < x_4.2.1)) = true then
        some ({ x_3 with RxCredits := w64 (x_3.RxCredits - 1), In := x_5, Want := x_4.2.1 }, [], 0)
      else
        some ({ x_3 with RxCredits := w64 (x_3.RxCredits - 1), In := [], Want := (-1) }, [x_5], 0)

def wirelesslaw33_exampleHolds_j1 (F : Nat) (c_16 : T_api_Channel) (x_17 : Int) : Option (Bool) :=
  (sdu_Output F c_16).bind fun x_18 =>
  (wirelesslaw33_end F 40 23 0).bind fun x_19 =>
  (sdu_Input F x_19 [0, 0]).bind fun x_20 =>
  (wirelesslaw33_end F 40 23 1).bind fun x_21 =>
  (sdu_Input F x_21 [0]).bind fun x_22 =>
  (wirelesslaw33_end F 40 23 1).bind fun x_23 =>
  (sdu_Input F x_23 [0, 0]).bind fun x_24 =>
  (if ((x_17 == 0) && ((len x_18.2) == 2)) = true then
    (idx x_18.2 0).bind fun x_41 =>
    some (((len x_41) == 23))
  else
    some (false)).bind fun z_26 =>
  (if z_26 = true then
    (idx x_18.2 1).bind fun x_39 =>
    some (((len x_39) == 9))
  else
    some (false)).bind fun z_28 =>
  (if z_28 = true then
    (idx x_18.2 0).bind fun x_36 =>
    (idx x_36 0).bind fun x_37 =>
    some ((x_37 == 30))
  else
    some (false)).bind fun z_30 =>
  (if ((((((z_30 && (x_18.1.TxCredits == 3)) && (x_20.2.2 == 19)) && x_20.1.Failed) && (x_22.2.2 == 3)) && (x_24.2.2 == 0)) && ((len x_24.2.1) == 1)) = true then
    (idx x_24.2.1 0).bind fun x_34 =>
    some (((len x_34) == 0))
  else
    some (false)).bind fun z_32 =>
  some z_32

def wirelesslaw33_exampleHolds (F : Nat) : Option (Bool) :=
  (wirelesslaw33_end F 40 23 5).bind fun x_44 =>
  (mk 1 0 30).bind fun l_124 =>
  (sdu_Queue F x_44 l_124).bind fun x_204 =>
  wirelesslaw33_exampleHolds_j1 F x_204.1 x_204.2

def wirelessref33_isCID (F : Nat) (n_1 : Int) : Option (Bool) :=
  some ((decide (n_1 ≥ 64)) && (decide (n_1 ≤ 127)))

def wirelessref33_isSize (F : Nat) (n_1 : Int) : Option (Bool) :=
  some ((decide (n_1 ≥ 23)) && (decide (n_1 ≤ 4096)))

def wirelessref33_isCount (F : Nat) (n_1 : Int) : Option (Bool) :=
  some ((decide (n_1 ≥ 0)) && (decide (n_1 ≤ 65535)))

def wirelessref33_Check_j2 (F : Nat) (c_1 : T_api_Channel) (x_18 : Int) : Option (Int) :=
  if ((((decide (c_1.Sent < 0)) || (decide (c_1.Sent > x_18))) || (decide (c_1.Want < (-1)))) || (decide (c_1.Want > c_1.MTU))) = true then
    some 1
  else
    if (((c_1.Want == (-1)) && (decide ((len c_1.In) > 0))) || ((decide (c_1.Want ≥ 0)) && (decide ((len c_1.In) ≥ c_1.Want)))) = true then
      some 1
    else
      some 0

def wirelessref33_Check_j1 (F : Nat) (c_1 : T_api_Channel) : Option (Int) :=
  if (decide ((len c_1.Out) > 0)) = true then
    (idx c_1.Out 0).bind fun x_19 =>
    wirelessref33_Check_j2 F c_1 (w64 (1 + (len x_19)))
  else
    wirelessref33_Check_j2 F c_1 0

def wirelessref33_Check_j3 (F : Nat) (x_20 : Int) (z_21 : Bool) : Option (Out (Int) (Sum (Unit) (Int))) :=
  if z_21 = true then
    some (.done (.inr 4))
  else
    some (.next (w64 (x_20 + 1)))

def wirelessref33_Check_l1 (F : Nat) (c_1 : T_api_Channel) (x_20 : Int) : Option (Out (Int) (Sum (Unit) (Int))) :=
  if (decide (x_20 < (len c_1.Out))) = true then
    (idx c_1.Out x_20).bind fun x_22 =>
    wirelessref33_Check_j3 F x_20 (decide ((len x_22) > c_1.PeerMTU))
  else
    some (.done (.inl ()))

def wirelessref33_Check (F : Nat) (c_1 : T_api_Channel) : Option (Int) :=
  (wirelessref33_isCID F c_1.Local).bind fun x_2 =>
  (if (!x_2) = true then
    some (true)
  else
    (wirelessref33_isCID F c_1.Remote).bind fun x_38 =>
    some ((!x_38))).bind fun z_4 =>
  if z_4 = true then
    some 5
  else
    if (c_1.PSM == 0) = true then
      some 1
    else
      (wirelessref33_isSize F c_1.MTU).bind fun x_5 =>
      (if (!x_5) = true then
        some (true)
      else
        (wirelessref33_isSize F c_1.MPS).bind fun x_36 =>
        some ((!x_36))).bind fun z_7 =>
      (if z_7 = true then
        some (true)
      else
        (wirelessref33_isSize F c_1.PeerMTU).bind fun x_34 =>
        some ((!x_34))).bind fun z_9 =>
      (if z_9 = true then
        some (true)
      else
        (wirelessref33_isSize F c_1.PeerMPS).bind fun x_32 =>
        some ((!x_32))).bind fun z_11 =>
      (if z_11 = true then
        some (true)
      else
        (wirelessref33_isCount F c_1.TxCredits).bind fun x_30 =>
        some ((!x_30))).bind fun z_13 =>
      (if z_13 = true then
        some (true)
      else
        (wirelessref33_isCount F c_1.RxCredits).bind fun x_28 =>
        some ((!x_28))).bind fun z_15 =>
      (if z_15 = true then
        some (true)
      else
        (wirelessref33_isCount F c_1.Given).bind fun x_26 =>
        some ((!x_26))).bind fun z_17 =>
      if z_17 = true then
        some 5
      else
        if (decide ((len c_1.Out) > 64)) = true then
          some 4
        else
          (iter (fun s => wirelessref33_Check_l1 F c_1 s) F (0)).bind fun o =>
          match o with
          | .inl u => wirelessref33_Check_j1 F c_1
          | .inr u => some u

def sdu_more (F : Nat) (credits_1 : Int) (n_2 : Int) : Option (Int) :=
  if (decide (n_2 < 1)) = true then
    some 5
  else
    if (decide (n_2 > (w64 (65535 - credits_1)))) = true then
      some 19
    else
      some 0

def sdu_Grant_j1 (F : Nat) (x_3 : T_api_Channel) (x_4 : Int) (x_5 : Int) : Option (T_api_Channel × Int) :=
  some ({ x_3 with RxCredits := x_5 }, x_4)

def sdu_Grant (F : Nat) (c_1 : T_api_Channel) (n_2 : Int) : Option (T_api_Channel × Int) :=
  (sdu_copied F c_1).bind fun x_3 =>
  if x_3.Failed = true then
    some (x_3, 9)
  else
    (sdu_more F x_3.RxCredits n_2).bind fun x_4 =>
    if (x_4 == 0) = true then
      sdu_Grant_j1 F x_3 x_4 (w64 (x_3.RxCredits + n_2))
    else
      sdu_Grant_j1 F x_3 x_4 x_3.RxCredits

def sdu_Credit_j1 (F : Nat) (x_3 : T_api_Channel) (x_4 : Int) (c_7 : T_api_Channel) : Option (T_api_Channel × Int) :=
  some ({ x_3 with TxCredits := c_7.TxCredits, Failed := c_7.Failed }, x_4)

def sdu_Credit (F : Nat) (c_1 : T_api_Channel) (n_2 : Int) : Option (T_api_Channel × Int) :=
  (sdu_copied F c_1).bind fun x_3 =>
  if x_3.Failed = true then
    some (x_3, 9)
  else
    (sdu_more F x_3.TxCredits n_2).bind fun x_4 =>
    if (x_4 == 0) = true then
      sdu_Credit_j1 F x_3 x_4 ({ x_3 with TxCredits := w64 (x_3.TxCredits + n_2) })
    else
      sdu_Credit_j1 F x_3 x_4 ({ x_3 with Failed := true })

def wirelesslaw33_wire_step_j1 (F : Nat) (c_38 : T_wirelesslaw33_wire) : Option (T_wirelesslaw33_wire) :=
  some c_38

def wirelesslaw33_wire_step_j3 (F : Nat) (w_1 : T_wirelesslaw33_wire) (c_54 : T_api_Channel) (l_56 : (List (List Int))) : Option (T_wirelesslaw33_wire) :=
  wirelesslaw33_wire_step_j1 F ({ w_1 with a := c_54, queued := l_56 })

def wirelesslaw33_wire_step_j2 (F : Nat) (w_1 : T_wirelesslaw33_wire) (x_2 : T_wirelesslaw33_Step) (c_54 : T_api_Channel) (x_55 : Int) : Option (T_wirelesslaw33_wire) :=
  if (x_55 == 0) = true then
    (app 24 w_1.queued [x_2.SDU]).bind fun l_699 =>
    wirelesslaw33_wire_step_j3 F w_1 c_54 l_699
  else
    wirelesslaw33_wire_step_j3 F w_1 c_54 w_1.queued

def wirelesslaw33_wire_step_j5 (F : Nat) (w_1 : T_wirelesslaw33_wire) (c_2243 : T_wirelesslaw33_wire) (x_2244 : Int) (c_2260 : T_api_Channel) (l_2261 : (List (List Int))) (x_2262 : Int) (l_2263 : (List (List Int))) : Option (Out (T_wirelesslaw33_wire × Int) (T_wirelesslaw33_wire)) :=
  (app 24 c_2243.got l_2261).bind fun l_2264 =>
  some (.next ({ w_1 with b := c_2260, frames := l_2263, got := l_2264, bad := (x_2262 != 0) }, w64 (x_2244 + 1)))

def wirelesslaw33_wire_step_j4 (F : Nat) (w_1 : T_wirelesslaw33_wire) (c_2243 : T_wirelesslaw33_wire) (x_2244 : Int) (c_2260 : T_api_Channel) (l_2261 : (List (List Int))) (x_2262 : Int) : Option (Out (T_wirelesslaw33_wire × Int) (T_wirelesslaw33_wire)) :=
  (sub c_2243.frames 1 (len c_2243.frames)).bind fun l_2827 =>
  wirelesslaw33_wire_step_j5 F w_1 c_2243 x_2244 c_2260 l_2261 x_2262 l_2827

def wirelesslaw33_wire_step_l1 (F : Nat) (w_1 : T_wirelesslaw33_wire) (x_2 : T_wirelesslaw33_Step) (c_2243 : T_wirelesslaw33_wire) (x_2244 : Int) : Option (Out (T_wirelesslaw33_wire × Int) (T_wirelesslaw33_wire)) :=
  if (((decide (x_2244 < (w64 x_2.N))) && (decide ((len c_2243.frames) > 0))) && (!c_2243.bad)) = true then
    (idx c_2243.frames 0).bind fun x_4109 =>
    (idx c_2243.frames 0).bind fun x_4189 =>
    (sdu_Input F c_2243.b x_4189).bind fun x_4269 =>
    wirelesslaw33_wire_step_j4 F w_1 c_2243 x_2244 x_4269.1 x_4269.2.1 x_4269.2.2
  else
    some (.done ({ c_2243 with a := w_1.a, credits := w_1.credits, queued := w_1.queued }))

def wirelesslaw33_wire_step_j7 (F : Nat) (w_1 : T_wirelesslaw33_wire) (c_5084 : T_api_Channel) (l_5086 : (List Int)) : Option (T_wirelesslaw33_wire) :=
  wirelesslaw33_wire_step_j1 F ({ w_1 with b := c_5084, credits := l_5086 })

def wirelesslaw33_wire_step_j6 (F : Nat) (w_1 : T_wirelesslaw33_wire) (x_2 : T_wirelesslaw33_Step) (c_5084 : T_api_Channel) (x_5085 : Int) : Option (T_wirelesslaw33_wire) :=
  if (x_5085 == 0) = true then
    (app 8 w_1.credits [w64 x_2.N]).bind fun l_5809 =>
    wirelesslaw33_wire_step_j7 F w_1 c_5084 l_5809
  else
    wirelesslaw33_wire_step_j7 F w_1 c_5084 w_1.credits

def wirelesslaw33_wire_step_j9 (F : Nat) (w_1 : T_wirelesslaw33_wire) (x_7429 : Int) (c_7445 : T_api_Channel) (x_7446 : Int) (l_7447 : (List Int)) : Option (Out (T_wirelesslaw33_wire × Int) (T_wirelesslaw33_wire)) :=
  some (.next ({ w_1 with a := c_7445, credits := l_7447, bad := (x_7446 != 0) }, w64 (x_7429 + 1)))

def wirelesslaw33_wire_step_j8 (F : Nat) (w_1 : T_wirelesslaw33_wire) (c_7428 : T_wirelesslaw33_wire) (x_7429 : Int) (c_7445 : T_api_Channel) (x_7446 : Int) : Option (Out (T_wirelesslaw33_wire × Int) (T_wirelesslaw33_wire)) :=
  (sub c_7428.credits 1 (len c_7428.credits)).bind fun l_8010 =>
  wirelesslaw33_wire_step_j9 F w_1 x_7429 c_7445 x_7446 l_8010

def wirelesslaw33_wire_step_l2 (F : Nat) (w_1 : T_wirelesslaw33_wire) (x_2 : T_wirelesslaw33_Step) (c_7428 : T_wirelesslaw33_wire) (x_7429 : Int) : Option (Out (T_wirelesslaw33_wire × Int) (T_wirelesslaw33_wire)) :=
  if (((decide (x_7429 < (w64 x_2.N))) && (decide ((len c_7428.credits) > 0))) && (!c_7428.bad)) = true then
    (idx c_7428.credits 0).bind fun x_9292 =>
    (idx c_7428.credits 0).bind fun x_9372 =>
    (sdu_Credit F c_7428.a x_9372).bind fun x_9452 =>
    wirelesslaw33_wire_step_j8 F w_1 c_7428 x_7429 x_9452.1 x_9452.2
  else
    some (.done ({ w_1 with a := c_7428.a, credits := c_7428.credits, bad := c_7428.bad }))

def wirelesslaw33_wire_step (F : Nat) (w_1 : T_wirelesslaw33_wire) (x_2 : T_wirelesslaw33_Step) : Option (T_wirelesslaw33_wire) :=
  if ((remp x_2.Kind 5) == 0) = true then
    (sdu_Queue F w_1.a x_2.SDU).bind fun x_1581 =>
    wirelesslaw33_wire_step_j2 F w_1 x_2 x_1581.1 x_1581.2
  else
    if ((remp x_2.Kind 5) == 1) = true then
      (sdu_Output F w_1.a).bind fun x_2221 =>
      (app 24 w_1.frames x_2221.2).bind fun l_2224 =>
      wirelesslaw33_wire_step_j1 F ({ w_1 with a := x_2221.1, frames := l_2224 })
    else
      if ((remp x_2.Kind 5) == 2) = true then
        (iter (fun s => wirelesslaw33_wire_step_l1 F w_1 x_2 s.1 s.2) F (w_1, 0)).bind fun o =>
        wirelesslaw33_wire_step_j1 F o
      else
        if ((remp x_2.Kind 5) == 3) = true then
          (sdu_Grant F w_1.b (w64 x_2.N)).bind fun x_6771 =>
          wirelesslaw33_wire_step_j6 F w_1 x_2 x_6771.1 x_6771.2
        else
          if ((remp x_2.Kind 5) == 4) = true then
            (iter (fun s => wirelesslaw33_wire_step_l2 F w_1 x_2 s.1 s.2) F (w_1, 0)).bind fun o =>
            wirelesslaw33_wire_step_j1 F o
          else
            wirelesslaw33_wire_step_j1 F w_1

def wirelessref23_Same (F : Nat) (a_1 : (List Int)) (b_2 : (List Int)) : Option (Bool) :=
  some ((str a_1) == (str b_2))

def wirelessref33_SameLists_j1 (F : Nat) : Option (Bool) :=
  some true

def wirelessref33_SameLists_j2 (F : Nat) (x_3 : Int) (z_4 : Bool) : Option (Out (Int) (Sum (Unit) (Bool))) :=
  if z_4 = true then
    some (.done (.inr false))
  else
    some (.next (w64 (x_3 + 1)))

def wirelessref33_SameLists_l1 (F : Nat) (a_1 : (List (List Int))) (b_2 : (List (List Int))) (x_3 : Int) : Option (Out (Int) (Sum (Unit) (Bool))) :=
  if (decide (x_3 < (len a_1))) = true then
    (idx a_1 x_3).bind fun x_5 =>
    (idx b_2 x_3).bind fun x_6 =>
    (wirelessref23_Same F x_5 x_6).bind fun x_9 =>
    wirelessref33_SameLists_j2 F x_3 (!x_9)
  else
    some (.done (.inl ()))

def wirelessref33_SameLists (F : Nat) (a_1 : (List (List Int))) (b_2 : (List (List Int))) : Option (Bool) :=
  if ((len a_1) != (len b_2)) = true then
    some false
  else
    (iter (fun s => wirelessref33_SameLists_l1 F a_1 b_2 s) F (0)).bind fun o =>
    match o with
    | .inl u => wirelessref33_SameLists_j1 F
    | .inr u => some u

def wirelesslaw33_wire_sound_j4 (F : Nat) (z_3 : Bool) : Option (Bool) :=
  some z_3

def wirelesslaw33_wire_sound_j3 (F : Nat) (w_1 : T_wirelesslaw33_wire) (x_2 : Int) : Option (Bool) :=
  if ((w_1.bad || (x_2 != w_1.b.RxCredits)) || (decide ((len w_1.got) > (len w_1.queued)))) = true then
    some false
  else
    (sub w_1.queued 0 (len w_1.got)).bind fun l_6 =>
    (wirelessref33_SameLists F w_1.got l_6).bind fun x_7 =>
    wirelesslaw33_wire_sound_j4 F x_7

def wirelesslaw33_wire_sound_j2 (F : Nat) (w_1 : T_wirelesslaw33_wire) (x_2 : Int) : Option (Bool) :=
  wirelesslaw33_wire_sound_j3 F w_1 x_2

def wirelesslaw33_wire_sound_l1 (F : Nat) (w_1 : T_wirelesslaw33_wire) (x_10 : Int) (x_11 : Int) : Option (Out (Int × Int) (Int)) :=
  if (decide (x_11 < (len w_1.credits))) = true then
    (idx w_1.credits x_11).bind fun x_12 =>
    some (.next (w64 (x_10 + x_12), w64 (x_11 + 1)))
  else
    some (.done (x_10))

def wirelesslaw33_wire_sound_j1 (F : Nat) (w_1 : T_wirelesslaw33_wire) : Option (Bool) :=
  (iter (fun s => wirelesslaw33_wire_sound_l1 F w_1 s.1 s.2) F (w64 (w_1.a.TxCredits + (len w_1.frames)), 0)).bind fun o =>
  wirelesslaw33_wire_sound_j2 F w_1 o

def wirelesslaw33_wire_sound (F : Nat) (w_1 : T_wirelesslaw33_wire) : Option (Bool) :=
  wirelesslaw33_wire_sound_j1 F w_1

def wirelesslaw33_SduCredits_j5 (F : Nat) (z_108 : Bool) : Option (Bool) :=
  some z_108

def wirelesslaw33_SduCredits_j4 (F : Nat) (c_107 : T_wirelesslaw33_wire) : Option (Bool) :=
  if ((len c_107.got) == (len c_107.queued)) = true then
    (wirelesslaw33_exampleHolds F).bind fun x_112 =>
    wirelesslaw33_SduCredits_j5 F x_112
  else
    wirelesslaw33_SduCredits_j5 F false

def wirelesslaw33_SduCredits_j7 (F : Nat) (x_149 : Int) (c_185 : T_wirelesslaw33_wire) : Option (Out (T_wirelesslaw33_wire × Int) (Sum (T_wirelesslaw33_wire) (Bool))) :=
  some (.next (c_185, w64 (x_149 + 1)))

def wirelesslaw33_SduCredits_j8 (F : Nat) (x_149 : Int) (c_224 : T_wirelesslaw33_wire) : Option (Out (T_wirelesslaw33_wire × Int) (Sum (T_wirelesslaw33_wire) (Bool))) :=
  (wirelesslaw33_wire_sound F c_224).bind fun x_225 =>
  if (!x_225) = true then
    some (.done (.inr false))
  else
    wirelesslaw33_SduCredits_j7 F x_149 c_224

def wirelesslaw33_SduCredits_l2 (F : Nat) (c_261 : T_wirelesslaw33_wire) : Option (Out (T_wirelesslaw33_wire) (T_wirelesslaw33_wire)) :=
  if ((decide ((len c_261.frames) > 0)) && (!c_261.bad)) = true then
    (wirelesslaw33_wire_step F c_261 (T_wirelesslaw33_Step.mk 2 [] 255)).bind fun x_262 =>
    some (.next (x_262))
  else
    some (.done (c_261))

def wirelesslaw33_SduCredits_j6 (F : Nat) (c_148 : T_wirelesslaw33_wire) (x_149 : Int) : Option (Out (T_wirelesslaw33_wire × Int) (Sum (T_wirelesslaw33_wire) (Bool))) :=
  if ((decide (x_149 < 100)) && (decide ((len c_148.got) < (len c_148.queued)))) = true then
    (wirelesslaw33_wire_step F c_148 (T_wirelesslaw33_Step.mk 3 [] 60)).bind fun x_186 =>
    (wirelesslaw33_wire_step F x_186 (T_wirelesslaw33_Step.mk 4 [] 255)).bind fun x_187 =>
    (wirelesslaw33_wire_step F x_187 (T_wirelesslaw33_Step.mk 1 [] 0)).bind fun x_188 =>
    (iter (fun s => wirelesslaw33_SduCredits_l2 F s) F (x_188)).bind fun o =>
    wirelesslaw33_SduCredits_j8 F x_149 o
  else
    some (.done (.inl (c_148)))

def wirelesslaw33_SduCredits_l1 (F : Nat) (c_148 : T_wirelesslaw33_wire) (x_149 : Int) : Option (Out (T_wirelesslaw33_wire × Int) (Sum (T_wirelesslaw33_wire) (Bool))) :=
  wirelesslaw33_SduCredits_j6 F c_148 x_149

def wirelesslaw33_SduCredits_j3 (F : Nat) (c_71 : T_wirelesslaw33_wire) : Option (Bool) :=
  (iter (fun s => wirelesslaw33_SduCredits_l1 F s.1 s.2) F (c_71, 0)).bind fun o =>
  match o with
  | .inl u => wirelesslaw33_SduCredits_j4 F u
  | .inr u => some u

def wirelesslaw33_SduCredits_l3 (F : Nat) (x_1 : T_wirelesslaw33_Way) (c_300 : T_wirelesslaw33_wire) (x_301 : Int) : Option (Out (T_wirelesslaw33_wire × Int) (Sum (T_wirelesslaw33_wire) (Bool))) :=
  if (decide (x_301 < (len x_1.Steps))) = true then
    (idx x_1.Steps x_301).bind fun x_302 =>
    (wirelesslaw33_wire_step F c_300 x_302).bind fun x_303 =>
    (wirelesslaw33_wire_sound F x_303).bind fun x_304 =>
    if (!x_304) = true then
      some (.done (.inr false))
    else
      some (.next (x_303, w64 (x_301 + 1)))
  else
    some (.done (.inl (c_300)))

def wirelesslaw33_SduCredits_j2 (F : Nat) (x_1 : T_wirelesslaw33_Way) (x_2 : Int) (x_3 : Int) (x_4 : Int) (x_5 : Int) (x_6 : Int) (x_7 : Int) (x_8 : Int) (x_9 : Int) (x_10 : Int) (x_11 : Int) (x_12 : Int) (l_13 : (List (List Int))) (x_14 : Int) (l_15 : (List Int)) (x_16 : Int) (z_17 : Bool) (x_18 : Int) (x_19 : Int) (x_20 : Int) (x_21 : Int) (x_22 : Int) (x_23 : Int) (x_24 : Int) (x_25 : Int) (x_26 : Int) (x_27 : Int) (l_28 : (List (List Int))) (x_29 : Int) (l_30 : (List Int)) (x_31 : Int) (z_32 : Bool) : Option (Bool) :=
  (if ((decide ((len x_1.Steps) > 60)) || (decide (x_2 > 16384))) = true then
    some (true)
  else
    (wirelessref33_Check F (T_api_Channel.mk x_3 x_4 x_5 x_6 x_7 x_8 x_9 x_10 x_11 x_12 l_13 x_14 l_15 x_16 z_17)).bind fun x_306 =>
    some ((x_306 != 0))).bind fun z_34 =>
  if z_34 = true then
    (wirelesslaw33_exampleHolds F).bind fun x_35 =>
    some x_35
  else
    (iter (fun s => wirelesslaw33_SduCredits_l3 F x_1 s.1 s.2) F ((T_wirelesslaw33_wire.mk (T_api_Channel.mk x_3 x_4 x_5 x_6 x_7 x_8 x_9 x_10 x_11 x_12 l_13 x_14 l_15 x_16 z_17) (T_api_Channel.mk x_18 x_19 x_20 x_21 x_22 x_23 x_24 x_25 x_26 x_27 l_28 x_29 l_30 x_31 z_32) [] [] [] [] false), 0)).bind fun o =>
    match o with
    | .inl u => wirelesslaw33_SduCredits_j3 F u
    | .inr u => some u

def wirelesslaw33_SduCredits_j1 (F : Nat) (x_1 : T_wirelesslaw33_Way) (x_2 : Int) : Option (Bool) :=
  (wirelesslaw33_end F x_1.MTU x_1.MPS x_1.Credits).bind fun x_309 =>
  (wirelesslaw33_end F x_1.MTU x_1.MPS x_1.Credits).bind fun x_310 =>
  wirelesslaw33_SduCredits_j2 F x_1 x_2 x_309.Local x_309.Remote x_309.PSM x_309.MTU x_309.MPS x_309.PeerMTU x_309.PeerMPS x_309.TxCredits x_309.RxCredits x_309.Given x_309.Out x_309.Sent x_309.In x_309.Want x_309.Failed x_310.Local x_310.Remote x_310.PSM x_310.MTU x_310.MPS x_310.PeerMTU x_310.PeerMPS x_310.TxCredits x_310.RxCredits x_310.Given x_310.Out x_310.Sent x_310.In x_310.Want x_310.Failed

def wirelesslaw33_SduCredits_l4 (F : Nat) (x_1 : T_wirelesslaw33_Way) (x_311 : Int) (x_312 : Int) : Option (Out (Int × Int) (Sum (Int) (Bool))) :=
  if ((decide (x_312 < (len x_1.Steps))) && (decide (x_312 < 60))) = true then
    (idx x_1.Steps x_312).bind fun x_313 =>
    if (decide ((len x_313.SDU) > 16384)) = true then
      (wirelesslaw33_exampleHolds F).bind fun x_314 =>
      some (.done (.inr x_314))
    else
      (idx x_1.Steps x_312).bind fun x_315 =>
      some (.next (w64 (x_311 + (len x_315.SDU)), w64 (x_312 + 1)))
  else
    some (.done (.inl (x_311)))

def wirelesslaw33_SduCredits (F : Nat) (x_1 : T_wirelesslaw33_Way) : Option (Bool) :=
  (iter (fun s => wirelesslaw33_SduCredits_l4 F x_1 s.1 s.2) F (0, 0)).bind fun o =>
  match o with
  | .inl u => wirelesslaw33_SduCredits_j1 F x_1 u
  | .inr u => some u

end V
end Go.Proofs.Ytfdiabglpgkbeaa
