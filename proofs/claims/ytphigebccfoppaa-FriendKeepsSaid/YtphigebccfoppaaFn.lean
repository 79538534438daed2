/-
  Pure twins of the Go functions, written by program.
-/
import Derived.Test.YtphigebccfoppaaPure
namespace Go.Proofs.Ytphigebccfoppaa
namespace V
structure T_wirelesslaw51_Event where
  Keep : Bool
  PollLost : Bool
  AnswerLost : Bool

structure T_api_NetPDU where
  IV : Int
  NID : Int
  Control : Bool
  TTL : Int
  Seq : Int
  Src : Int
  Dst : Int
  Payload : (List Int)

structure T_api_Lower where
  Control : Bool
  Segmented : Bool
  App : Bool
  Zero : Int
  Index : Int
  Last : Int
  Opcode : Int
  Block : Int
  Friend : Bool
  Bytes : (List Int)

structure T_api_Queued where
  PDU : T_api_NetPDU
  Lower : T_api_Lower

structure T_api_Friend where
  Low : Int
  Queue : (List T_api_Queued)
  Subs : (List Int)
  Bit : Int
  Sent : Bool
  Polled : Int
  Counter : Int
  Dropped : Int

structure T_api_LowPower where
  Phase : Int
  Friend : Int
  Bit : Int
  Counter : Int
  Due : Int
  Tries : Int
  Subs : (List Int)
  Told : Int
  More : Bool
  Last : Int

structure T_wirelesslaw51_pair where
  f : T_api_Friend
  l : T_api_LowPower
  kept : (List Int)
  got : (List Int)
  ended : Bool

def slices_Clone_uint16_uint16 (F : Nat) (s_1 : (List Int)) : Option ((List Int)) :=
  (app 2 ([] : (List Int)) s_1).bind fun l_2 =>
  some l_2

def slices_Clone_api_Queued_api_Queued (F : Nat) (s_1 : (List T_api_Queued)) : Option ((List T_api_Queued)) :=
  (app 136 ([] : (List T_api_Queued)) s_1).bind fun l_2 =>
  some l_2

def slices_Clone_byte_byte (F : Nat) (s_1 : (List Int)) : Option ((List Int)) :=
  (app 1 ([] : (List Int)) s_1).bind fun l_2 =>
  some l_2

def friend_own (F : Nat) (q_1 : T_api_Queued) : Option (T_api_Queued) :=
  (slices_Clone_byte_byte F q_1.PDU.Payload).bind fun x_2 =>
  (slices_Clone_byte_byte F q_1.Lower.Bytes).bind fun x_3 =>
  some (T_api_Queued.mk ({ q_1.PDU with Payload := x_2 }) ({ q_1.Lower with Bytes := x_3 }))

def friend_apart_j1 (F : Nat) (f_1 : T_api_Friend) (x_2 : (List Int)) (l_4 : (List T_api_Queued)) : Option (T_api_Friend) :=
  some ({ f_1 with Queue := l_4, Subs := x_2 })

def friend_apart_l1 (F : Nat) (x_3 : (List T_api_Queued)) (l_5 : (List T_api_Queued)) (x_6 : Int) : Option (Out ((List T_api_Queued) × Int) ((List T_api_Queued))) :=
  if (decide (x_6 < (len x_3))) = true then
    (idx l_5 x_6).bind fun x_489 =>
    (idx l_5 x_6).bind fun x_569 =>
    (friend_own F x_569).bind fun x_649 =>
    (idx l_5 x_6).bind fun x_729 =>
    (upd l_5 x_6 x_649).bind fun l_809 =>
    some (.next (l_809, w64 (x_6 + 1)))
  else
    some (.done (l_5))

def friend_apart (F : Nat) (f_1 : T_api_Friend) : Option (T_api_Friend) :=
  (slices_Clone_uint16_uint16 F f_1.Subs).bind fun x_2 =>
  (slices_Clone_api_Queued_api_Queued F f_1.Queue).bind fun x_3 =>
  (iter (fun s => friend_apart_l1 F x_3 s.1 s.2) F (x_3, 0)).bind fun o =>
  friend_apart_j1 F f_1 x_2 o

def netpdu_Node (F : Nat) (a_1 : Int) : Option (Bool) :=
  some ((decide (a_1 > 0)) && (decide (a_1 ≤ 32767)))

def friend_over (F : Nat) (f_1 : T_api_Friend) (now_2 : Int) : Option (Bool) :=
  some (decide (now_2 ≥ (w64 (f_1.Polled + 200))))

def friend_Befriend (F : Nat) (f_1 : T_api_Friend) (low_2 : Int) (counter_3 : Int) (now_4 : Int) : Option (T_api_Friend × Bool) :=
  (friend_apart F f_1).bind fun x_5 =>
  (netpdu_Node F low_2).bind fun x_6 =>
  (if (((!x_6) || (decide (counter_3 < 0))) || (decide (counter_3 ≥ 65536))) = true then
    some (true)
  else
    if (x_5.Low != 0) = true then
      if (x_5.Low != low_2) = true then
        (friend_over F x_5 now_4).bind fun x_16 =>
        some ((!x_16))
      else
        some (false)
    else
      if false = true then
        (friend_over F x_5 now_4).bind fun x_18 =>
        some ((!x_18))
      else
        some (false)).bind fun z_8 =>
  if z_8 = true then
    some (x_5, false)
  else
    (if ((x_5.Low == low_2) && (x_5.Counter == counter_3)) = true then
      (friend_over F x_5 now_4).bind fun x_12 =>
      some ((!x_12))
    else
      some (false)).bind fun z_10 =>
    if z_10 = true then
      some ({ x_5 with Polled := now_4 }, true)
    else
      some ((T_api_Friend.mk low_2 [] [] 0 false now_4 counter_3 0), true)

def wirelesslaw51_queued (F : Nat) (n_1 : Int) : Option (T_api_Queued) :=
  some (T_api_Queued.mk (T_api_NetPDU.mk 0 0 false 0 n_1 7 0 []) (T_api_Lower.mk false false false 0 0 0 0 0 false []))

def friend_Keep_1 (F : Nat) (x_1 : T_api_Queued) (p_2 : T_api_Queued) : Option (Bool × T_api_Queued) :=
  some ((((x_1.PDU.Src == p_2.PDU.Src) && (x_1.PDU.IV == p_2.PDU.IV)) && (x_1.PDU.Seq == p_2.PDU.Seq)), p_2)

def slices_IndexFunc_api_Queued_api_Queued_at30_j1 (F : Nat) (c_21 : T_api_Queued) : Option (Int × T_api_Queued) :=
  some ((-1), c_21)

def slices_IndexFunc_api_Queued_api_Queued_at30_l1 (F : Nat) (s_1 : (List T_api_Queued)) (c_40 : T_api_Queued) (x_41 : Int) : Option (Out (T_api_Queued × Int) (Sum (T_api_Queued) (Int × T_api_Queued))) :=
  if (decide (x_41 < (len s_1))) = true then
    (idx s_1 x_41).bind fun x_42 =>
    (friend_Keep_1 F x_42 c_40).bind fun x_43 =>
    if x_43.1 = true then
      some (.done (.inr (x_41, x_43.2)))
    else
      some (.next (x_43.2, w64 (x_41 + 1)))
  else
    some (.done (.inl (c_40)))

def slices_IndexFunc_api_Queued_api_Queued_at30 (F : Nat) (s_1 : (List T_api_Queued)) (c_2 : T_api_Queued) : Option (Int × T_api_Queued) :=
  (iter (fun s => slices_IndexFunc_api_Queued_api_Queued_at30_l1 F s_1 s.1 s.2) F (c_2, 0)).bind fun o =>
  match o with
  | .inl u => slices_IndexFunc_api_Queued_api_Queued_at30_j1 F u
  | .inr u => some u

def slices_ContainsFunc_api_Queued_api_Queued_at30 (F : Nat) (s_1 : (List T_api_Queued)) (c_2 : T_api_Queued) : Option (Bool × T_api_Queued) :=
  (slices_IndexFunc_api_Queued_api_Queued_at30 F s_1 c_2).bind fun x_3 =>
  some (decide (x_3.1 ≥ 0), x_3.2)

def slices_Insert_api_Queued_api_Queued (F : Nat) (s_1 : (List T_api_Queued)) (i_2 : Int) (v_3 : (List T_api_Queued)) : Option ((List T_api_Queued)) :=
  (sub s_1 i_2 (len s_1)).bind fun l_4 =>
  if ((len v_3) == 0) = true then
    some s_1
  else
    if (i_2 == (len s_1)) = true then
      (app 136 s_1 v_3).bind fun l_5 =>
      some l_5
    else
      none

def friend_with_api_Queued_j1 (F : Nat) (l_4 : (List T_api_Queued)) : Option ((List T_api_Queued)) :=
  some l_4

def friend_with_api_Queued (F : Nat) (l_1 : (List T_api_Queued)) (i_2 : Int) (x_3 : T_api_Queued) : Option ((List T_api_Queued)) :=
  (slices_Clone_api_Queued_api_Queued F l_1).bind fun x_87 =>
  (slices_Insert_api_Queued_api_Queued F x_87 i_2 [x_3]).bind fun x_407 =>
  friend_with_api_Queued_j1 F x_407

def slices_Delete_api_Queued_api_Queued (F : Nat) (s_1 : (List T_api_Queued)) (i_2 : Int) (j_3 : Int) : Option ((List T_api_Queued)) :=
  if 0 ≤ i_2 ∧ i_2 ≤ j_3 ∧ j_3 ≤ (s_1.length : Int) then
    some (s_1.take i_2.toNat ++ s_1.drop j_3.toNat)
  else
    none

def friend_without_api_Queued (F : Nat) (l_1 : (List T_api_Queued)) (i_2 : Int) : Option ((List T_api_Queued)) :=
  (slices_Clone_api_Queued_api_Queued F l_1).bind fun x_3 =>
  (slices_Delete_api_Queued_api_Queued F x_3 i_2 (w64 (i_2 + 1))).bind fun x_4 =>
  some x_4

def friend_Keep_j2 (F : Nat) (x_3 : T_api_Friend) (c_28 : T_api_Friend) : Option (T_api_Friend) :=
  some ({ x_3 with Queue := c_28.Queue, Dropped := c_28.Dropped })

def friend_Keep_j3 (F : Nat) (x_3 : T_api_Friend) (l_25 : (List T_api_Queued)) (x_29 : Int) : Option (T_api_Friend) :=
  (friend_without_api_Queued F l_25 x_29).bind fun x_30 =>
  friend_Keep_j2 F x_3 ({ x_3 with Queue := x_30, Dropped := w64 (x_3.Dropped + 1) })

def friend_Keep_j1 (F : Nat) (x_3 : T_api_Friend) (l_25 : (List T_api_Queued)) : Option (T_api_Friend) :=
  if (decide ((len l_25) > 16)) = true then
    if x_3.Sent = true then
      friend_Keep_j3 F x_3 l_25 1
    else
      friend_Keep_j3 F x_3 l_25 0
  else
    friend_Keep_j2 F x_3 ({ x_3 with Queue := l_25 })

def friend_Keep_j4 (F : Nat) (x_3 : T_api_Friend) (c_23 : T_api_Queued) (z_24 : Bool) : Option (T_api_Friend) :=
  if z_24 = true then
    some x_3
  else
    (friend_own F c_23).bind fun x_513 =>
    (friend_with_api_Queued F x_3.Queue (len x_3.Queue) x_513).bind fun x_593 =>
    friend_Keep_j1 F x_3 x_593

def friend_Keep (F : Nat) (f_1 : T_api_Friend) (q_2 : T_api_Queued) : Option (T_api_Friend) :=
  (friend_apart F f_1).bind fun x_3 =>
  (if (x_3.Low == 0) = true then
    some (q_2, true)
  else
    (slices_ContainsFunc_api_Queued_api_Queued_at30 F x_3.Queue q_2).bind fun x_914 =>
    some (x_914.2, x_914.1)).bind fun z_913 =>
  friend_Keep_j4 F x_3 z_913.1 z_913.2

def friend_Poll_j2 (F : Nat) (bit_2 : Int) (now_3 : Int) (x_4 : T_api_Friend) (l_5 : (List T_api_Queued)) (l_6 : (List T_api_Queued)) : Option (T_api_Friend × (List T_api_Queued)) :=
  some ({ x_4 with Queue := l_5, Bit := bit_2, Sent := decide ((len l_5) > 0), Polled := now_3 }, l_6)

def friend_Poll_j1 (F : Nat) (bit_2 : Int) (now_3 : Int) (x_4 : T_api_Friend) (l_5 : (List T_api_Queued)) : Option (T_api_Friend × (List T_api_Queued)) :=
  if (!(decide ((len l_5) > 0))) = true then
    some ({ x_4 with Queue := l_5, Bit := bit_2, Sent := decide ((len l_5) > 0), Polled := now_3 }, [])
  else
    (idx l_5 0).bind fun x_7 =>
    (friend_own F x_7).bind fun x_10 =>
    friend_Poll_j2 F bit_2 now_3 x_4 l_5 [x_10]

def friend_Poll (F : Nat) (f_1 : T_api_Friend) (bit_2 : Int) (now_3 : Int) : Option (T_api_Friend × (List T_api_Queued)) :=
  (friend_apart F f_1).bind fun x_4 =>
  if ((x_4.Low == 0) || ((bit_2 != 0) && (bit_2 != 1))) = true then
    some (x_4, [])
  else
    if ((x_4.Sent && (bit_2 != x_4.Bit)) && (decide ((len x_4.Queue) > 0))) = true then
      (friend_without_api_Queued F x_4.Queue 0).bind fun x_811 =>
      friend_Poll_j1 F bit_2 now_3 x_4 x_811
    else
      friend_Poll_j1 F bit_2 now_3 x_4 x_4.Queue

def friend_Over (F : Nat) (f_1 : T_api_Friend) (now_2 : Int) : Option (Bool) :=
  (if (f_1.Low != 0) = true then
    (friend_over F f_1 now_2).bind fun x_6 =>
    some (x_6)
  else
    some (false)).bind fun z_4 =>
  some z_4

def friend_Seek_j1 (F : Nat) (l_1 : T_api_LowPower) (now_3 : Int) (l_4 : (List Int)) : Option (T_api_LowPower) :=
  some (T_api_LowPower.mk 1 0 0 (iand .i64 (w64 (l_1.Counter + 1)) 65535) now_3 0 l_4 0 false 0)

def friend_Seek (F : Nat) (l_1 : T_api_LowPower) (subs_2 : (List Int)) (now_3 : Int) : Option (T_api_LowPower) :=
  (slices_Clone_uint16_uint16 F subs_2).bind fun x_7 =>
  friend_Seek_j1 F l_1 now_3 x_7

def friend_two (F : Nat) (n_1 : Int) : Option ((List Int)) :=
  some [wu8 n_1, wu8 (shrp n_1 8)]

def friend_known (F : Nat) (l_1 : T_api_LowPower) : Option (Bool) :=
  some (decide (l_1.Told ≥ (len l_1.Subs)))

def friend_Tick_j3 (F : Nat) (now_2 : Int) (c_14 : T_api_LowPower) (c_17 : T_api_Lower) : Option (T_api_LowPower × (List T_api_Lower)) :=
  some ({ c_14 with Due := w64 (now_2 + 10), Tries := w64 (c_14.Tries + 1) }, [{ c_17 with Control := true, Segmented := false, App := false, Zero := 0, Index := 0, Last := 0, Block := 0, Friend := false }])

def friend_Tick_j2 (F : Nat) (now_2 : Int) (c_14 : T_api_LowPower) (c_17 : T_api_Lower) : Option (T_api_LowPower × (List T_api_Lower)) :=
  friend_Tick_j3 F now_2 c_14 c_17

def friend_Tick_j1 (F : Nat) (now_2 : Int) (c_14 : T_api_LowPower) : Option (T_api_LowPower × (List T_api_Lower)) :=
  if ((c_14.Phase == 0) || (decide (c_14.Due > now_2))) = true then
    some (c_14, [])
  else
    if (c_14.Phase == 1) = true then
      (friend_two F c_14.Counter).bind fun x_500 =>
      friend_Tick_j2 F now_2 c_14 (T_api_Lower.mk true false false 0 0 0 3 0 false x_500)
    else
      (if (c_14.Phase == 3) = true then
        (friend_known F c_14).bind fun x_506 =>
        some ((!x_506))
      else
        some (false)).bind fun z_502 =>
      if z_502 = true then
        (idx c_14.Subs c_14.Told).bind fun x_503 =>
        (friend_two F (w64 x_503)).bind fun x_504 =>
        friend_Tick_j2 F now_2 c_14 (T_api_Lower.mk true false false 0 0 0 7 0 false x_504)
      else
        friend_Tick_j2 F now_2 c_14 (T_api_Lower.mk true false false 0 0 0 1 0 false [wu8 c_14.Bit])

def friend_Tick (F : Nat) (l_1 : T_api_LowPower) (now_2 : Int) : Option (T_api_LowPower × (List T_api_Lower)) :=
  (slices_Clone_uint16_uint16 F l_1.Subs).bind fun x_3 =>
  if (((l_1.Phase == 3) && (decide (now_2 ≥ (w64 (l_1.Last + 200))))) || (((l_1.Phase == 2) && (decide (l_1.Due ≤ now_2))) && (decide (l_1.Tries ≥ 6)))) = true then
    (friend_Seek F ({ l_1 with Subs := x_3 }) x_3 now_2).bind fun x_507 =>
    friend_Tick_j1 F now_2 x_507
  else
    friend_Tick_j1 F now_2 ({ l_1 with Subs := x_3 })

def wirelessref02_Same (F : Nat) (a_1 : (List Int)) (b_2 : (List Int)) : Option (Bool) :=
  some ((str a_1) == (str b_2))

def slices_Index_uint16_uint16_j1 (F : Nat) : Option (Int) :=
  some (-1)

def slices_Index_uint16_uint16_l1 (F : Nat) (s_1 : (List Int)) (v_2 : Int) (x_3 : Int) : Option (Out (Int) (Sum (Unit) (Int))) :=
  if (decide (x_3 < (len s_1))) = true then
    (idx s_1 x_3).bind fun x_4 =>
    if (v_2 == x_4) = true then
      some (.done (.inr x_3))
    else
      some (.next (w64 (x_3 + 1)))
  else
    some (.done (.inl ()))

def slices_Index_uint16_uint16 (F : Nat) (s_1 : (List Int)) (v_2 : Int) : Option (Int) :=
  (iter (fun s => slices_Index_uint16_uint16_l1 F s_1 v_2 s) F (0)).bind fun o =>
  match o with
  | .inl u => slices_Index_uint16_uint16_j1 F
  | .inr u => some u

def slices_Contains_uint16_uint16 (F : Nat) (s_1 : (List Int)) (v_2 : Int) : Option (Bool) :=
  (slices_Index_uint16_uint16 F s_1 v_2).bind fun x_3 =>
  some (decide (x_3 ≥ 0))

def friend_Wants (F : Nat) (f_1 : T_api_Friend) (dst_2 : Int) : Option (Bool) :=
  (if (f_1.Low != 0) = true then
    if (dst_2 == f_1.Low) = true then
      if true = true then
        some (true)
      else
        (slices_Contains_uint16_uint16 F f_1.Subs dst_2).bind fun x_8 =>
        some (x_8)
    else
      if (dst_2 == 65535) = true then
        some (true)
      else
        (slices_Contains_uint16_uint16 F f_1.Subs dst_2).bind fun x_10 =>
        some (x_10)
  else
    some (false)).bind fun z_4 =>
  some z_4

def wirelesslaw51_lives_j1 (F : Nat) (x_1 : T_api_Friend × Bool) (x_2 : T_api_Friend × Bool) (c_11 : T_api_Friend) : Option (Bool) :=
  (friend_Poll F c_11 0 1).bind fun x_12 =>
  (friend_Poll F x_12.1 0 2).bind fun x_13 =>
  (friend_Poll F x_13.1 1 3).bind fun x_14 =>
  (friend_Poll F x_14.1 0 4).bind fun x_15 =>
  (if (((!x_1.2) || x_2.2) || (x_2.1.Low != 5)) = true then
    some (true)
  else
    (friend_Over F x_2.1 199).bind fun x_47 =>
    some (x_47)).bind fun z_17 =>
  (if z_17 = true then
    some (true)
  else
    (friend_Over F x_2.1 200).bind fun x_45 =>
    some ((!x_45))).bind fun z_19 =>
  if (((((z_19 || ((len x_12.2) != 1)) || ((len x_13.2) != 1)) || ((len x_14.2) != 1)) || ((len x_15.2) != 0)) || ((len x_15.1.Queue) != 0)) = true then
    some false
  else
    (friend_Seek F (T_api_LowPower.mk 0 0 0 0 0 0 [] 0 false 0) [] 7).bind fun x_20 =>
    (friend_Tick F x_20 7).bind fun x_21 =>
    (idx x_12.2 0).bind fun x_22 =>
    (if (x_22.PDU.Seq == 1) = true then
      (idx x_13.2 0).bind fun x_43 =>
      some ((x_43.PDU.Seq == 1))
    else
      some (false)).bind fun z_24 =>
    (if z_24 = true then
      (idx x_14.2 0).bind fun x_41 =>
      some ((x_41.PDU.Seq == 2))
    else
      some (false)).bind fun z_26 =>
    (if (z_26 && ((len x_21.2) == 1)) = true then
      (idx x_21.2 0).bind fun x_39 =>
      some ((x_39.Opcode == 3))
    else
      some (false)).bind fun z_28 =>
    (if z_28 = true then
      (idx x_21.2 0).bind fun x_36 =>
      (wirelessref02_Same F x_36.Bytes [1, 0]).bind fun x_37 =>
      some (x_37)
    else
      some (false)).bind fun z_30 =>
    (if (z_30 && (x_21.1.Due == 17)) = true then
      (friend_Wants F x_2.1 65535).bind fun x_34 =>
      some (x_34)
    else
      some (false)).bind fun z_32 =>
    some z_32

def wirelesslaw51_lives (F : Nat) : Option (Bool) :=
  (friend_Befriend F (T_api_Friend.mk 0 [] [] 0 false 0 0 0) 5 1 0).bind fun x_1 =>
  (friend_Befriend F x_1.1 6 1 199).bind fun x_2 =>
  (wirelesslaw51_queued F 1).bind fun x_130 =>
  (friend_Keep F x_1.1 x_130).bind fun x_210 =>
  (wirelesslaw51_queued F 2).bind fun x_290 =>
  (friend_Keep F x_210 x_290).bind fun x_370 =>
  wirelesslaw51_lives_j1 F x_1 x_2 x_370

def friend_Offer (F : Nat) (l_1 : T_api_LowPower) (from_2 : Int) (now_3 : Int) : Option (T_api_LowPower) :=
  (slices_Clone_uint16_uint16 F l_1.Subs).bind fun x_4 =>
  (if (l_1.Phase != 1) = true then
    some (true)
  else
    (netpdu_Node F from_2).bind fun x_8 =>
    some ((!x_8))).bind fun z_6 =>
  if z_6 = true then
    some ({ l_1 with Subs := x_4 })
  else
    some ({ l_1 with Phase := 2, Friend := from_2, Bit := 0, Due := now_3, Tries := 0, Subs := x_4, Told := 0, More := false, Last := now_3 })

def friend_Got_j1 (F : Nat) (l_1 : T_api_LowPower) (more_3 : Bool) (now_4 : Int) (x_5 : (List Int)) (x_6 : Int) : Option (T_api_LowPower × Bool) :=
  some ({ l_1 with Phase := 3, Bit := w64 (1 - l_1.Bit), Due := x_6, Tries := 0, Subs := x_5, More := more_3, Last := now_4 }, true)

def friend_Got (F : Nat) (l_1 : T_api_LowPower) (from_2 : Int) (more_3 : Bool) (now_4 : Int) : Option (T_api_LowPower × Bool) :=
  (slices_Clone_uint16_uint16 F l_1.Subs).bind fun x_5 =>
  if ((!((decide (l_1.Tries ≥ 1)) && ((l_1.Phase == 2) || ((l_1.Phase == 3) && (l_1.Told == (len x_5)))))) || (from_2 != l_1.Friend)) = true then
    some ({ l_1 with Subs := x_5 }, false)
  else
    (if (!more_3) = true then
      (friend_known F ({ l_1 with Phase := 3, Bit := w64 (1 - l_1.Bit), Due := now_4, Tries := 0, Subs := x_5, More := more_3, Last := now_4 })).bind fun x_10 =>
      some (x_10)
    else
      some (false)).bind fun z_8 =>
    if z_8 = true then
      friend_Got_j1 F l_1 more_3 now_4 x_5 (w64 (now_4 + 50))
    else
      friend_Got_j1 F l_1 more_3 now_4 x_5 now_4

def wirelesslaw51_pair_tick_j3 (F : Nat) (x_1 : T_wirelesslaw51_pair) (c_14 : T_wirelesslaw51_pair) (c_27 : T_api_Friend) (x_29 : T_api_LowPower × Bool) (l_30 : (List Int)) : Option (T_wirelesslaw51_pair) :=
  some ({ c_14 with f := c_27, l := x_29.1, got := l_30, ended := x_1.ended })

def wirelesslaw51_pair_tick_j2 (F : Nat) (x_1 : T_wirelesslaw51_pair) (e_2 : T_wirelesslaw51_Event) (now_3 : Int) (c_14 : T_wirelesslaw51_pair) (x_15 : T_api_LowPower × (List T_api_Lower)) (c_27 : T_api_Friend) (l_28 : (List T_api_Queued)) : Option (T_wirelesslaw51_pair) :=
  if e_2.AnswerLost = true then
    some ({ x_1 with f := c_27, l := x_15.1, kept := c_14.kept })
  else
    (friend_Got F x_15.1 9 (decide ((len c_27.Queue) > 1)) now_3).bind fun x_29 =>
    if (x_29.2 && (decide ((len l_28) > 0))) = true then
      (idx l_28 0).bind fun x_31 =>
      (app 4 x_1.got [x_31.PDU.Seq]).bind fun l_674 =>
      wirelesslaw51_pair_tick_j3 F x_1 c_14 c_27 x_29 l_674
    else
      wirelesslaw51_pair_tick_j3 F x_1 c_14 c_27 x_29 x_1.got

def wirelesslaw51_pair_tick_j1 (F : Nat) (x_1 : T_wirelesslaw51_pair) (e_2 : T_wirelesslaw51_Event) (now_3 : Int) (c_14 : T_wirelesslaw51_pair) : Option (T_wirelesslaw51_pair) :=
  (friend_Tick F x_1.l now_3).bind fun x_15 =>
  if ((len x_15.2) == 0) = true then
    some ({ c_14 with l := x_15.1, got := x_1.got, ended := x_1.ended })
  else
    (idx x_15.2 0).bind fun x_16 =>
    (if (x_16.Opcode != 1) = true then
      some (true)
    else
      (idx x_15.2 0).bind fun x_2439 =>
      some (((len x_2439.Bytes) != 1))).bind fun z_18 =>
    if z_18 = true then
      some ({ c_14 with l := x_15.1, got := x_1.got, ended := true })
    else
      if e_2.PollLost = true then
        some ({ c_14 with l := x_15.1, got := x_1.got, ended := x_1.ended })
      else
        (idx x_15.2 0).bind fun x_994 =>
        (idx x_994.Bytes 0).bind fun x_995 =>
        (friend_Poll F c_14.f (w64 x_995) now_3).bind fun x_1798 =>
        wirelesslaw51_pair_tick_j2 F x_1 e_2 now_3 c_14 x_15 x_1798.1 x_1798.2

def wirelesslaw51_pair_tick_j4 (F : Nat) (x_1 : T_wirelesslaw51_pair) (e_2 : T_wirelesslaw51_Event) (now_3 : Int) (c_2448 : T_wirelesslaw51_pair) : Option (T_wirelesslaw51_pair) :=
  (app 4 x_1.kept [wu32 now_3]).bind fun l_2449 =>
  wirelesslaw51_pair_tick_j1 F x_1 e_2 now_3 ({ x_1 with f := c_2448.f, kept := l_2449 })

def wirelesslaw51_pair_tick (F : Nat) (x_1 : T_wirelesslaw51_pair) (e_2 : T_wirelesslaw51_Event) (now_3 : Int) : Option (T_wirelesslaw51_pair) :=
  (friend_Over F x_1.f now_3).bind fun x_4 =>
  if x_4 = true then
    some ({ x_1 with ended := true })
  else
    if e_2.Keep = true then
      (wirelesslaw51_queued F (wu32 now_3)).bind fun x_2772 =>
      (friend_Keep F x_1.f x_2772).bind fun x_2852 =>
      wirelesslaw51_pair_tick_j4 F x_1 e_2 now_3 ({ x_1 with f := x_2852 })
    else
      wirelesslaw51_pair_tick_j1 F x_1 e_2 now_3 x_1

def wirelesslaw51_pair_begins_j1 (F : Nat) : Option (Bool) :=
  some true

def wirelesslaw51_pair_begins_j2 (F : Nat) (x_2 : Int) (z_3 : Bool) : Option (Out (Int) (Sum (Unit) (Bool))) :=
  if z_3 = true then
    some (.done (.inr false))
  else
    some (.next (w64 (x_2 + 1)))

def wirelesslaw51_pair_begins_l1 (F : Nat) (x_1 : T_wirelesslaw51_pair) (x_2 : Int) : Option (Out (Int) (Sum (Unit) (Bool))) :=
  if (decide (x_2 < (len x_1.got))) = true then
    (idx x_1.got x_2).bind fun x_4 =>
    (idx x_1.kept x_2).bind fun x_5 =>
    wirelesslaw51_pair_begins_j2 F x_2 (x_4 != x_5)
  else
    some (.done (.inl ()))

def wirelesslaw51_pair_begins (F : Nat) (x_1 : T_wirelesslaw51_pair) : Option (Bool) :=
  if (decide ((len x_1.got) > (len x_1.kept))) = true then
    some false
  else
    (iter (fun s => wirelesslaw51_pair_begins_l1 F x_1 s) F (0)).bind fun o =>
    match o with
    | .inl u => wirelesslaw51_pair_begins_j1 F
    | .inr u => some u

def wirelesslaw51_FriendKeeps_j3 (F : Nat) (c_57 : T_wirelesslaw51_pair) : Option (Bool) :=
  (wirelesslaw51_lives F).bind fun x_58 =>
  some (x_58 && ((len c_57.got) == (len c_57.kept)))

def wirelesslaw51_FriendKeeps_l1 (F : Nat) (l_1 : (List T_wirelesslaw51_Event)) (c_80 : T_wirelesslaw51_pair) (x_81 : Int) : Option (Out (T_wirelesslaw51_pair × Int) (Sum (T_wirelesslaw51_pair) (Bool))) :=
  if (decide (x_81 < (w64 ((len l_1) + 120)))) = true then
    (wirelesslaw51_pair_tick F c_80 (T_wirelesslaw51_Event.mk false false false) (w64 (10 * x_81))).bind fun x_82 =>
    (wirelesslaw51_pair_begins F x_82).bind fun x_83 =>
    if (!x_83) = true then
      some (.done (.inr false))
    else
      if x_82.ended = true then
        (wirelesslaw51_lives F).bind fun x_84 =>
        some (.done (.inr (x_84 && (decide (x_81 < (w64 ((len l_1) + 20)))))))
      else
        some (.next (x_82, w64 (x_81 + 1)))
  else
    some (.done (.inl (c_80)))

def wirelesslaw51_FriendKeeps_j2 (F : Nat) (l_1 : (List T_wirelesslaw51_Event)) (c_35 : T_wirelesslaw51_pair) : Option (Bool) :=
  (iter (fun s => wirelesslaw51_FriendKeeps_l1 F l_1 s.1 s.2) F (c_35, len l_1)).bind fun o =>
  match o with
  | .inl u => wirelesslaw51_FriendKeeps_j3 F u
  | .inr u => some u

def wirelesslaw51_FriendKeeps_j4 (F : Nat) (x_107 : Int) (c_129 : T_wirelesslaw51_pair) : Option (Out (T_wirelesslaw51_pair × Int) (Sum (T_wirelesslaw51_pair) (Bool))) :=
  if ((decide (c_129.f.Dropped > 0)) || c_129.ended) = true then
    (wirelesslaw51_lives F).bind fun x_130 =>
    some (.done (.inr x_130))
  else
    (wirelesslaw51_pair_begins F c_129).bind fun x_131 =>
    if (!x_131) = true then
      some (.done (.inr false))
    else
      some (.next (c_129, w64 (x_107 + 1)))

def wirelesslaw51_FriendKeeps_l2 (F : Nat) (l_1 : (List T_wirelesslaw51_Event)) (c_106 : T_wirelesslaw51_pair) (x_107 : Int) : Option (Out (T_wirelesslaw51_pair × Int) (Sum (T_wirelesslaw51_pair) (Bool))) :=
  if (decide (x_107 < (len l_1))) = true then
    (idx l_1 x_107).bind fun x_132 =>
    (wirelesslaw51_pair_tick F c_106 x_132 (w64 (10 * x_107))).bind fun x_135 =>
    wirelesslaw51_FriendKeeps_j4 F x_107 x_135
  else
    some (.done (.inl (c_106)))

def wirelesslaw51_FriendKeeps_j1 (F : Nat) (l_1 : (List T_wirelesslaw51_Event)) (x_3 : T_api_Friend × Bool) (x_4 : Int) (x_5 : Int) (x_6 : Int) (x_7 : Int) (x_8 : Int) (x_9 : Int) (l_10 : (List Int)) (x_11 : Int) (z_12 : Bool) (x_13 : Int) : Option (Bool) :=
  if ((!x_3.2) || (x_4 != 2)) = true then
    some false
  else
    (iter (fun s => wirelesslaw51_FriendKeeps_l2 F l_1 s.1 s.2) F ((T_wirelesslaw51_pair.mk x_3.1 (T_api_LowPower.mk x_4 x_5 x_6 x_7 x_8 x_9 l_10 x_11 z_12 x_13) [] [] false), 0)).bind fun o =>
    match o with
    | .inl u => wirelesslaw51_FriendKeeps_j2 F l_1 u
    | .inr u => some u

def wirelesslaw51_FriendKeeps (F : Nat) (l_1 : (List T_wirelesslaw51_Event)) : Option (Bool) :=
  if (decide ((len l_1) > 150)) = true then
    (wirelesslaw51_lives F).bind fun x_2 =>
    some x_2
  else
    (friend_Befriend F (T_api_Friend.mk 0 [] [] 0 false 0 0 0) 5 1 0).bind fun x_3 =>
    (friend_Seek F (T_api_LowPower.mk 0 0 0 0 0 0 [] 0 false 0) [] 0).bind fun x_298 =>
    (friend_Offer F x_298 9 0).bind fun x_378 =>
    wirelesslaw51_FriendKeeps_j1 F l_1 x_3 x_378.Phase x_378.Friend x_378.Bit x_378.Counter x_378.Due x_378.Tries x_378.Subs x_378.Told x_378.More x_378.Last

end V
end Go.Proofs.Ytphigebccfoppaa
