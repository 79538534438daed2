/-
  Pure twins of the Go functions, written by program.
-/
import Derived.Test.YtphigebccfoppaaPure
namespace Go.Proofs.Ytphigebccfoppaa
namespace V
structure T_api_NetPDU where
  IV : Int
  NID : Int
  Control : Bool
  TTL : Int
  Seq : Int
  Src : Int
  Dst : Int
  Payload : (List Int)

structure T_api_Lower where
  Control : Bool
  Segmented : Bool
  App : Bool
  Zero : Int
  Index : Int
  Last : Int
  Opcode : Int
  Block : Int
  Friend : Bool
  Bytes : (List Int)

structure T_api_Queued where
  PDU : T_api_NetPDU
  Lower : T_api_Lower

structure T_wirelesslaw51_Op where
  Kind : Int
  Address : Int
  Number : Int
  Group : Int
  More : Bool
  Q : T_api_Queued
  Subs : (List Int)
  Now : Int

structure T_api_Friend where
  Low : Int
  Queue : (List T_api_Queued)
  Subs : (List Int)
  Bit : Int
  Sent : Bool
  Polled : Int
  Counter : Int
  Dropped : Int

structure T_api_LowPower where
  Phase : Int
  Friend : Int
  Bit : Int
  Counter : Int
  Due : Int
  Tries : Int
  Subs : (List Int)
  Told : Int
  More : Bool
  Last : Int

def slices_Clone_uint16_uint16 (F : Nat) (s_1 : (List Int)) : Option ((List Int)) :=
  (app 2 ([] : (List Int)) s_1).bind fun l_2 =>
  some l_2

def slices_Clone_api_Queued_api_Queued (F : Nat) (s_1 : (List T_api_Queued)) : Option ((List T_api_Queued)) :=
  (app 136 ([] : (List T_api_Queued)) s_1).bind fun l_2 =>
  some l_2

def slices_Clone_byte_byte (F : Nat) (s_1 : (List Int)) : Option ((List Int)) :=
  (app 1 ([] : (List Int)) s_1).bind fun l_2 =>
  some l_2

def friend_own (F : Nat) (q_1 : T_api_Queued) : Option (T_api_Queued) :=
  (slices_Clone_byte_byte F q_1.PDU.Payload).bind fun x_2 =>
  (slices_Clone_byte_byte F q_1.Lower.Bytes).bind fun x_3 =>
  some (T_api_Queued.mk ({ q_1.PDU with Payload := x_2 }) ({ q_1.Lower with Bytes := x_3 }))

def friend_apart_j1 (F : Nat) (f_1 : T_api_Friend) (x_2 : (List Int)) (l_4 : (List T_api_Queued)) : Option (T_api_Friend) :=
  some ({ f_1 with Queue := l_4, Subs := x_2 })

def friend_apart_l1 (F : Nat) (x_3 : (List T_api_Queued)) (l_5 : (List T_api_Queued)) (x_6 : Int) : Option (Out ((List T_api_Queued) × Int) ((List T_api_Queued))) :=
  if (decide (x_6 < (len x_3))) = true then
    (idx l_5 x_6).bind fun x_489 =>
    (idx l_5 x_6).bind fun x_569 =>
    (friend_own F x_569).bind fun x_649 =>
    (idx l_5 x_6).bind fun x_729 =>
    (upd l_5 x_6 x_649).bind fun l_809 =>
    some (.next (l_809, w64 (x_6 + 1)))
  else
    some (.done (l_5))

def friend_apart (F : Nat) (f_1 : T_api_Friend) : Option (T_api_Friend) :=
  (slices_Clone_uint16_uint16 F f_1.Subs).bind fun x_2 =>
  (slices_Clone_api_Queued_api_Queued F f_1.Queue).bind fun x_3 =>
  (iter (fun s => friend_apart_l1 F x_3 s.1 s.2) F (x_3, 0)).bind fun o =>
  friend_apart_j1 F f_1 x_2 o

def netpdu_Node (F : Nat) (a_1 : Int) : Option (Bool) :=
  some ((decide (a_1 > 0)) && (decide (a_1 ≤ 32767)))

def friend_over (F : Nat) (f_1 : T_api_Friend) (now_2 : Int) : Option (Bool) :=
  some (decide (now_2 ≥ (w64 (f_1.Polled + 200))))

def friend_Befriend (F : Nat) (f_1 : T_api_Friend) (low_2 : Int) (counter_3 : Int) (now_4 : Int) : Option (T_api_Friend × Bool) :=
  (friend_apart F f_1).bind fun x_5 =>
  (netpdu_Node F low_2).bind fun x_6 =>
  (if (((!x_6) || (decide (counter_3 < 0))) || (decide (counter_3 ≥ 65536))) = true then
    some (true)
  else
    if (x_5.Low != 0) = true then
      if (x_5.Low != low_2) = true then
        (friend_over F x_5 now_4).bind fun x_16 =>
        some ((!x_16))
      else
        some (false)
    else
      if false = true then
        (friend_over F x_5 now_4).bind fun x_18 =>
        some ((!x_18))
      else
        some (false)).bind fun z_8 =>
  if z_8 = true then
    some (x_5, false)
  else
    (if ((x_5.Low == low_2) && (x_5.Counter == counter_3)) = true then
      (friend_over F x_5 now_4).bind fun x_12 =>
      some ((!x_12))
    else
      some (false)).bind fun z_10 =>
    if z_10 = true then
      some ({ x_5 with Polled := now_4 }, true)
    else
      some ((T_api_Friend.mk low_2 [] [] 0 false now_4 counter_3 0), true)

def wirelesslaw51_queued (F : Nat) (n_1 : Int) : Option (T_api_Queued) :=
  some (T_api_Queued.mk (T_api_NetPDU.mk 0 0 false 0 n_1 7 0 []) (T_api_Lower.mk false false false 0 0 0 0 0 false []))

def friend_Keep_1 (F : Nat) (x_1 : T_api_Queued) (p_2 : T_api_Queued) : Option (Bool × T_api_Queued) :=
  some ((((x_1.PDU.Src == p_2.PDU.Src) && (x_1.PDU.IV == p_2.PDU.IV)) && (x_1.PDU.Seq == p_2.PDU.Seq)), p_2)

def slices_IndexFunc_api_Queued_api_Queued_at30_j1 (F : Nat) (c_21 : T_api_Queued) : Option (Int × T_api_Queued) :=
  some ((-1), c_21)

def slices_IndexFunc_api_Queued_api_Queued_at30_l1 (F : Nat) (s_1 : (List T_api_Queued)) (c_40 : T_api_Queued) (x_41 : Int) : Option (Out (T_api_Queued × Int) (Sum (T_api_Queued) (Int × T_api_Queued))) :=
  if (decide (x_41 < (len s_1))) = true then
    (idx s_1 x_41).bind fun x_42 =>
    (friend_Keep_1 F x_42 c_40).bind fun x_43 =>
    if x_43.1 = true then
      some (.done (.inr (x_41, x_43.2)))
    else
      some (.next (x_43.2, w64 (x_41 + 1)))
  else
    some (.done (.inl (c_40)))

def slices_IndexFunc_api_Queued_api_Queued_at30 (F : Nat) (s_1 : (List T_api_Queued)) (c_2 : T_api_Queued) : Option (Int × T_api_Queued) :=
  (iter (fun s => slices_IndexFunc_api_Queued_api_Queued_at30_l1 F s_1 s.1 s.2) F (c_2, 0)).bind fun o =>
  match o with
  | .inl u => slices_IndexFunc_api_Queued_api_Queued_at30_j1 F u
  | .inr u => some u

def slices_ContainsFunc_api_Queued_api_Queued_at30 (F : Nat) (s_1 : (List T_api_Queued)) (c_2 : T_api_Queued) : Option (Bool × T_api_Queued) :=
  (slices_IndexFunc_api_Queued_api_Queued_at30 F s_1 c_2).bind fun x_3 =>
  some (decide (x_3.1 ≥ 0), x_3.2)

def slices_Insert_api_Queued_api_Queued (F : Nat) (s_1 : (List T_api_Queued)) (i_2 : Int) (v_3 : (List T_api_Queued)) : Option ((List T_api_Queued)) :=
  (sub s_1 i_2 (len s_1)).bind fun l_4 =>
  if ((len v_3) == 0) = true then
    some s_1
  else
    if (i_2 == (len s_1)) = true then
      (app 136 s_1 v_3).bind fun l_5 =>
      some l_5
    else
      none

def friend_with_api_Queued_j1 (F : Nat) (l_4 : (List T_api_Queued)) : Option ((List T_api_Queued)) :=
  some l_4

def friend_with_api_Queued (F : Nat) (l_1 : (List T_api_Queued)) (i_2 : Int) (x_3 : T_api_Queued) : Option ((List T_api_Queued)) :=
  (slices_Clone_api_Queued_api_Queued F l_1).bind fun x_87 =>
  (slices_Insert_api_Queued_api_Queued F x_87 i_2 [x_3]).bind fun x_407 =>
  friend_with_api_Queued_j1 F x_407

def slices_Delete_api_Queued_api_Queued (F : Nat) (s_1 : (List T_api_Queued)) (i_2 : Int) (j_3 : Int) : Option ((List T_api_Queued)) :=
  if 0 ≤ i_2 ∧ i_2 ≤ j_3 ∧ j_3 ≤ (s_1.length : Int) then
    some (s_1.take i_2.toNat ++ s_1.drop j_3.toNat)
  else
    none

def friend_without_api_Queued (F : Nat) (l_1 : (List T_api_Queued)) (i_2 : Int) : Option ((List T_api_Queued)) :=
  (slices_Clone_api_Queued_api_Queued F l_1).bind fun x_3 =>
  (slices_Delete_api_Queued_api_Queued F x_3 i_2 (w64 (i_2 + 1))).bind fun x_4 =>
  some x_4

def friend_Keep_j2 (F : Nat) (x_3 : T_api_Friend) (c_28 : T_api_Friend) : Option (T_api_Friend) :=
  some ({ x_3 with Queue := c_28.Queue, Dropped := c_28.Dropped })

def friend_Keep_j3 (F : Nat) (x_3 : T_api_Friend) (l_25 : (List T_api_Queued)) (x_29 : Int) : Option (T_api_Friend) :=
  (friend_without_api_Queued F l_25 x_29).bind fun x_30 =>
  friend_Keep_j2 F x_3 ({ x_3 with Queue := x_30, Dropped := w64 (x_3.Dropped + 1) })

def friend_Keep_j1 (F : Nat) (x_3 : T_api_Friend) (l_25 : (List T_api_Queued)) : Option (T_api_Friend) :=
  if (decide ((len l_25) > 16)) = true then
    if x_3.Sent = true then
      friend_Keep_j3 F x_3 l_25 1
    else
      friend_Keep_j3 F x_3 l_25 0
  else
    friend_Keep_j2 F x_3 ({ x_3 with Queue := l_25 })

def friend_Keep_j4 (F : Nat) (x_3 : T_api_Friend) (c_23 : T_api_Queued) (z_24 : Bool) : Option (T_api_Friend) :=
  if z_24 = true then
    some x_3
  else
    (friend_own F c_23).bind fun x_513 =>
    (friend_with_api_Queued F x_3.Queue (len x_3.Queue) x_513).bind fun x_593 =>
    friend_Keep_j1 F x_3 x_593

def friend_Keep (F : Nat) (f_1 : T_api_Friend) (q_2 : T_api_Queued) : Option (T_api_Friend) :=
  (friend_apart F f_1).bind fun x_3 =>
  (if (x_3.Low == 0) = true then
    some (q_2, true)
  else
    (slices_ContainsFunc_api_Queued_api_Queued_at30 F x_3.Queue q_2).bind fun x_914 =>
    some (x_914.2, x_914.1)).bind fun z_913 =>
  friend_Keep_j4 F x_3 z_913.1 z_913.2

def friend_Poll_j2 (F : Nat) (bit_2 : Int) (now_3 : Int) (x_4 : T_api_Friend) (l_5 : (List T_api_Queued)) (l_6 : (List T_api_Queued)) : Option (T_api_Friend × (List T_api_Queued)) :=
  some ({ x_4 with Queue := l_5, Bit := bit_2, Sent := decide ((len l_5) > 0), Polled := now_3 }, l_6)

def friend_Poll_j1 (F : Nat) (bit_2 : Int) (now_3 : Int) (x_4 : T_api_Friend) (l_5 : (List T_api_Queued)) : Option (T_api_Friend × (List T_api_Queued)) :=
  if (!(decide ((len l_5) > 0))) = true then
    some ({ x_4 with Queue := l_5, Bit := bit_2, Sent := decide ((len l_5) > 0), Polled := now_3 }, [])
  else
    (idx l_5 0).bind fun x_7 =>
    (friend_own F x_7).bind fun x_10 =>
    friend_Poll_j2 F bit_2 now_3 x_4 l_5 [x_10]

def friend_Poll (F : Nat) (f_1 : T_api_Friend) (bit_2 : Int) (now_3 : Int) : Option (T_api_Friend × (List T_api_Queued)) :=
  (friend_apart F f_1).bind fun x_4 =>
  if ((x_4.Low == 0) || ((bit_2 != 0) && (bit_2 != 1))) = true then
    some (x_4, [])
  else
    if ((x_4.Sent && (bit_2 != x_4.Bit)) && (decide ((len x_4.Queue) > 0))) = true then
      (friend_without_api_Queued F x_4.Queue 0).bind fun x_811 =>
      friend_Poll_j1 F bit_2 now_3 x_4 x_811
    else
      friend_Poll_j1 F bit_2 now_3 x_4 x_4.Queue

def friend_Over (F : Nat) (f_1 : T_api_Friend) (now_2 : Int) : Option (Bool) :=
  (if (f_1.Low != 0) = true then
    (friend_over F f_1 now_2).bind fun x_6 =>
    some (x_6)
  else
    some (false)).bind fun z_4 =>
  some z_4

def friend_Seek_j1 (F : Nat) (l_1 : T_api_LowPower) (now_3 : Int) (l_4 : (List Int)) : Option (T_api_LowPower) :=
  some (T_api_LowPower.mk 1 0 0 (iand .i64 (w64 (l_1.Counter + 1)) 65535) now_3 0 l_4 0 false 0)

def friend_Seek (F : Nat) (l_1 : T_api_LowPower) (subs_2 : (List Int)) (now_3 : Int) : Option (T_api_LowPower) :=
  (slices_Clone_uint16_uint16 F subs_2).bind fun x_7 =>
  friend_Seek_j1 F l_1 now_3 x_7

def friend_two (F : Nat) (n_1 : Int) : Option ((List Int)) :=
  some [wu8 n_1, wu8 (shrp n_1 8)]

def friend_known (F : Nat) (l_1 : T_api_LowPower) : Option (Bool) :=
  some (decide (l_1.Told ≥ (len l_1.Subs)))

def friend_Tick_j3 (F : Nat) (now_2 : Int) (c_14 : T_api_LowPower) (c_17 : T_api_Lower) : Option (T_api_LowPower × (List T_api_Lower)) :=
  some ({ c_14 with Due := w64 (now_2 + 10), Tries := w64 (c_14.Tries + 1) }, [{ c_17 with Control := true, Segmented := false, App := false, Zero := 0, Index := 0, Last := 0, Block := 0, Friend := false }])

def friend_Tick_j2 (F : Nat) (now_2 : Int) (c_14 : T_api_LowPower) (c_17 : T_api_Lower) : Option (T_api_LowPower × (List T_api_Lower)) :=
  friend_Tick_j3 F now_2 c_14 c_17

def friend_Tick_j1 (F : Nat) (now_2 : Int) (c_14 : T_api_LowPower) : Option (T_api_LowPower × (List T_api_Lower)) :=
  if ((c_14.Phase == 0) || (decide (c_14.Due > now_2))) = true then
    some (c_14, [])
  else
    if (c_14.Phase == 1) = true then
      (friend_two F c_14.Counter).bind fun x_500 =>
      friend_Tick_j2 F now_2 c_14 (T_api_Lower.mk true false false 0 0 0 3 0 false x_500)
    else
      (if (c_14.Phase == 3) = true then
        (friend_known F c_14).bind fun x_506 =>
        some ((!x_506))
      else
        some (false)).bind fun z_502 =>
      if z_502 = true then
        (idx c_14.Subs c_14.Told).bind fun x_503 =>
        (friend_two F (w64 x_503)).bind fun x_504 =>
        friend_Tick_j2 F now_2 c_14 (T_api_Lower.mk true false false 0 0 0 7 0 false x_504)
      else
        friend_Tick_j2 F now_2 c_14 (T_api_Lower.mk true false false 0 0 0 1 0 false [wu8 c_14.Bit])

def friend_Tick (F : Nat) (l_1 : T_api_LowPower) (now_2 : Int) : Option (T_api_LowPower × (List T_api_Lower)) :=
  (slices_Clone_uint16_uint16 F l_1.Subs).bind fun x_3 =>
  if (((l_1.Phase == 3) && (decide (now_2 ≥ (w64 (l_1.Last + 200))))) || (((l_1.Phase == 2) && (decide (l_1.Due ≤ now_2))) && (decide (l_1.Tries ≥ 6)))) = true then
    (friend_Seek F ({ l_1 with Subs := x_3 }) x_3 now_2).bind fun x_507 =>
    friend_Tick_j1 F now_2 x_507
  else
    friend_Tick_j1 F now_2 ({ l_1 with Subs := x_3 })

def wirelessref02_Same (F : Nat) (a_1 : (List Int)) (b_2 : (List Int)) : Option (Bool) :=
  some ((str a_1) == (str b_2))

def slices_Index_uint16_uint16_j1 (F : Nat) : Option (Int) :=
  some (-1)

def slices_Index_uint16_uint16_l1 (F : Nat) (s_1 : (List Int)) (v_2 : Int) (x_3 : Int) : Option (Out (Int) (Sum (Unit) (Int))) :=
  if (decide (x_3 < (len s_1))) = true then
    (idx s_1 x_3).bind fun x_4 =>
    if (v_2 == x_4) = true then
      some (.done (.inr x_3))
    else
      some (.next (w64 (x_3 + 1)))
  else
    some (.done (.inl ()))

def slices_Index_uint16_uint16 (F : Nat) (s_1 : (List Int)) (v_2 : Int) : Option (Int) :=
  (iter (fun s => slices_Index_uint16_uint16_l1 F s_1 v_2 s) F (0)).bind fun o =>
  match o with
  | .inl u => slices_Index_uint16_uint16_j1 F
  | .inr u => some u

def slices_Contains_uint16_uint16 (F : Nat) (s_1 : (List Int)) (v_2 : Int) : Option (Bool) :=
  (slices_Index_uint16_uint16 F s_1 v_2).bind fun x_3 =>
  some (decide (x_3 ≥ 0))

def friend_Wants (F : Nat) (f_1 : T_api_Friend) (dst_2 : Int) : Option (Bool) :=
  (if (f_1.Low != 0) = true then
    if (dst_2 == f_1.Low) = true then
      if true = true then
        some (true)
      else
        (slices_Contains_uint16_uint16 F f_1.Subs dst_2).bind fun x_8 =>
        some (x_8)
    else
      if (dst_2 == 65535) = true then
        some (true)
      else
        (slices_Contains_uint16_uint16 F f_1.Subs dst_2).bind fun x_10 =>
        some (x_10)
  else
    some (false)).bind fun z_4 =>
  some z_4

def wirelesslaw51_lives_j1 (F : Nat) (x_1 : T_api_Friend × Bool) (x_2 : T_api_Friend × Bool) (c_11 : T_api_Friend) : Option (Bool) :=
  (friend_Poll F c_11 0 1).bind fun x_12 =>
  (friend_Poll F x_12.1 0 2).bind fun x_13 =>
  (friend_Poll F x_13.1 1 3).bind fun x_14 =>
  (friend_Poll F x_14.1 0 4).bind fun x_15 =>
  (if (((!x_1.2) || x_2.2) || (x_2.1.Low != 5)) = true then
    some (true)
  else
    (friend_Over F x_2.1 199).bind fun x_47 =>
    some (x_47)).bind fun z_17 =>
  (if z_17 = true then
    some (true)
  else
    (friend_Over F x_2.1 200).bind fun x_45 =>
    some ((!x_45))).bind fun z_19 =>
  if (((((z_19 || ((len x_12.2) != 1)) || ((len x_13.2) != 1)) || ((len x_14.2) != 1)) || ((len x_15.2) != 0)) || ((len x_15.1.Queue) != 0)) = true then
    some false
  else
    (friend_Seek F (T_api_LowPower.mk 0 0 0 0 0 0 [] 0 false 0) [] 7).bind fun x_20 =>
    (friend_Tick F x_20 7).bind fun x_21 =>
    (idx x_12.2 0).bind fun x_22 =>
    (if (x_22.PDU.Seq == 1) = true then
      (idx x_13.2 0).bind fun x_43 =>
      some ((x_43.PDU.Seq == 1))
    else
      some (false)).bind fun z_24 =>
    (if z_24 = true then
      (idx x_14.2 0).bind fun x_41 =>
      some ((x_41.PDU.Seq == 2))
    else
      some (false)).bind fun z_26 =>
    (if (z_26 && ((len x_21.2) == 1)) = true then
      (idx x_21.2 0).bind fun x_39 =>
      some ((x_39.Opcode == 3))
    else
      some (false)).bind fun z_28 =>
    (if z_28 = true then
      (idx x_21.2 0).bind fun x_36 =>
      (wirelessref02_Same F x_36.Bytes [1, 0]).bind fun x_37 =>
      some (x_37)
    else
      some (false)).bind fun z_30 =>
    (if (z_30 && (x_21.1.Due == 17)) = true then
      (friend_Wants F x_2.1 65535).bind fun x_34 =>
      some (x_34)
    else
      some (false)).bind fun z_32 =>
    some z_32

def wirelesslaw51_lives (F : Nat) : Option (Bool) :=
  (friend_Befriend F (T_api_Friend.mk 0 [] [] 0 false 0 0 0) 5 1 0).bind fun x_1 =>
  (friend_Befriend F x_1.1 6 1 199).bind fun x_2 =>
  (wirelesslaw51_queued F 1).bind fun x_130 =>
  (friend_Keep F x_1.1 x_130).bind fun x_210 =>
  (wirelesslaw51_queued F 2).bind fun x_290 =>
  (friend_Keep F x_210 x_290).bind fun x_370 =>
  wirelesslaw51_lives_j1 F x_1 x_2 x_370

def wirelesslaw51_FriendBounds_j1 (F : Nat) : Option (Bool) :=
  (wirelesslaw51_lives F).bind fun x_4 =>
  some x_4

def wirelesslaw51_FriendBounds_j2 (F : Nat) (x_14 : Int) (c_23 : T_api_Friend) : Option (Out (T_api_Friend × Int) (Sum (Unit) (Bool))) :=
  some (.next (c_23, w64 (x_14 + 1)))

def wirelesslaw51_FriendBounds_j4 (F : Nat) (x_35 : Int) : Option (Out (Int) (Sum (T_api_Friend) (Bool))) :=
  some (.next (w64 (x_35 + 1)))

def wirelesslaw51_FriendBounds_j5 (F : Nat) (x_36 : Int) (c_45 : T_api_NetPDU) (c_54 : T_api_NetPDU) : Option (Out (Int) (Sum (Unit) (Bool))) :=
  if (((c_45.Src == c_54.Src) && (c_45.IV == c_54.IV)) && (c_45.Seq == c_54.Seq)) = true then
    some (.done (.inr false))
  else
    some (.next (w64 (x_36 + 1)))

def wirelesslaw51_FriendBounds_l3 (F : Nat) (c_32 : T_api_Friend) (x_35 : Int) (x_36 : Int) : Option (Out (Int) (Sum (Unit) (Bool))) :=
  if (decide (x_36 < x_35)) = true then
    (idx c_32.Queue x_36).bind fun x_55 =>
    (idx c_32.Queue x_35).bind fun x_56 =>
    wirelesslaw51_FriendBounds_j5 F x_36 x_55.PDU x_56.PDU
  else
    some (.done (.inl ()))

def wirelesslaw51_FriendBounds_l2 (F : Nat) (c_32 : T_api_Friend) (x_35 : Int) : Option (Out (Int) (Sum (T_api_Friend) (Bool))) :=
  if (decide (x_35 < (len c_32.Queue))) = true then
    (iter (fun s => wirelesslaw51_FriendBounds_l3 F c_32 x_35 s) F (0)).bind fun o =>
    match o with
    | .inl u => wirelesslaw51_FriendBounds_j4 F x_35
    | .inr u => some (.done (.inr u))
  else
    some (.done (.inl (c_32)))

def wirelesslaw51_FriendBounds_j3 (F : Nat) (l_1 : (List T_wirelesslaw51_Op)) (c_13 : T_api_Friend) (x_14 : Int) (c_32 : T_api_Friend) : Option (Out (T_api_Friend × Int) (Sum (Unit) (Bool))) :=
  (if (decide ((len c_32.Queue) > 16)) = true then
    some (true)
  else
    (idx l_1 x_14).bind fun x_1420 =>
    if (x_1420.Kind != 2) = true then
      if ((w64 ((len c_32.Queue) + c_32.Dropped)) != (w64 ((len c_13.Queue) + c_13.Dropped))) = true then
        some (((w64 ((len c_32.Queue) + c_32.Dropped)) != (w64 ((w64 ((len c_13.Queue) + c_13.Dropped)) + 1))))
      else
        some (false)
    else
      if false = true then
        some (((w64 ((len c_32.Queue) + c_32.Dropped)) != (w64 ((w64 ((len c_13.Queue) + c_13.Dropped)) + 1))))
      else
        some (false)).bind fun z_34 =>
  if z_34 = true then
    some (.done (.inr false))
  else
    (iter (fun s => wirelesslaw51_FriendBounds_l2 F c_32 s) F (0)).bind fun o =>
    match o with
    | .inl u => wirelesslaw51_FriendBounds_j2 F x_14 u
    | .inr u => some (.done (.inr u))

def wirelesslaw51_FriendBounds_l1 (F : Nat) (l_1 : (List T_wirelesslaw51_Op)) (c_13 : T_api_Friend) (x_14 : Int) : Option (Out (T_api_Friend × Int) (Sum (Unit) (Bool))) :=
  if (decide (x_14 < (len l_1))) = true then
    (idx l_1 x_14).bind fun x_1424 =>
    if (x_1424.Kind == 2) = true then
      (idx l_1 x_14).bind fun x_1425 =>
      (friend_Poll F c_13 x_1425.Number 0).bind fun x_1428 =>
      wirelesslaw51_FriendBounds_j3 F l_1 c_13 x_14 x_1428.1
    else
      (idx l_1 x_14).bind fun x_1429 =>
      (friend_Keep F c_13 x_1429.Q).bind fun x_1432 =>
      wirelesslaw51_FriendBounds_j3 F l_1 c_13 x_14 x_1432
  else
    some (.done (.inl ()))

def wirelesslaw51_FriendBounds (F : Nat) (l_1 : (List T_wirelesslaw51_Op)) : Option (Bool) :=
  if (decide ((len l_1) > 200)) = true then
    (wirelesslaw51_lives F).bind fun x_2 =>
    some x_2
  else
    (friend_Befriend F (T_api_Friend.mk 0 [] [] 0 false 0 0 0) 5 1 0).bind fun x_3 =>
    if (!x_3.2) = true then
      some false
    else
      (iter (fun s => wirelesslaw51_FriendBounds_l1 F l_1 s.1 s.2) F (x_3.1, 0)).bind fun o =>
      match o with
      | .inl u => wirelesslaw51_FriendBounds_j1 F
      | .inr u => some u

end V
end Go.Proofs.Ytphigebccfoppaa
