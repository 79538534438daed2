/-
  Pure twins of the Go functions, written by program.
-/
import Derived.Test.YtphigebccfoppaaPure
namespace Go.Proofs.Ytphigebccfoppaa
namespace V
structure T_api_NetPDU where
  IV : Int
  NID : Int
  Control : Bool
  TTL : Int
  Seq : Int
  Src : Int
  Dst : Int
  Payload : (List Int)

structure T_api_Lower where
  Control : Bool
  Segmented : Bool
  App : Bool
  Zero : Int
  Index : Int
  Last : Int
  Opcode : Int
  Block : Int
  Friend : Bool
  Bytes : (List Int)

structure T_api_Queued where
  PDU : T_api_NetPDU
  Lower : T_api_Lower

structure T_wirelesslaw51_Op where
  Kind : Int
  Address : Int
  Number : Int
  Group : Int
  More : Bool
  Q : T_api_Queued
  Subs : (List Int)
  Now : Int

structure T_api_Friend where
  Low : Int
  Queue : (List T_api_Queued)
  Subs : (List Int)
  Bit : Int
  Sent : Bool
  Polled : Int
  Counter : Int
  Dropped : Int

structure T_api_LowPower where
  Phase : Int
  Friend : Int
  Bit : Int
  Counter : Int
  Due : Int
  Tries : Int
  Subs : (List Int)
  Told : Int
  More : Bool
  Last : Int

def slices_Clone_uint16_uint16 (F : Nat) (s_1 : (List Int)) : Option ((List Int)) :=
  (app 2 ([] : (List Int)) s_1).bind fun l_2 =>
  some l_2

def slices_Clone_api_Queued_api_Queued (F : Nat) (s_1 : (List T_api_Queued)) : Option ((List T_api_Queued)) :=
  (app 136 ([] : (List T_api_Queued)) s_1).bind fun l_2 =>
  some l_2

def slices_Clone_byte_byte (F : Nat) (s_1 : (List Int)) : Option ((List Int)) :=
  (app 1 ([] : (List Int)) s_1).bind fun l_2 =>
  some l_2

def friend_own (F : Nat) (q_1 : T_api_Queued) : Option (T_api_Queued) :=
  (slices_Clone_byte_byte F q_1.PDU.Payload).bind fun x_2 =>
  (slices_Clone_byte_byte F q_1.Lower.Bytes).bind fun x_3 =>
  some (T_api_Queued.mk ({ q_1.PDU with Payload := x_2 }) ({ q_1.Lower with Bytes := x_3 }))

def friend_apart_j1 (F : Nat) (f_1 : T_api_Friend) (x_2 : (List Int)) (l_4 : (List T_api_Queued)) : Option (T_api_Friend) :=
  some ({ f_1 with Queue := l_4, Subs := x_2 })

def friend_apart_l1 (F : Nat) (x_3 : (List T_api_Queued)) (l_5 : (List T_api_Queued)) (x_6 : Int) : Option (Out ((List T_api_Queued) × Int) ((List T_api_Queued))) :=
  if (decide (x_6 < (len x_3))) = true then
    (idx l_5 x_6).bind fun x_489 =>
    (idx l_5 x_6).bind fun x_569 =>
    (friend_own F x_569).bind fun x_649 =>
    (idx l_5 x_6).bind fun x_729 =>
    (upd l_5 x_6 x_649).bind fun l_809 =>
    some (.next (l_809, w64 (x_6 + 1)))
  else
    some (.done (l_5))

def friend_apart (F : Nat) (f_1 : T_api_Friend) : Option (T_api_Friend) :=
  (slices_Clone_uint16_uint16 F f_1.Subs).bind fun x_2 =>
  (slices_Clone_api_Queued_api_Queued F f_1.Queue).bind fun x_3 =>
  (iter (fun s => friend_apart_l1 F x_3 s.1 s.2) F (x_3, 0)).bind fun o =>
  friend_apart_j1 F f_1 x_2 o

def netpdu_Node (F : Nat) (a_1 : Int) : Option (Bool) :=
  some ((decide (a_1 > 0)) && (decide (a_1 ≤ 32767)))

def friend_over (F : Nat) (f_1 : T_api_Friend) (now_2 : Int) : Option (Bool) :=
  some (decide (now_2 ≥ (w64 (f_1.Polled + 200))))

def friend_Befriend (F : Nat) (f_1 : T_api_Friend) (low_2 : Int) (counter_3 : Int) (now_4 : Int) : Option (T_api_Friend × Bool) :=
  (friend_apart F f_1).bind fun x_5 =>
  (netpdu_Node F low_2).bind fun x_6 =>
  (if (((!x_6) || (decide (counter_3 < 0))) || (decide (counter_3 ≥ 65536))) = true then
    some (true)
  else
    if (x_5.Low != 0) = true then
      if (x_5.Low != low_2) = true then
        (friend_over F x_5 now_4).bind fun x_16 =>
        some ((!x_16))
      else
        some (false)
    else
      if false = true then
        (friend_over F x_5 now_4).bind fun x_18 =>
        some ((!x_18))
      else
        some (false)).bind fun z_8 =>
  if z_8 = true then
    some (x_5, false)
  else
    (if ((x_5.Low == low_2) && (x_5.Counter == counter_3)) = true then
      (friend_over F x_5 now_4).bind fun x_12 =>
      some ((!x_12))
    else
      some (false)).bind fun z_10 =>
    if z_10 = true then
      some ({ x_5 with Polled := now_4 }, true)
    else
      some ((T_api_Friend.mk low_2 [] [] 0 false now_4 counter_3 0), true)

def wirelesslaw51_queued (F : Nat) (n_1 : Int) : Option (T_api_Queued) :=
  some (T_api_Queued.mk (T_api_NetPDU.mk 0 0 false 0 n_1 7 0 []) (T_api_Lower.mk false false false 0 0 0 0 0 false []))

def friend_Keep_1 (F : Nat) (x_1 : T_api_Queued) (p_2 : T_api_Queued) : Option (Bool × T_api_Queued) :=
  some ((((x_1.PDU.Src == p_2.PDU.Src) && (x_1.PDU.IV == p_2.PDU.IV)) && (x_1.PDU.Seq == p_2.PDU.Seq)), p_2)

def slices_IndexFunc_api_Queued_api_Queued_at30_j1 (F : Nat) (c_21 : T_api_Queued) : Option (Int × T_api_Queued) :=
  some ((-1), c_21)

def slices_IndexFunc_api_Queued_api_Queued_at30_l1 (F : Nat) (s_1 : (List T_api_Queued)) (c_40 : T_api_Queued) (x_41 : Int) : Option (Out (T_api_Queued × Int) (Sum (T_api_Queued) (Int × T_api_Queued))) :=
  if (decide (x_41 < (len s_1))) = true then
    (idx s_1 x_41).bind fun x_42 =>
    (friend_Keep_1 F x_42 c_40).bind fun x_43 =>
    if x_43.1 = true then
      some (.done (.inr (x_41, x_43.2)))
    else
      some (.next (x_43.2, w64 (x_41 + 1)))
  else
    some (.done (.inl (c_40)))

def slices_IndexFunc_api_Queued_api_Queued_at30 (F : Nat) (s_1 : (List T_api_Queued)) (c_2 : T_api_Queued) : Option (Int × T_api_Queued) :=
  (iter (fun s => slices_IndexFunc_api_Queued_api_Queued_at30_l1 F s_1 s.1 s.2) F (c_2, 0)).bind fun o =>
  match o with
  | .inl u => slices_IndexFunc_api_Queued_api_Queued_at30_j1 F u
  | .inr u => some u

def slices_ContainsFunc_api_Queued_api_Queued_at30 (F : Nat) (s_1 : (List T_api_Queued)) (c_2 : T_api_Queued) : Option (Bool × T_api_Queued) :=
  (slices_IndexFunc_api_Queued_api_Queued_at30 F s_1 c_2).bind fun x_3 =>
  some (decide (x_3.1 ≥ 0), x_3.2)

def slices_Insert_api_Queued_api_Queued (F : Nat) (s_1 : (List T_api_Queued)) (i_2 : Int) (v_3 : (List T_api_Queued)) : Option ((List T_api_Queued)) :=
  (sub s_1 i_2 (len s_1)).bind fun l_4 =>
  if ((len v_3) == 0) = true then
    some s_1
  else
    if (i_2 == (len s_1)) = true then
      (app 136 s_1 v_3).bind fun l_5 =>
      some l_5
    else
      none

def friend_with_api_Queued_j1 (F : Nat) (l_4 : (List T_api_Queued)) : Option ((List T_api_Queued)) :=
  some l_4

def friend_with_api_Queued (F : Nat) (l_1 : (List T_api_Queued)) (i_2 : Int) (x_3 : T_api_Queued) : Option ((List T_api_Queued)) :=
  (slices_Clone_api_Queued_api_Queued F l_1).bind fun x_87 =>
  (slices_Insert_api_Queued_api_Queued F x_87 i_2 [x_3]).bind fun x_407 =>
  friend_with_api_Queued_j1 F x_407

def slices_Delete_api_Queued_api_Queued (F : Nat) (s_1 : (List T_api_Queued)) (i_2 : Int) (j_3 : Int) : Option ((List T_api_Queued)) :=
  if 0 ≤ i_2 ∧ i_2 ≤ j_3 ∧ j_3 ≤ (s_1.length : Int) then
    some (s_1.take i_2.toNat ++ s_1.drop j_3.toNat)
  else
    none

def friend_without_api_Queued (F : Nat) (l_1 : (List T_api_Queued)) (i_2 : Int) : Option ((List T_api_Queued)) :=
  (slices_Clone_api_Queued_api_Queued F l_1).bind fun x_3 =>
  (slices_Delete_api_Queued_api_Queued F x_3 i_2 (w64 (i_2 + 1))).bind fun x_4 =>
  some x_4

def friend_Keep_j2 (F : Nat) (x_3 : T_api_Friend) (c_28 : T_api_Friend) : Option (T_api_Friend) :=
  some ({ x_3 with Queue := c_28.Queue, Dropped := c_28.Dropped })

def friend_Keep_j3 (F : Nat) (x_3 : T_api_Friend) (l_25 : (List T_api_Queued)) (x_29 : Int) : Option (T_api_Friend) :=
  (friend_without_api_Queued F l_25 x_29).bind fun x_30 =>
  friend_Keep_j2 F x_3 ({ x_3 with Queue := x_30, Dropped := w64 (x_3.Dropped + 1) })

def friend_Keep_j1 (F : Nat) (x_3 : T_api_Friend) (l_25 : (List T_api_Queued)) : Option (T_api_Friend) :=
  if (decide ((len l_25) > 16)) = true then
    if x_3.Sent = true then
      friend_Keep_j3 F x_3 l_25 1
    else
      friend_Keep_j3 F x_3 l_25 0
  else
    friend_Keep_j2 F x_3 ({ x_3 with Queue := l_25 })

def friend_Keep_j4 (F : Nat) (x_3 : T_api_Friend) (c_23 : T_api_Queued) (z_24 : Bool) : Option (T_api_Friend) :=
  if z_24 = true then
    some x_3
  else
    (friend_own F c_23).bind fun x_513 =>
    (friend_with_api_Queued F x_3.Queue (len x_3.Queue) x_513).bind fun x_593 =>
    friend_Keep_j1 F x_3 x_593

def friend_Keep (F : Nat) (f_1 : T_api_Friend) (q_2 : T_api_Queued) : Option (T_api_Friend) :=
  (friend_apart F f_1).bind fun x_3 =>
  (if (x_3.Low == 0) = true then
    some (q_2, true)
  else
    (slices_ContainsFunc_api_Queued_api_Queued_at30 F x_3.Queue q_2).bind fun x_914 =>
    some (x_914.2, x_914.1)).bind fun z_913 =>
  friend_Keep_j4 F x_3 z_913.1 z_913.2

def friend_Poll_j2 (F : Nat) (bit_2 : Int) (now_3 : Int) (x_4 : T_api_Friend) (l_5 : (List T_api_Queued)) (l_6 : (List T_api_Queued)) : Option (T_api_Friend × (List T_api_Queued)) :=
  some ({ x_4 with Queue := l_5, Bit := bit_2, Sent := decide ((len l_5) > 0), Polled := now_3 }, l_6)

def friend_Poll_j1 (F : Nat) (bit_2 : Int) (now_3 : Int) (x_4 : T_api_Friend) (l_5 : (List T_api_Queued)) : Option (T_api_Friend × (List T_api_Queued)) :=
  if (!(decide ((len l_5) > 0))) = true then
    some ({ x_4 with Queue := l_5, Bit := bit_2, Sent := decide ((len l_5) > 0), Polled := now_3 }, [])
  else
    (idx l_5 0).bind fun x_7 =>
    (friend_own F x_7).bind fun x_10 =>
    friend_Poll_j2 F bit_2 now_3 x_4 l_5 [x_10]

def friend_Poll (F : Nat) (f_1 : T_api_Friend) (bit_2 : Int) (now_3 : Int) : Option (T_api_Friend × (List T_api_Queued)) :=
  (friend_apart F f_1).bind fun x_4 =>
  if ((x_4.Low == 0) || ((bit_2 != 0) && (bit_2 != 1))) = true then
    some (x_4, [])
  else
    if ((x_4.Sent && (bit_2 != x_4.Bit)) && (decide ((len x_4.Queue) > 0))) = true then
      (friend_without_api_Queued F x_4.Queue 0).bind fun x_811 =>
      friend_Poll_j1 F bit_2 now_3 x_4 x_811
    else
      friend_Poll_j1 F bit_2 now_3 x_4 x_4.Queue

def friend_Over (F : Nat) (f_1 : T_api_Friend) (now_2 : Int) : Option (Bool) :=
  (if (f_1.Low != 0) = true then
    (friend_over F f_1 now_2).bind fun x_6 =>
    some (x_6)
  else
    some (false)).bind fun z_4 =>
  some z_4

def friend_Seek_j1 (F : Nat) (l_1 : T_api_LowPower) (now_3 : Int) (l_4 : (List Int)) : Option (T_api_LowPower) :=
  some (T_api_LowPower.mk 1 0 0 (iand .i64 (w64 (l_1.Counter + 1)) 65535) now_3 0 l_4 0 false 0)

def friend_Seek (F : Nat) (l_1 : T_api_LowPower) (subs_2 : (List Int)) (now_3 : Int) : Option (T_api_LowPower) :=
  (slices_Clone_uint16_uint16 F subs_2).bind fun x_7 =>
  friend_Seek_j1 F l_1 now_3 x_7

def friend_two (F : Nat) (n_1 : Int) : Option ((List Int)) :=
  some [wu8 n_1, wu8 (shrp n_1 8)]

def friend_known (F : Nat) (l_1 : T_api_LowPower) : Option (Bool) :=
  some (decide (l_1.Told ≥ (len l_1.Subs)))

def friend_Tick_j3 (F : Nat) (now_2 : Int) (c_14 : T_api_LowPower) (c_17 : T_api_Lower) : Option (T_api_LowPower × (List T_api_Lower)) :=
  some ({ c_14 with Due := w64 (now_2 + 10), Tries := w64 (c_14.Tries + 1) }, [{ c_17 with Control := true, Segmented := false, App := false, Zero := 0, Index := 0, Last := 0, Block := 0, Friend := false }])

def friend_Tick_j2 (F : Nat) (now_2 : Int) (c_14 : T_api_LowPower) (c_17 : T_api_Lower) : Option (T_api_LowPower × (List T_api_Lower)) :=
  friend_Tick_j3 F now_2 c_14 c_17

def friend_Tick_j1 (F : Nat) (now_2 : Int) (c_14 : T_api_LowPower) : Option (T_api_LowPower × (List T_api_Lower)) :=
  if ((c_14.Phase == 0) || (decide (c_14.Due > now_2))) = true then
    some (c_14, [])
  else
    if (c_14.Phase == 1) = true then
      (friend_two F c_14.Counter).bind fun x_500 =>
      friend_Tick_j2 F now_2 c_14 (T_api_Lower.mk true false false 0 0 0 3 0 false x_500)
    else
      (if (c_14.Phase == 3) = true then
        (friend_known F c_14).bind fun x_506 =>
        some ((!x_506))
      else
        some (false)).bind fun z_502 =>
      if z_502 = true then
        (idx c_14.Subs c_14.Told).bind fun x_503 =>
        (friend_two F (w64 x_503)).bind fun x_504 =>
        friend_Tick_j2 F now_2 c_14 (T_api_Lower.mk true false false 0 0 0 7 0 false x_504)
      else
        friend_Tick_j2 F now_2 c_14 (T_api_Lower.mk true false false 0 0 0 1 0 false [wu8 c_14.Bit])

def friend_Tick (F : Nat) (l_1 : T_api_LowPower) (now_2 : Int) : Option (T_api_LowPower × (List T_api_Lower)) :=
  (slices_Clone_uint16_uint16 F l_1.Subs).bind fun x_3 =>
  if (((l_1.Phase == 3) && (decide (now_2 ≥ (w64 (l_1.Last + 200))))) || (((l_1.Phase == 2) && (decide (l_1.Due ≤ now_2))) && (decide (l_1.Tries ≥ 6)))) = true then
    (friend_Seek F ({ l_1 with Subs := x_3 }) x_3 now_2).bind fun x_507 =>
    friend_Tick_j1 F now_2 x_507
  else
    friend_Tick_j1 F now_2 ({ l_1 with Subs := x_3 })

def wirelessref02_Same (F : Nat) (a_1 : (List Int)) (b_2 : (List Int)) : Option (Bool) :=
  some ((str a_1) == (str b_2))

def slices_Index_uint16_uint16_j1 (F : Nat) : Option (Int) :=
  some (-1)

def slices_Index_uint16_uint16_l1 (F : Nat) (s_1 : (List Int)) (v_2 : Int) (x_3 : Int) : Option (Out (Int) (Sum (Unit) (Int))) :=
  if (decide (x_3 < (len s_1))) = true then
    (idx s_1 x_3).bind fun x_4 =>
    if (v_2 == x_4) = true then
      some (.done (.inr x_3))
    else
      some (.next (w64 (x_3 + 1)))
  else
    some (.done (.inl ()))

def slices_Index_uint16_uint16 (F : Nat) (s_1 : (List Int)) (v_2 : Int) : Option (Int) :=
  (iter (fun s => slices_Index_uint16_uint16_l1 F s_1 v_2 s) F (0)).bind fun o =>
  match o with
  | .inl u => slices_Index_uint16_uint16_j1 F
  | .inr u => some u

def slices_Contains_uint16_uint16 (F : Nat) (s_1 : (List Int)) (v_2 : Int) : Option (Bool) :=
  (slices_Index_uint16_uint16 F s_1 v_2).bind fun x_3 =>
  some (decide (x_3 ≥ 0))

def friend_Wants (F : Nat) (f_1 : T_api_Friend) (dst_2 : Int) : Option (Bool) :=
  (if (f_1.Low != 0) = true then
    if (dst_2 == f_1.Low) = true then
      if true = true then
        some (true)
      else
        (slices_Contains_uint16_uint16 F f_1.Subs dst_2).bind fun x_8 =>
        some (x_8)
    else
      if (dst_2 == 65535) = true then
        some (true)
      else
        (slices_Contains_uint16_uint16 F f_1.Subs dst_2).bind fun x_10 =>
        some (x_10)
  else
    some (false)).bind fun z_4 =>
  some z_4

def wirelesslaw51_lives_j1 (F : Nat) (x_1 : T_api_Friend × Bool) (x_2 : T_api_Friend × Bool) (c_11 : T_api_Friend) : Option (Bool) :=
  (friend_Poll F c_11 0 1).bind fun x_12 =>
  (friend_Poll F x_12.1 0 2).bind fun x_13 =>
  (friend_Poll F x_13.1 1 3).bind fun x_14 =>
  (friend_Poll F x_14.1 0 4).bind fun x_15 =>
  (if (((!x_1.2) || x_2.2) || (x_2.1.Low != 5)) = true then
    some (true)
  else
    (friend_Over F x_2.1 199).bind fun x_47 =>
    some (x_47)).bind fun z_17 =>
  (if z_17 = true then
    some (true)
  else
    (friend_Over F x_2.1 200).bind fun x_45 =>
    some ((!x_45))).bind fun z_19 =>
  if (((((z_19 || ((len x_12.2) != 1)) || ((len x_13.2) != 1)) || ((len x_14.2) != 1)) || ((len x_15.2) != 0)) || ((len x_15.1.Queue) != 0)) = true then
    some false
  else
    (friend_Seek F (T_api_LowPower.mk 0 0 0 0 0 0 [] 0 false 0) [] 7).bind fun x_20 =>
    (friend_Tick F x_20 7).bind fun x_21 =>
    (idx x_12.2 0).bind fun x_22 =>
    (if (x_22.PDU.Seq == 1) = true then
      (idx x_13.2 0).bind fun x_43 =>
      some ((x_43.PDU.Seq == 1))
    else
      some (false)).bind fun z_24 =>
    (if z_24 = true then
      (idx x_14.2 0).bind fun x_41 =>
      some ((x_41.PDU.Seq == 2))
    else
      some (false)).bind fun z_26 =>
    (if (z_26 && ((len x_21.2) == 1)) = true then
      (idx x_21.2 0).bind fun x_39 =>
      some ((x_39.Opcode == 3))
    else
      some (false)).bind fun z_28 =>
    (if z_28 = true then
      (idx x_21.2 0).bind fun x_36 =>
      (wirelessref02_Same F x_36.Bytes [1, 0]).bind fun x_37 =>
      some (x_37)
    else
      some (false)).bind fun z_30 =>
    (if (z_30 && (x_21.1.Due == 17)) = true then
      (friend_Wants F x_2.1 65535).bind fun x_34 =>
      some (x_34)
    else
      some (false)).bind fun z_32 =>
    some z_32

def wirelesslaw51_lives (F : Nat) : Option (Bool) :=
  (friend_Befriend F (T_api_Friend.mk 0 [] [] 0 false 0 0 0) 5 1 0).bind fun x_1 =>
  (friend_Befriend F x_1.1 6 1 199).bind fun x_2 =>
  (wirelesslaw51_queued F 1).bind fun x_130 =>
  (friend_Keep F x_1.1 x_130).bind fun x_210 =>
  (wirelesslaw51_queued F 2).bind fun x_290 =>
  (friend_Keep F x_210 x_290).bind fun x_370 =>
  wirelesslaw51_lives_j1 F x_1 x_2 x_370

def wirelesslaw51_fits (F : Nat) (o_1 : T_wirelesslaw51_Op) (now_2 : Int) : Option (Bool) :=
  some (((((decide ((len o_1.Subs) ≤ 30)) && (decide ((len o_1.Q.PDU.Payload) ≤ 50))) && (decide ((len o_1.Q.Lower.Bytes) ≤ 50))) && (decide (o_1.Now ≥ now_2))) && (decide (o_1.Now ≤ 1099511627776)))

def wirelessref48_Node (F : Nat) (a_1 : Int) : Option (Bool) :=
  some ((decide (a_1 > 0)) && (decide (a_1 < 32768)))

def wirelessref51_late (F : Nat) (since_1 : Int) (now_2 : Int) : Option (Bool) :=
  some (decide ((w64 (now_2 - since_1)) ≥ 200))

def wirelessref51_Over (F : Nat) (f_1 : T_api_Friend) (now_2 : Int) : Option (Bool) :=
  (if (f_1.Low != 0) = true then
    (wirelessref51_late F f_1.Polled now_2).bind fun x_6 =>
    some (x_6)
  else
    some (false)).bind fun z_4 =>
  some z_4

def wirelessref51_Befriend (F : Nat) (f_1 : T_api_Friend) (low_2 : Int) (counter_3 : Int) (now_4 : Int) : Option (T_api_Friend × Bool) :=
  (wirelessref48_Node F low_2).bind fun x_5 =>
  (if (((!x_5) || (decide (counter_3 < 0))) || (decide (counter_3 > 65535))) = true then
    some (true)
  else
    if (f_1.Low != 0) = true then
      if (f_1.Low != low_2) = true then
        (wirelessref51_Over F f_1 now_4).bind fun x_15 =>
        some ((!x_15))
      else
        some (false)
    else
      if false = true then
        (wirelessref51_Over F f_1 now_4).bind fun x_17 =>
        some ((!x_17))
      else
        some (false)).bind fun z_7 =>
  if z_7 = true then
    some (f_1, false)
  else
    (if ((f_1.Low == low_2) && (f_1.Counter == counter_3)) = true then
      (wirelessref51_Over F f_1 now_4).bind fun x_11 =>
      some ((!x_11))
    else
      some (false)).bind fun z_9 =>
    if z_9 = true then
      some ({ f_1 with Polled := now_4 }, true)
    else
      some ((T_api_Friend.mk low_2 [] [] 0 false now_4 counter_3 0), true)

def wirelessref50_sameHead (F : Nat) (a_1 : T_api_Lower) (b_2 : T_api_Lower) : Option (Bool) :=
  some (((((((((a_1.Control == b_2.Control) && (a_1.Segmented == b_2.Segmented)) && (a_1.App == b_2.App)) && (a_1.Zero == b_2.Zero)) && (a_1.Index == b_2.Index)) && (a_1.Last == b_2.Last)) && (a_1.Opcode == b_2.Opcode)) && (a_1.Block == b_2.Block)) && (a_1.Friend == b_2.Friend))

def wirelessref50_SameLower (F : Nat) (a_1 : T_api_Lower) (b_2 : T_api_Lower) : Option (Bool) :=
  (wirelessref50_sameHead F a_1 b_2).bind fun x_3 =>
  (if x_3 = true then
    (wirelessref02_Same F a_1.Bytes b_2.Bytes).bind fun x_7 =>
    some (x_7)
  else
    some (false)).bind fun z_5 =>
  some z_5

def wirelesslaw51_sameNode_j1 (F : Nat) (a_1 : T_api_Queued) (b_2 : T_api_Queued) : Option (Bool) :=
  (if (((((((a_1.PDU.IV == b_2.PDU.IV) && (a_1.PDU.NID == b_2.PDU.NID)) && (a_1.PDU.Control == b_2.PDU.Control)) && (a_1.PDU.TTL == b_2.PDU.TTL)) && (a_1.PDU.Seq == b_2.PDU.Seq)) && (a_1.PDU.Src == b_2.PDU.Src)) && (a_1.PDU.Dst == b_2.PDU.Dst)) = true then
    (wirelessref02_Same F a_1.PDU.Payload b_2.PDU.Payload).bind fun x_10 =>
    some (x_10)
  else
    some (false)).bind fun z_4 =>
  (if z_4 = true then
    (wirelessref50_SameLower F a_1.Lower b_2.Lower).bind fun x_8 =>
    some (x_8)
  else
    some (false)).bind fun z_6 =>
  some z_6

def wirelesslaw51_sameNode (F : Nat) (a_1 : T_api_Queued) (b_2 : T_api_Queued) : Option (Bool) :=
  wirelesslaw51_sameNode_j1 F a_1 b_2

def wirelesslaw51_sameQueue_j1 (F : Nat) : Option (Bool) :=
  some true

def wirelesslaw51_sameQueue_j2 (F : Nat) (x_3 : Int) (z_4 : Bool) : Option (Out (Int) (Sum (Unit) (Bool))) :=
  if z_4 = true then
    some (.done (.inr false))
  else
    some (.next (w64 (x_3 + 1)))

def wirelesslaw51_sameQueue_l1 (F : Nat) (a_1 : (List T_api_Queued)) (b_2 : (List T_api_Queued)) (x_3 : Int) : Option (Out (Int) (Sum (Unit) (Bool))) :=
  if (decide (x_3 < (len a_1))) = true then
    (idx a_1 x_3).bind fun x_5 =>
    (idx b_2 x_3).bind fun x_6 =>
    (wirelesslaw51_sameNode F x_5 x_6).bind fun x_9 =>
    wirelesslaw51_sameQueue_j2 F x_3 (!x_9)
  else
    some (.done (.inl ()))

def wirelesslaw51_sameQueue (F : Nat) (a_1 : (List T_api_Queued)) (b_2 : (List T_api_Queued)) : Option (Bool) :=
  if ((len a_1) != (len b_2)) = true then
    some false
  else
    (iter (fun s => wirelesslaw51_sameQueue_l1 F a_1 b_2 s) F (0)).bind fun o =>
    match o with
    | .inl u => wirelesslaw51_sameQueue_j1 F
    | .inr u => some u

def wirelesslaw51_sameSubs_j1 (F : Nat) : Option (Bool) :=
  some true

def wirelesslaw51_sameSubs_j2 (F : Nat) (x_3 : Int) (z_4 : Bool) : Option (Out (Int) (Sum (Unit) (Bool))) :=
  if z_4 = true then
    some (.done (.inr false))
  else
    some (.next (w64 (x_3 + 1)))

def wirelesslaw51_sameSubs_l1 (F : Nat) (a_1 : (List Int)) (b_2 : (List Int)) (x_3 : Int) : Option (Out (Int) (Sum (Unit) (Bool))) :=
  if (decide (x_3 < (len a_1))) = true then
    (idx a_1 x_3).bind fun x_5 =>
    (idx b_2 x_3).bind fun x_6 =>
    wirelesslaw51_sameSubs_j2 F x_3 (x_5 != x_6)
  else
    some (.done (.inl ()))

def wirelesslaw51_sameSubs (F : Nat) (a_1 : (List Int)) (b_2 : (List Int)) : Option (Bool) :=
  if ((len a_1) != (len b_2)) = true then
    some false
  else
    (iter (fun s => wirelesslaw51_sameSubs_l1 F a_1 b_2 s) F (0)).bind fun o =>
    match o with
    | .inl u => wirelesslaw51_sameSubs_j1 F
    | .inr u => some u

def wirelesslaw51_SameFriend (F : Nat) (a_1 : T_api_Friend) (b_2 : T_api_Friend) : Option (Bool) :=
  (if ((((((a_1.Low == b_2.Low) && (a_1.Bit == b_2.Bit)) && (a_1.Sent == b_2.Sent)) && (a_1.Polled == b_2.Polled)) && (a_1.Counter == b_2.Counter)) && (a_1.Dropped == b_2.Dropped)) = true then
    (wirelesslaw51_sameQueue F a_1.Queue b_2.Queue).bind fun x_10 =>
    some (x_10)
  else
    some (false)).bind fun z_4 =>
  (if z_4 = true then
    (wirelesslaw51_sameSubs F a_1.Subs b_2.Subs).bind fun x_8 =>
    some (x_8)
  else
    some (false)).bind fun z_6 =>
  some z_6

def wirelessref51_Keep_j3 (F : Nat) (f_1 : T_api_Friend) (x_4 : Int) (l_5 : (List T_api_Queued)) : Option (T_api_Friend) :=
  some ({ f_1 with Queue := l_5, Dropped := x_4 })

def wirelessref51_Keep_j2 (F : Nat) (f_1 : T_api_Friend) (l_3 : (List T_api_Queued)) : Option (T_api_Friend) :=
  if (decide ((len l_3) > 16)) = true then
    if f_1.Sent = true then
      (idx l_3 0).bind fun x_6 =>
      (sub l_3 2 (len l_3)).bind fun l_409 =>
      (app 136 [x_6] l_409).bind fun l_489 =>
      wirelessref51_Keep_j3 F f_1 (w64 (f_1.Dropped + 1)) l_489
    else
      (sub l_3 1 (len l_3)).bind fun l_729 =>
      wirelessref51_Keep_j3 F f_1 (w64 (f_1.Dropped + 1)) l_729
  else
    wirelessref51_Keep_j3 F f_1 f_1.Dropped l_3

def wirelessref51_Keep_j1 (F : Nat) (f_1 : T_api_Friend) (q_2 : T_api_Queued) : Option (T_api_Friend) :=
  (app 136 ([] : (List T_api_Queued)) f_1.Queue).bind fun l_972 =>
  (app 136 l_972 [q_2]).bind fun l_1212 =>
  wirelessref51_Keep_j2 F f_1 l_1212

def wirelessref51_Keep_l1 (F : Nat) (f_1 : T_api_Friend) (q_2 : T_api_Queued) (x_1452 : Int) : Option (Out (Int) (Sum (Unit) (T_api_Friend))) :=
  if (decide (x_1452 < (len f_1.Queue))) = true then
    (idx f_1.Queue x_1452).bind fun x_1453 =>
    if (((x_1453.PDU.Src == q_2.PDU.Src) && (x_1453.PDU.IV == q_2.PDU.IV)) && (x_1453.PDU.Seq == q_2.PDU.Seq)) = true then
      some (.done (.inr f_1))
    else
      some (.next (w64 (x_1452 + 1)))
  else
    some (.done (.inl ()))

def wirelessref51_Keep (F : Nat) (f_1 : T_api_Friend) (q_2 : T_api_Queued) : Option (T_api_Friend) :=
  if (f_1.Low == 0) = true then
    some f_1
  else
    (iter (fun s => wirelessref51_Keep_l1 F f_1 q_2 s) F (0)).bind fun o =>
    match o with
    | .inl u => wirelessref51_Keep_j1 F f_1 q_2
    | .inr u => some u

def wirelessref51_Poll_j2 (F : Nat) (f_1 : T_api_Friend) (bit_2 : Int) (now_3 : Int) (l_5 : (List T_api_Queued)) (l_6 : (List T_api_Queued)) : Option (T_api_Friend × (List T_api_Queued)) :=
  some ({ f_1 with Queue := l_5, Bit := bit_2, Sent := decide ((len l_5) > 0), Polled := now_3 }, l_6)

def wirelessref51_Poll_j1 (F : Nat) (f_1 : T_api_Friend) (bit_2 : Int) (now_3 : Int) (l_5 : (List T_api_Queued)) : Option (T_api_Friend × (List T_api_Queued)) :=
  (sub l_5 0 (imin 1 (len l_5))).bind fun l_489 =>
  (app 136 ([] : (List T_api_Queued)) l_489).bind fun l_569 =>
  wirelessref51_Poll_j2 F f_1 bit_2 now_3 l_5 l_569

def wirelessref51_Poll (F : Nat) (f_1 : T_api_Friend) (bit_2 : Int) (now_3 : Int) : Option (T_api_Friend × (List T_api_Queued)) :=
  if ((f_1.Low == 0) || ((bit_2 != 0) && (bit_2 != 1))) = true then
    some (f_1, [])
  else
    (app 136 ([] : (List T_api_Queued)) f_1.Queue).bind fun l_4 =>
    if ((f_1.Sent && (bit_2 != f_1.Bit)) && (decide ((len l_4) > 0))) = true then
      (sub l_4 1 (len l_4)).bind fun l_889 =>
      wirelessref51_Poll_j1 F f_1 bit_2 now_3 l_889
    else
      wirelessref51_Poll_j1 F f_1 bit_2 now_3 l_4

def netpdu_Group (F : Nat) (a_1 : Int) : Option (Bool) :=
  some (decide (a_1 ≥ 49152))

def cmp_isNaN_uint16 (F : Nat) (x_1 : Int) : Option (Bool) :=
  some (x_1 != x_1)

def cmp_Less_uint16 (F : Nat) (x_1 : Int) (y_2 : Int) : Option (Bool) :=
  (cmp_isNaN_uint16 F x_1).bind fun x_3 =>
  (if x_3 = true then
    (cmp_isNaN_uint16 F y_2).bind fun x_7 =>
    some ((!x_7))
  else
    some (false)).bind fun z_5 =>
  some (z_5 || (decide (x_1 < y_2)))

def slices_isNaN_uint16 (F : Nat) (x_1 : Int) : Option (Bool) :=
  some (x_1 != x_1)

def slices_BinarySearch_uint16_uint16_j1 (F : Nat) (x_1 : (List Int)) (target_2 : Int) (x_3 : Int) : Option (Int × Bool) :=
  (if (decide (x_3 < (len x_1))) = true then
    (idx x_1 x_3).bind fun x_7 =>
    if (x_7 == target_2) = true then
      some (true)
    else
      (idx x_1 x_3).bind fun x_9 =>
      (slices_isNaN_uint16 F x_9).bind fun x_10 =>
      if x_10 = true then
        (slices_isNaN_uint16 F target_2).bind fun x_12 =>
        some (x_12)
      else
        some (false)
  else
    some (false)).bind fun z_5 =>
  some (x_3, z_5)

def slices_BinarySearch_uint16_uint16_l1 (F : Nat) (x_1 : (List Int)) (target_2 : Int) (x_13 : Int) (x_14 : Int) : Option (Out (Int × Int) (Int)) :=
  if (decide (x_13 < x_14)) = true then
    (idx x_1 (w64 (shrp (wu64 (w64 (x_13 + x_14))) 1))).bind fun x_15 =>
    (cmp_Less_uint16 F x_15 target_2).bind fun x_16 =>
    if x_16 = true then
      some (.next (w64 ((w64 (shrp (wu64 (w64 (x_13 + x_14))) 1)) + 1), x_14))
    else
      some (.next (x_13, w64 (shrp (wu64 (w64 (x_13 + x_14))) 1)))
  else
    some (.done (x_13))

def slices_BinarySearch_uint16_uint16 (F : Nat) (x_1 : (List Int)) (target_2 : Int) : Option (Int × Bool) :=
  (iter (fun s => slices_BinarySearch_uint16_uint16_l1 F x_1 target_2 s.1 s.2) F (0, len x_1)).bind fun o =>
  slices_BinarySearch_uint16_uint16_j1 F x_1 target_2 o

def slices_Insert_uint16_uint16 (F : Nat) (s_1 : (List Int)) (i_2 : Int) (v_3 : (List Int)) : Option ((List Int)) :=
  if 0 ≤ i_2 ∧ i_2 ≤ (s_1.length : Int) ∧ v_3.length = 1 ∧ (s_1.length + 1) * 2 ≤ 140737488355328 then
    some (s_1.take i_2.toNat ++ v_3 ++ s_1.drop i_2.toNat)
  else
    none

def friend_with_uint16 (F : Nat) (l_1 : (List Int)) (i_2 : Int) (x_3 : Int) : Option ((List Int)) :=
  (slices_Clone_uint16_uint16 F l_1).bind fun x_4 =>
  (slices_Insert_uint16_uint16 F x_4 i_2 [x_3]).bind fun x_5 =>
  some x_5

def friend_Subscribe_j1 (F : Nat) (now_3 : Int) (x_4 : T_api_Friend) (l_8 : (List Int)) : Option (T_api_Friend) :=
  some ({ x_4 with Subs := l_8, Polled := now_3 })

def friend_Subscribe (F : Nat) (f_1 : T_api_Friend) (group_2 : Int) (now_3 : Int) : Option (T_api_Friend) :=
  (friend_apart F f_1).bind fun x_4 =>
  (if (x_4.Low == 0) = true then
    some (true)
  else
    (netpdu_Group F group_2).bind fun x_11 =>
    some ((!x_11))).bind fun z_6 =>
  if z_6 = true then
    some x_4
  else
    (slices_BinarySearch_uint16_uint16 F x_4.Subs group_2).bind fun x_7 =>
    if ((!x_7.2) && (decide ((len x_4.Subs) < 64))) = true then
      (friend_with_uint16 F x_4.Subs x_7.1 group_2).bind fun x_9 =>
      friend_Subscribe_j1 F now_3 x_4 x_9
    else
      friend_Subscribe_j1 F now_3 x_4 x_4.Subs

def wirelessref48_Group (F : Nat) (a_1 : Int) : Option (Bool) :=
  some (decide (a_1 ≥ 49152))

def wirelessref51_in_j1 (F : Nat) : Option (Bool) :=
  some false

def wirelessref51_in_l1 (F : Nat) (l_1 : (List Int)) (a_2 : Int) (x_3 : Int) : Option (Out (Int) (Sum (Unit) (Bool))) :=
  if (decide (x_3 < (len l_1))) = true then
    (idx l_1 x_3).bind fun x_4 =>
    if (x_4 == a_2) = true then
      some (.done (.inr true))
    else
      some (.next (w64 (x_3 + 1)))
  else
    some (.done (.inl ()))

def wirelessref51_in (F : Nat) (l_1 : (List Int)) (a_2 : Int) : Option (Bool) :=
  (iter (fun s => wirelessref51_in_l1 F l_1 a_2 s) F (0)).bind fun o =>
  match o with
  | .inl u => wirelessref51_in_j1 F
  | .inr u => some u

def wirelessref51_Subscribe_j1 (F : Nat) (f_1 : T_api_Friend) (group_2 : Int) (now_3 : Int) (l_7 : (List Int)) : Option (T_api_Friend) :=
  (app 2 l_7 [group_2]).bind fun l_8 =>
  (sub f_1.Subs (len l_7) (len f_1.Subs)).bind fun l_9 =>
  (app 2 l_8 l_9).bind fun l_10 =>
  some ({ f_1 with Subs := l_10, Polled := now_3 })

def wirelessref51_Subscribe_l1 (F : Nat) (f_1 : T_api_Friend) (group_2 : Int) (l_11 : (List Int)) (x_12 : Int) : Option (Out ((List Int) × Int) ((List Int))) :=
  (if (decide (x_12 < (len f_1.Subs))) = true then
    (idx f_1.Subs x_12).bind fun x_18 =>
    some (decide (x_18 < group_2))
  else
    some (false)).bind fun z_14 =>
  if z_14 = true then
    (idx f_1.Subs x_12).bind fun x_15 =>
    (app 2 l_11 [x_15]).bind fun l_16 =>
    some (.next (l_16, w64 (x_12 + 1)))
  else
    some (.done (l_11))

def wirelessref51_Subscribe (F : Nat) (f_1 : T_api_Friend) (group_2 : Int) (now_3 : Int) : Option (T_api_Friend) :=
  (if (f_1.Low == 0) = true then
    some (true)
  else
    (wirelessref48_Group F group_2).bind fun x_20 =>
    some ((!x_20))).bind fun z_5 =>
  if z_5 = true then
    some f_1
  else
    (wirelessref51_in F f_1.Subs group_2).bind fun x_6 =>
    if (x_6 || (decide ((len f_1.Subs) ≥ 64))) = true then
      some ({ f_1 with Polled := now_3 })
    else
      (iter (fun s => wirelessref51_Subscribe_l1 F f_1 group_2 s.1 s.2) F ([], 0)).bind fun o =>
      wirelessref51_Subscribe_j1 F f_1 group_2 now_3 o

def wirelesslaw51_serve_j1 (F : Nat) (x_3 : T_api_Friend × Bool) (z_5 : Bool) : Option (T_api_Friend × Bool) :=
  some (x_3.1, z_5)

def wirelesslaw51_serve_j2 (F : Nat) (x_9 : T_api_Friend) (z_10 : Bool) : Option (T_api_Friend × Bool) :=
  some (x_9, z_10)

def wirelesslaw51_serve_j3 (F : Nat) (x_15 : T_api_Friend × (List T_api_Queued)) (z_17 : Bool) : Option (T_api_Friend × Bool) :=
  some (x_15.1, z_17)

def wirelesslaw51_serve_j4 (F : Nat) (x_23 : T_api_Friend) (z_24 : Bool) : Option (T_api_Friend × Bool) :=
  some (x_23, z_24)

def wirelesslaw51_serve (F : Nat) (f_1 : T_api_Friend) (o_2 : T_wirelesslaw51_Op) : Option (T_api_Friend × Bool) :=
  if (o_2.Kind == 0) = true then
    (friend_Befriend F f_1 o_2.Address o_2.Number o_2.Now).bind fun x_3 =>
    (wirelessref51_Befriend F f_1 o_2.Address o_2.Number o_2.Now).bind fun x_4 =>
    (wirelesslaw51_SameFriend F x_3.1 x_4.1).bind fun x_8 =>
    wirelesslaw51_serve_j1 F x_3 (x_8 && (x_3.2 == x_4.2))
  else
    if (o_2.Kind == 1) = true then
      (friend_Keep F f_1 o_2.Q).bind fun x_9 =>
      (wirelessref51_Keep F f_1 o_2.Q).bind fun x_13 =>
      (wirelesslaw51_SameFriend F x_9 x_13).bind fun x_14 =>
      wirelesslaw51_serve_j2 F x_9 x_14
    else
      if (o_2.Kind == 2) = true then
        (friend_Poll F f_1 o_2.Number o_2.Now).bind fun x_15 =>
        (wirelessref51_Poll F f_1 o_2.Number o_2.Now).bind fun x_16 =>
        (wirelesslaw51_SameFriend F x_15.1 x_16.1).bind fun x_20 =>
        if x_20 = true then
          (wirelesslaw51_sameQueue F x_15.2 x_16.2).bind fun x_22 =>
          wirelesslaw51_serve_j3 F x_15 x_22
        else
          wirelesslaw51_serve_j3 F x_15 false
      else
        (friend_Subscribe F f_1 o_2.Group o_2.Now).bind fun x_23 =>
        (wirelessref51_Subscribe F f_1 o_2.Group o_2.Now).bind fun x_27 =>
        (wirelesslaw51_SameFriend F x_23 x_27).bind fun x_28 =>
        wirelesslaw51_serve_j4 F x_23 x_28

def wirelessref51_Wants (F : Nat) (f_1 : T_api_Friend) (dst_2 : Int) : Option (Bool) :=
  (if (f_1.Low != 0) = true then
    if (dst_2 == f_1.Low) = true then
      if true = true then
        some (true)
      else
        (wirelessref51_in F f_1.Subs dst_2).bind fun x_8 =>
        some (x_8)
    else
      if (dst_2 == 65535) = true then
        some (true)
      else
        (wirelessref51_in F f_1.Subs dst_2).bind fun x_10 =>
        some (x_10)
  else
    some (false)).bind fun z_4 =>
  some z_4

def wirelesslaw51_FriendServes_j1 (F : Nat) : Option (Bool) :=
  (wirelesslaw51_lives F).bind fun x_3 =>
  some x_3

def wirelesslaw51_FriendServes_j2 (F : Nat) (x_14 : Int) (c_23 : T_api_Friend) (x_24 : Int) : Option (Out (T_api_Friend × Int × Int) (Sum (Unit) (Bool))) :=
  some (.next (c_23, x_24, w64 (x_14 + 1)))

def wirelesslaw51_FriendServes_j3 (F : Nat) (x_14 : Int) (x_25 : T_wirelesslaw51_Op) (x_27 : T_api_Friend × Bool) (z_28 : Bool) : Option (Out (T_api_Friend × Int × Int) (Sum (Unit) (Bool))) :=
  if z_28 = true then
    some (.done (.inr false))
  else
    wirelesslaw51_FriendServes_j2 F x_14 x_27.1 x_25.Now

def wirelesslaw51_FriendServes_l1 (F : Nat) (l_1 : (List T_wirelesslaw51_Op)) (c_12 : T_api_Friend) (x_13 : Int) (x_14 : Int) : Option (Out (T_api_Friend × Int × Int) (Sum (Unit) (Bool))) :=
  if (decide (x_14 < (len l_1))) = true then
    (idx l_1 x_14).bind fun x_25 =>
    (wirelesslaw51_fits F x_25 x_13).bind fun x_26 =>
    if (!x_26) = true then
      wirelesslaw51_FriendServes_j2 F x_14 c_12 x_13
    else
      (wirelesslaw51_serve F c_12 x_25).bind fun x_27 =>
      if (!x_27.2) = true then
        wirelesslaw51_FriendServes_j3 F x_14 x_25 x_27 true
      else
        (friend_Wants F x_27.1 x_25.Group).bind fun x_32 =>
        (wirelessref51_Wants F x_27.1 x_25.Group).bind fun x_33 =>
        if (x_32 != x_33) = true then
          wirelesslaw51_FriendServes_j3 F x_14 x_25 x_27 true
        else
          (friend_Over F x_27.1 x_25.Now).bind fun x_35 =>
          (wirelessref51_Over F x_27.1 x_25.Now).bind fun x_36 =>
          wirelesslaw51_FriendServes_j3 F x_14 x_25 x_27 (x_35 != x_36)
  else
    some (.done (.inl ()))

def wirelesslaw51_FriendServes (F : Nat) (l_1 : (List T_wirelesslaw51_Op)) : Option (Bool) :=
  if (decide ((len l_1) > 200)) = true then
    (wirelesslaw51_lives F).bind fun x_2 =>
    some x_2
  else
    (iter (fun s => wirelesslaw51_FriendServes_l1 F l_1 s.1 s.2.1 s.2.2) F ((T_api_Friend.mk 0 [] [] 0 false 0 0 0), 0, 0)).bind fun o =>
    match o with
    | .inl u => wirelesslaw51_FriendServes_j1 F
    | .inr u => some u

end V
end Go.Proofs.Ytphigebccfoppaa
