/-
  Pure twins of the Go functions, written by program.
-/
import Derived.Test.YtpcckohcoajenaaPure
namespace Go.Proofs.Ytpcckohcoajenaa
namespace V
structure T_api_Frame where
  CID : Int
  Payload : (List Int)

structure T_api_Field where
  Size : Int
  Value : Int

structure T_api_Packet where
  LLID : Int
  Payload : (List Int)

structure T_api_Assembler where
  On : Bool
  Buffer : (List Int)

def octets_sized (F : Nat) (n_1 : Int) : Option (Bool) :=
  some ((decide (n_1 ≥ 1)) && (decide (n_1 ≤ 8)))

def octets_Put_j1 (F : Nat) (l_2 : (List Int)) : Option ((List Int) × Int) :=
  some (l_2, 0)

def octets_Put_j2 (F : Nat) (x_4 : Int) (l_5 : (List Int)) : Option (Out ((List Int) × Int) (Sum ((List Int)) ((List Int) × Int))) :=
  some (.next (l_5, w64 (x_4 + 1)))

def octets_Put_l2 (F : Nat) (x_6 : T_api_Field) (l_10 : (List Int)) (x_11 : Int) : Option (Out ((List Int) × Int) ((List Int))) :=
  if (decide (x_11 < x_6.Size)) = true then
    (ishr .u64 x_6.Value (w64 (8 * x_11))).bind fun x_12 =>
    (app 1 l_10 [wu8 x_12]).bind fun l_13 =>
    some (.next (l_13, w64 (x_11 + 1)))
  else
    some (.done (l_10))

def octets_Put_l1 (F : Nat) (fields_1 : (List T_api_Field)) (l_3 : (List Int)) (x_4 : Int) : Option (Out ((List Int) × Int) (Sum ((List Int)) ((List Int) × Int))) :=
  if (decide (x_4 < (len fields_1))) = true then
    (idx fields_1 x_4).bind fun x_6 =>
    (octets_sized F x_6.Size).bind fun x_7 =>
    (if (!x_7) = true then
      some (true)
    else
      if (decide (x_6.Size < 8)) = true then
        (ishr .u64 x_6.Value (w64 (8 * x_6.Size))).bind fun x_16 =>
        some ((x_16 != 0))
      else
        some (false)).bind fun z_9 =>
    if z_9 = true then
      some (.done (.inr ([], 5)))
    else
      (iter (fun s => octets_Put_l2 F x_6 s.1 s.2) F (l_3, 0)).bind fun o =>
      octets_Put_j2 F x_4 o
  else
    some (.done (.inl (l_3)))

def octets_Put (F : Nat) (fields_1 : (List T_api_Field)) : Option ((List Int) × Int) :=
  (iter (fun s => octets_Put_l1 F fields_1 s.1 s.2) F ([], 0)).bind fun o =>
  match o with
  | .inl u => octets_Put_j1 F u
  | .inr u => some u

def octets_Join_j1 (F : Nat) (l_2 : (List Int)) : Option ((List Int)) :=
  some l_2

def octets_Join_l1 (F : Nat) (parts_1 : (List (List Int))) (l_3 : (List Int)) (x_4 : Int) : Option (Out ((List Int) × Int) ((List Int))) :=
  if (decide (x_4 < (len parts_1))) = true then
    (idx parts_1 x_4).bind fun x_5 =>
    (app 1 l_3 x_5).bind fun l_6 =>
    some (.next (l_6, w64 (x_4 + 1)))
  else
    some (.done (l_3))

def octets_Join (F : Nat) (parts_1 : (List (List Int))) : Option ((List Int)) :=
  (iter (fun s => octets_Join_l1 F parts_1 s.1 s.2) F ([], 0)).bind fun o =>
  octets_Join_j1 F o

def fragment_Encode (F : Nat) (f_1 : T_api_Frame) : Option ((List Int) × Int) :=
  if (f_1.CID == 0) = true then
    some ([], 1)
  else
    if (decide ((len f_1.Payload) > 65531)) = true then
      some ([], 4)
    else
      (octets_Put F [(T_api_Field.mk 2 (wu64 (len f_1.Payload))), (T_api_Field.mk 2 (wu64 f_1.CID))]).bind fun x_2 =>
      if (x_2.2 != 0) = true then
        some ([], x_2.2)
      else
        (octets_Join F [x_2.1, f_1.Payload]).bind fun x_3 =>
        some (x_3, 0)

def fragment_Split_bj13 (F : Nat) (l_6 : (List T_api_Packet)) (x_11 : (List Int)) (x_12 : Int) : Option (List T_api_Packet) :=
  (app 32 l_6 [(T_api_Packet.mk x_12 x_11)]).bind fun l_13 =>
  some l_13

def fragment_Split_b (F : Nat) (l_6 : (List T_api_Packet)) (x_8 : Int) (l_9 : (List Int)) : Option (List T_api_Packet) :=
  (octets_Join F [l_9]).bind fun x_11 =>
  if (x_8 == 0) = true then
    fragment_Split_bj13 F l_6 x_11 2
  else
    fragment_Split_bj13 F l_6 x_11 1

def fragment_Split_it_l1 (F : Nat) (most_2 : Int) (l_6 : (List T_api_Packet)) (l_7 : (List Int)) (x_8 : Int) : Option (Out ((List T_api_Packet) × (List Int) × Int) (List T_api_Packet)) :=
  if (decide ((len l_7) > 0)) = true then
    (sub l_7 0 (imin most_2 (len l_7))).bind fun l_9 =>
    (fragment_Split_b F l_6 x_8 l_9).bind fun o_10 =>
    (sub l_7 (imin most_2 (len l_7)) (len l_7)).bind fun l_14 =>
    some (.next (o_10, l_14, w64 (x_8 + 1)))
  else
    some (.done (l_6))

def fragment_Split_it (F : Nat) (most_2 : Int) (x_3 : (List Int) × Int) : Option (List T_api_Packet) :=
  (iter (fun s => fragment_Split_it_l1 F most_2 s.1 s.2.1 s.2.2) F (([] : List T_api_Packet), x_3.1, 0)).bind fun o =>
  some o

def fragment_Split (F : Nat) (f_1 : T_api_Frame) (most_2 : Int) : Option ((List T_api_Packet) × Int) :=
  (fragment_Encode F f_1).bind fun x_3 =>
  if (x_3.2 != 0) = true then
    some ([], x_3.2)
  else
    if ((decide (most_2 < 1)) || (decide (most_2 > 251))) = true then
      some ([], 5)
    else
      (fragment_Split_it F most_2 x_3).bind fun o_4 =>
      some (o_4, 0)

def fragment_copied_j1 (F : Nat) (a_1 : T_api_Assembler) (l_2 : (List Int)) : Option (T_api_Assembler) :=
  some ({ a_1 with Buffer := l_2 })

def fragment_copied (F : Nat) (a_1 : T_api_Assembler) : Option (T_api_Assembler) :=
  (octets_Join F [a_1.Buffer]).bind fun x_5 =>
  fragment_copied_j1 F a_1 x_5

def fragment_header_j1 (F : Nat) (x_2 : Int) (x_3 : Int) : Option (Int × Int) :=
  some (x_2, x_3)

def fragment_header (F : Nat) (b_1 : (List Int)) : Option (Int × Int) :=
  (idx b_1 0).bind fun x_4 =>
  (idx b_1 1).bind fun x_5 =>
  (idx b_1 2).bind fun x_6 =>
  (idx b_1 3).bind fun x_7 =>
  (ishl .i64 (w64 x_5) 8).bind fun x_10 =>
  (ishl .u16 (wu16 x_7) 8).bind fun x_11 =>
  fragment_header_j1 F (ior .i64 (w64 x_4) x_10) (ior .u16 (wu16 x_6) x_11)

def fragment_filled_j2 (F : Nat) (x_5 : Int) : Option (T_api_Assembler × (List T_api_Frame) × Int) :=
  some ((T_api_Assembler.mk false []), [], x_5)

def fragment_filled_j1 (F : Nat) (e_2 : Int) (x_4 : Int) : Option (T_api_Assembler × (List T_api_Frame) × Int) :=
  if (e_2 == 0) = true then
    fragment_filled_j2 F x_4
  else
    fragment_filled_j2 F e_2

def fragment_filled (F : Nat) (b_1 : (List Int)) (e_2 : Int) : Option (T_api_Assembler × (List T_api_Frame) × Int) :=
  if (decide ((len b_1) < 4)) = true then
    some ((T_api_Assembler.mk true b_1), [], e_2)
  else
    (fragment_header F b_1).bind fun x_3 =>
    if (x_3.2 == 0) = true then
      fragment_filled_j1 F e_2 1
    else
      if ((decide (x_3.1 > 65531)) || (decide ((w64 ((len b_1) - 4)) > x_3.1))) = true then
        fragment_filled_j1 F e_2 4
      else
        if (decide ((w64 ((len b_1) - 4)) < x_3.1)) = true then
          some ((T_api_Assembler.mk true b_1), [], e_2)
        else
          (sub b_1 4 (len b_1)).bind fun l_6 =>
          (octets_Join F [l_6]).bind fun x_7 =>
          some ((T_api_Assembler.mk false []), [(T_api_Frame.mk x_3.2 x_7)], e_2)

def fragment_Feed_j1 (F : Nat) (x_5 : Int) (l_6 : (List Int)) : Option (T_api_Assembler × (List T_api_Frame) × Int) :=
  (fragment_filled F l_6 x_5).bind fun x_7 =>
  some (x_7.1, x_7.2.1, x_7.2.2)

def fragment_Feed_j2 (F : Nat) (p_2 : T_api_Packet) (x_8 : Int) : Option (T_api_Assembler × (List T_api_Frame) × Int) :=
  (octets_Join F [p_2.Payload]).bind fun x_9 =>
  fragment_Feed_j1 F x_8 x_9

def fragment_Feed (F : Nat) (a_1 : T_api_Assembler) (p_2 : T_api_Packet) : Option (T_api_Assembler × (List T_api_Frame) × Int) :=
  if ((p_2.LLID == 1) && ((len p_2.Payload) == 0)) = true then
    (fragment_copied F a_1).bind fun x_3 =>
    some (x_3, [], 0)
  else
    if (((p_2.LLID != 1) && (p_2.LLID != 2)) || ((len p_2.Payload) == 0)) = true then
      (fragment_copied F a_1).bind fun x_4 =>
      some (x_4, [], 12)
    else
      if (p_2.LLID == 2) = true then
        if (!((!a_1.On) && ((len a_1.Buffer) == 0))) = true then
          fragment_Feed_j2 F p_2 13
        else
          fragment_Feed_j2 F p_2 0
      else
        if ((!a_1.On) && ((len a_1.Buffer) == 0)) = true then
          some ((T_api_Assembler.mk false []), [], 13)
        else
          (octets_Join F [a_1.Buffer, p_2.Payload]).bind fun x_10 =>
          fragment_Feed_j1 F 0 x_10

def fragment_Decode (F : Nat) (b_1 : (List Int)) : Option (T_api_Frame × Int) :=
  if (decide ((len b_1) < 4)) = true then
    some ((T_api_Frame.mk 0 []), 3)
  else
    (fragment_header F b_1).bind fun x_2 =>
    if (x_2.2 == 0) = true then
      some ((T_api_Frame.mk 0 []), 1)
    else
      if (decide (x_2.1 > 65531)) = true then
        some ((T_api_Frame.mk 0 []), 4)
      else
        if (decide ((w64 ((len b_1) - 4)) < x_2.1)) = true then
          some ((T_api_Frame.mk 0 []), 3)
        else
          if (decide ((w64 ((len b_1) - 4)) > x_2.1)) = true then
            some ((T_api_Frame.mk 0 []), 2)
          else
            (sub b_1 4 (len b_1)).bind fun l_3 =>
            (octets_Join F [l_3]).bind fun x_4 =>
            some ((T_api_Frame.mk x_2.2 x_4), 0)

def wirelessref23_Same (F : Nat) (a_1 : (List Int)) (b_2 : (List Int)) : Option (Bool) :=
  some ((str a_1) == (str b_2))

def wirelessref23_SamePacket (F : Nat) (a_1 : T_api_Packet) (b_2 : T_api_Packet) : Option (Bool) :=
  (if (a_1.LLID == b_2.LLID) = true then
    (wirelessref23_Same F a_1.Payload b_2.Payload).bind fun x_6 =>
    some (x_6)
  else
    some (false)).bind fun z_4 =>
  some z_4

def wirelessref23_SamePackets_j1 (F : Nat) : Option (Bool) :=
  some true

def wirelessref23_SamePackets_j2 (F : Nat) (x_3 : Int) (z_4 : Bool) : Option (Out (Int) (Sum (Unit) (Bool))) :=
  if z_4 = true then
    some (.done (.inr false))
  else
    some (.next (w64 (x_3 + 1)))

def wirelessref23_SamePackets_l1 (F : Nat) (a_1 : (List T_api_Packet)) (b_2 : (List T_api_Packet)) (x_3 : Int) : Option (Out (Int) (Sum (Unit) (Bool))) :=
  if (decide (x_3 < (len a_1))) = true then
    (idx a_1 x_3).bind fun x_5 =>
    (idx b_2 x_3).bind fun x_6 =>
    (wirelessref23_SamePacket F x_5 x_6).bind fun x_9 =>
    wirelessref23_SamePackets_j2 F x_3 (!x_9)
  else
    some (.done (.inl ()))

def wirelessref23_SamePackets (F : Nat) (a_1 : (List T_api_Packet)) (b_2 : (List T_api_Packet)) : Option (Bool) :=
  if ((len a_1) != (len b_2)) = true then
    some false
  else
    (iter (fun s => wirelessref23_SamePackets_l1 F a_1 b_2 s) F (0)).bind fun o =>
    match o with
    | .inl u => wirelessref23_SamePackets_j1 F
    | .inr u => some u

def wirelesslaw32_exampleHolds (F : Nat) : Option (Bool) :=
  (fragment_Encode F (T_api_Frame.mk 4 [7, 8])).bind fun x_1 =>
  (fragment_Split F (T_api_Frame.mk 4 [7, 8]) 4).bind fun x_2 =>
  (fragment_Feed F (T_api_Assembler.mk false []) (T_api_Packet.mk 1 [1])).bind fun x_3 =>
  (fragment_Feed F (T_api_Assembler.mk false []) (T_api_Packet.mk 2 [1, 0, 4, 0, 7, 8])).bind fun x_4 =>
  (fragment_Decode F [0, 0, 4, 0]).bind fun x_5 =>
  (if (x_1.2 == 0) = true then
    (wirelessref23_Same F x_1.1 [2, 0, 4, 0, 7, 8]).bind fun x_13 =>
    some (x_13)
  else
    some (false)).bind fun z_7 =>
  (if (z_7 && (x_2.2 == 0)) = true then
    (wirelessref23_SamePackets F x_2.1 [(T_api_Packet.mk 2 [2, 0, 4, 0]), (T_api_Packet.mk 1 [7, 8])]).bind fun x_11 =>
    some (x_11)
  else
    some (false)).bind fun z_9 =>
  some (((((z_9 && (x_3.2.2 == 13)) && (x_4.2.2 == 4)) && (x_5.2 == 0)) && (x_5.1.CID == 4)) && ((len x_5.1.Payload) == 0))

def wirelessref23_Put_j1 (F : Nat) (l_3 : (List Int)) : Option ((List Int)) :=
  some l_3

def wirelessref23_Put_l1 (F : Nat) (size_2 : Int) (x_4 : Int) (l_5 : (List Int)) (x_6 : Int) : Option (Out (Int × (List Int) × Int) ((List Int))) :=
  if (decide (x_6 < size_2)) = true then
    (irem x_4 256).bind fun x_7 =>
    (app 1 l_5 [wu8 x_7]).bind fun l_8 =>
    (iquo .u64 x_4 256).bind fun x_9 =>
    some (.next (x_9, l_8, w64 (x_6 + 1)))
  else
    some (.done (l_5))

def wirelessref23_Put (F : Nat) (n_1 : Int) (size_2 : Int) : Option ((List Int)) :=
  (iter (fun s => wirelessref23_Put_l1 F size_2 s.1 s.2.1 s.2.2) F (n_1, [], 0)).bind fun o =>
  wirelessref23_Put_j1 F o

def wirelessref32_Encode_j1 (F : Nat) (f_1 : T_api_Frame) (l_2 : (List Int)) : Option ((List Int) × Int) :=
  (app 1 l_2 f_1.Payload).bind fun l_3 =>
  some (l_3, 0)

def wirelessref32_Encode (F : Nat) (f_1 : T_api_Frame) : Option ((List Int) × Int) :=
  if (f_1.CID == 0) = true then
    some ([], 1)
  else
    if (decide ((len f_1.Payload) > 65531)) = true then
      some ([], 4)
    else
      (wirelessref23_Put F (wu64 (len f_1.Payload)) 2).bind fun x_6 =>
      (wirelessref23_Put F (wu64 f_1.CID) 2).bind fun x_7 =>
      (app 1 x_6 x_7).bind fun l_8 =>
      wirelessref32_Encode_j1 F f_1 l_8

def wirelesslaw32_FragmentEncodes (F : Nat) (f_1 : T_api_Frame) : Option (Bool) :=
  if (decide ((len f_1.Payload) > 131072)) = true then
    (wirelesslaw32_exampleHolds F).bind fun x_2 =>
    some x_2
  else
    (fragment_Encode F f_1).bind fun x_3 =>
    (wirelessref32_Encode F f_1).bind fun x_4 =>
    (if (x_3.2 == x_4.2) = true then
      (wirelessref23_Same F x_3.1 x_4.1).bind fun x_12 =>
      some (x_12)
    else
      some (false)).bind fun z_6 =>
    (if z_6 = true then
      (wirelesslaw32_exampleHolds F).bind fun x_10 =>
      some (x_10)
    else
      some (false)).bind fun z_8 =>
    some z_8

def wirelessref23_Num_j1 (F : Nat) (x_4 : Int) : Option (Int) :=
  some x_4

def wirelessref23_Num_l1 (F : Nat) (b_1 : (List Int)) (at_2 : Int) (x_5 : Int) (x_6 : Int) : Option (Out (Int × Int) (Int)) :=
  if (decide (x_6 ≥ 0)) = true then
    (idx b_1 (w64 (at_2 + x_6))).bind fun x_7 =>
    some (.next (wu64 ((wu64 (x_5 * 256)) + (wu64 x_7)), w64 (x_6 - 1)))
  else
    some (.done (x_5))

def wirelessref23_Num (F : Nat) (b_1 : (List Int)) (at_2 : Int) (size_3 : Int) : Option (Int) :=
  (iter (fun s => wirelessref23_Num_l1 F b_1 at_2 s.1 s.2) F (0, w64 (size_3 - 1))).bind fun o =>
  wirelessref23_Num_j1 F o

def wirelessref32_head (F : Nat) (b_1 : (List Int)) : Option (Int × Int) :=
  (wirelessref23_Num F b_1 0 2).bind fun x_2 =>
  (wirelessref23_Num F b_1 2 2).bind fun x_3 =>
  some (w64 x_2, wu16 x_3)

def wirelessref32_Decode (F : Nat) (b_1 : (List Int)) : Option (T_api_Frame × Int) :=
  if (decide ((len b_1) < 4)) = true then
    some ((T_api_Frame.mk 0 []), 3)
  else
    (wirelessref32_head F b_1).bind fun x_2 =>
    if (x_2.2 == 0) = true then
      some ((T_api_Frame.mk 0 []), 1)
    else
      if (decide (x_2.1 > 65531)) = true then
        some ((T_api_Frame.mk 0 []), 4)
      else
        if (decide ((w64 ((len b_1) - 4)) < x_2.1)) = true then
          some ((T_api_Frame.mk 0 []), 3)
        else
          if (decide ((w64 ((len b_1) - 4)) > x_2.1)) = true then
            some ((T_api_Frame.mk 0 []), 2)
          else
            (sub b_1 4 (len b_1)).bind fun l_3 =>
            (app 1 ([] : (List Int)) l_3).bind fun l_4 =>
            some ((T_api_Frame.mk x_2.2 l_4), 0)

def wirelesslaw32_FragmentDecodes (F : Nat) (b_1 : (List Int)) : Option (Bool) :=
  if (decide ((len b_1) > 131072)) = true then
    (wirelesslaw32_exampleHolds F).bind fun x_2 =>
    some x_2
  else
    (fragment_Decode F b_1).bind fun x_3 =>
    (wirelessref32_Decode F b_1).bind fun x_4 =>
    (if ((x_3.2 == x_4.2) && (x_3.1.CID == x_4.1.CID)) = true then
      (wirelessref23_Same F x_3.1.Payload x_4.1.Payload).bind fun x_12 =>
      some (x_12)
    else
      some (false)).bind fun z_6 =>
    (if z_6 = true then
      (wirelesslaw32_exampleHolds F).bind fun x_10 =>
      some (x_10)
    else
      some (false)).bind fun z_8 =>
    some z_8

def wirelessref32_Split_j1 (F : Nat) (l_4 : (List T_api_Packet)) : Option ((List T_api_Packet) × Int) :=
  some (l_4, 0)

def wirelessref32_Split_j2 (F : Nat) (size_2 : Int) (l_5 : (List T_api_Packet)) (x_6 : Int) (l_8 : (List Int)) (x_9 : Int) : Option (Out ((List T_api_Packet) × Int) ((List T_api_Packet))) :=
  (app 32 l_5 [(T_api_Packet.mk x_9 l_8)]).bind fun l_10 =>
  some (.next (l_10, w64 (x_6 + size_2)))

def wirelessref32_Split_l1 (F : Nat) (size_2 : Int) (x_3 : (List Int) × Int) (l_5 : (List T_api_Packet)) (x_6 : Int) : Option (Out ((List T_api_Packet) × Int) ((List T_api_Packet))) :=
  if (decide (x_6 < (len x_3.1))) = true then
    (sub x_3.1 x_6 (imin (w64 (x_6 + size_2)) (len x_3.1))).bind fun l_7 =>
    (app 1 ([] : (List Int)) l_7).bind fun l_8 =>
    if (x_6 == 0) = true then
      wirelessref32_Split_j2 F size_2 l_5 x_6 l_8 2
    else
      wirelessref32_Split_j2 F size_2 l_5 x_6 l_8 1
  else
    some (.done (l_5))

def wirelessref32_Split (F : Nat) (f_1 : T_api_Frame) (size_2 : Int) : Option ((List T_api_Packet) × Int) :=
  (wirelessref32_Encode F f_1).bind fun x_3 =>
  if (x_3.2 != 0) = true then
    some ([], x_3.2)
  else
    if ((decide (size_2 < 1)) || (decide (size_2 > 251))) = true then
      some ([], 5)
    else
      (iter (fun s => wirelessref32_Split_l1 F size_2 x_3 s.1 s.2) F ([], 0)).bind fun o =>
      wirelessref32_Split_j1 F o

def wirelesslaw32_FragmentSplits (F : Nat) (f_1 : T_api_Frame) (most_2 : Int) : Option (Bool) :=
  if (decide ((len f_1.Payload) > 131072)) = true then
    (wirelesslaw32_exampleHolds F).bind fun x_3 =>
    some x_3
  else
    (fragment_Split F f_1 most_2).bind fun x_4 =>
    (wirelessref32_Split F f_1 most_2).bind fun x_5 =>
    (if (x_4.2 == x_5.2) = true then
      (wirelessref23_SamePackets F x_4.1 x_5.1).bind fun x_13 =>
      some (x_13)
    else
      some (false)).bind fun z_7 =>
    (if z_7 = true then
      (wirelesslaw32_exampleHolds F).bind fun x_11 =>
      some (x_11)
    else
      some (false)).bind fun z_9 =>
    some z_9

def wirelesslaw32_light_j1 (F : Nat) (l_1 : (List T_api_Packet)) (x_2 : Int) : Option (Bool) :=
  some ((decide ((len l_1) ≤ 200)) && (decide (x_2 ≤ 131072)))

def wirelesslaw32_light_l1 (F : Nat) (l_1 : (List T_api_Packet)) (x_3 : Int) (x_4 : Int) : Option (Out (Int × Int) (Sum (Int) (Bool))) :=
  if ((decide (x_4 < (len l_1))) && (decide (x_4 < 200))) = true then
    (idx l_1 x_4).bind fun x_5 =>
    if (decide ((len x_5.Payload) > 131072)) = true then
      some (.done (.inr false))
    else
      (idx l_1 x_4).bind fun x_6 =>
      some (.next (w64 (x_3 + (len x_6.Payload)), w64 (x_4 + 1)))
  else
    some (.done (.inl (x_3)))

def wirelesslaw32_light (F : Nat) (l_1 : (List T_api_Packet)) : Option (Bool) :=
  (iter (fun s => wirelesslaw32_light_l1 F l_1 s.1 s.2) F (0, 0)).bind fun o =>
  match o with
  | .inl u => wirelesslaw32_light_j1 F l_1 u
  | .inr u => some u

def wirelessref32_Valid (F : Nat) (a_1 : T_api_Assembler) : Option (Bool) :=
  if (!a_1.On) = true then
    some ((len a_1.Buffer) == 0)
  else
    if (decide ((len a_1.Buffer) < 4)) = true then
      some (decide ((len a_1.Buffer) > 0))
    else
      (wirelessref32_head F a_1.Buffer).bind fun x_2 =>
      some (((x_2.2 != 0) && (decide (x_2.1 ≤ 65531))) && (decide ((w64 ((len a_1.Buffer) - 4)) < x_2.1)))

def wirelessref23_Blank (F : Nat) (p_1 : T_api_Packet) : Option (Bool) :=
  some ((p_1.LLID == 1) && ((len p_1.Payload) == 0))

def wirelessref32_taken_j2 (F : Nat) (x_5 : Int) : Option (T_api_Assembler × (List T_api_Frame) × Int) :=
  some ((T_api_Assembler.mk false []), [], x_5)

def wirelessref32_taken_j3 (F : Nat) (err_2 : Int) (l_6 : (List T_api_Frame)) : Option (T_api_Assembler × (List T_api_Frame) × Int) :=
  some ((T_api_Assembler.mk false []), l_6, err_2)

def wirelessref32_taken_j1 (F : Nat) (b_1 : (List Int)) (err_2 : Int) (x_3 : Int × Int) (x_4 : Int) : Option (T_api_Assembler × (List T_api_Frame) × Int) :=
  if (x_4 != 0) = true then
    if (err_2 != 0) = true then
      wirelessref32_taken_j2 F err_2
    else
      wirelessref32_taken_j2 F x_4
  else
    if (decide ((w64 ((len b_1) - 4)) < x_3.1)) = true then
      some ((T_api_Assembler.mk true b_1), [], err_2)
    else
      (sub b_1 4 (len b_1)).bind fun l_9 =>
      wirelessref32_taken_j3 F err_2 [(T_api_Frame.mk x_3.2 l_9)]

def wirelessref32_taken (F : Nat) (b_1 : (List Int)) (err_2 : Int) : Option (T_api_Assembler × (List T_api_Frame) × Int) :=
  if (decide ((len b_1) < 4)) = true then
    some ((T_api_Assembler.mk true b_1), [], err_2)
  else
    (wirelessref32_head F b_1).bind fun x_3 =>
    if (x_3.2 == 0) = true then
      wirelessref32_taken_j1 F b_1 err_2 x_3 1
    else
      if ((decide (x_3.1 > 65531)) || (decide ((w64 ((len b_1) - 4)) > x_3.1))) = true then
        wirelessref32_taken_j1 F b_1 err_2 x_3 4
      else
        wirelessref32_taken_j1 F b_1 err_2 x_3 0

def wirelessref32_Feed_j1 (F : Nat) (x_4 : Int) (l_5 : (List Int)) : Option (T_api_Assembler × (List T_api_Frame) × Int) :=
  (wirelessref32_taken F l_5 x_4).bind fun x_6 =>
  some (x_6.1, x_6.2.1, x_6.2.2)

def wirelessref32_Feed_j2 (F : Nat) (p_2 : T_api_Packet) (x_7 : Int) : Option (T_api_Assembler × (List T_api_Frame) × Int) :=
  (app 1 ([] : (List Int)) p_2.Payload).bind fun l_8 =>
  wirelessref32_Feed_j1 F x_7 l_8

def wirelessref32_Feed (F : Nat) (a_1 : T_api_Assembler) (p_2 : T_api_Packet) : Option (T_api_Assembler × (List T_api_Frame) × Int) :=
  (wirelessref23_Blank F p_2).bind fun x_3 =>
  if x_3 = true then
    some (a_1, [], 0)
  else
    if (((p_2.LLID != 2) && (p_2.LLID != 1)) || ((len p_2.Payload) == 0)) = true then
      some (a_1, [], 12)
    else
      if (p_2.LLID == 2) = true then
        if a_1.On = true then
          wirelessref32_Feed_j2 F p_2 13
        else
          wirelessref32_Feed_j2 F p_2 0
      else
        if (!a_1.On) = true then
          some ((T_api_Assembler.mk false []), [], 13)
        else
          (app 1 ([] : (List Int)) a_1.Buffer).bind fun l_11 =>
          (app 1 l_11 p_2.Payload).bind fun l_12 =>
          wirelessref32_Feed_j1 F 0 l_12

def wirelessref32_SameAssembler (F : Nat) (a_1 : T_api_Assembler) (b_2 : T_api_Assembler) : Option (Bool) :=
  (if (a_1.On == b_2.On) = true then
    (wirelessref23_Same F a_1.Buffer b_2.Buffer).bind fun x_6 =>
    some (x_6)
  else
    some (false)).bind fun z_4 =>
  some z_4

def wirelessref32_SameFrames_j1 (F : Nat) : Option (Bool) :=
  some true

def wirelessref32_SameFrames_j2 (F : Nat) (x_3 : Int) (z_4 : Bool) : Option (Out (Int) (Sum (Unit) (Bool))) :=
  if z_4 = true then
    some (.done (.inr false))
  else
    some (.next (w64 (x_3 + 1)))

def wirelessref32_SameFrames_l1 (F : Nat) (a_1 : (List T_api_Frame)) (b_2 : (List T_api_Frame)) (x_3 : Int) : Option (Out (Int) (Sum (Unit) (Bool))) :=
  if (decide (x_3 < (len a_1))) = true then
    (idx a_1 x_3).bind fun x_5 =>
    (idx b_2 x_3).bind fun x_6 =>
    if (x_5.CID != x_6.CID) = true then
      wirelessref32_SameFrames_j2 F x_3 true
    else
      (idx a_1 x_3).bind fun x_10 =>
      (idx b_2 x_3).bind fun x_11 =>
      (wirelessref23_Same F x_10.Payload x_11.Payload).bind fun x_12 =>
      wirelessref32_SameFrames_j2 F x_3 (!x_12)
  else
    some (.done (.inl ()))

def wirelessref32_SameFrames (F : Nat) (a_1 : (List T_api_Frame)) (b_2 : (List T_api_Frame)) : Option (Bool) :=
  if ((len a_1) != (len b_2)) = true then
    some false
  else
    (iter (fun s => wirelessref32_SameFrames_l1 F a_1 b_2 s) F (0)).bind fun o =>
    match o with
    | .inl u => wirelessref32_SameFrames_j1 F
    | .inr u => some u

def wirelesslaw32_FragmentFeeds_j1 (F : Nat) : Option (Bool) :=
  (wirelesslaw32_exampleHolds F).bind fun x_7 =>
  some x_7

def wirelesslaw32_FragmentFeeds_j3 (F : Nat) (x_14 : Int) (c_17 : T_api_Assembler) (l_18 : (List T_api_Frame)) (x_19 : Int) (c_22 : T_api_Assembler) (l_23 : (List T_api_Frame)) (x_24 : Int) : Option (Out (T_api_Assembler × T_api_Assembler × Int) (Sum (Unit) (Bool))) :=
  (wirelessref32_SameAssembler F c_17 c_22).bind fun x_25 =>
  (if (!x_25) = true then
    some (true)
  else
    (wirelessref32_SameFrames F l_18 l_23).bind fun x_31 =>
    some ((!x_31))).bind fun z_27 =>
  if (z_27 || (x_19 != x_24)) = true then
    some (.done (.inr false))
  else
    some (.next (c_17, c_22, w64 (x_14 + 1)))

def wirelesslaw32_FragmentFeeds_j2 (F : Nat) (l_2 : (List T_api_Packet)) (c_13 : T_api_Assembler) (x_14 : Int) (c_17 : T_api_Assembler) (l_18 : (List T_api_Frame)) (x_19 : Int) : Option (Out (T_api_Assembler × T_api_Assembler × Int) (Sum (Unit) (Bool))) :=
  (idx l_2 x_14).bind fun x_32 =>
  (wirelessref32_Feed F c_13 x_32).bind fun x_35 =>
  wirelesslaw32_FragmentFeeds_j3 F x_14 c_17 l_18 x_19 x_35.1 x_35.2.1 x_35.2.2

def wirelesslaw32_FragmentFeeds_l1 (F : Nat) (l_2 : (List T_api_Packet)) (c_10 : T_api_Assembler) (c_13 : T_api_Assembler) (x_14 : Int) : Option (Out (T_api_Assembler × T_api_Assembler × Int) (Sum (Unit) (Bool))) :=
  if (decide (x_14 < (len l_2))) = true then
    (idx l_2 x_14).bind fun x_37 =>
    (fragment_Feed F c_10 x_37).bind fun x_40 =>
    wirelesslaw32_FragmentFeeds_j2 F l_2 c_13 x_14 x_40.1 x_40.2.1 x_40.2.2
  else
    some (.done (.inl ()))

def wirelesslaw32_FragmentFeeds (F : Nat) (a_1 : T_api_Assembler) (l_2 : (List T_api_Packet)) : Option (Bool) :=
  (wirelesslaw32_light F l_2).bind fun x_3 =>
  (if (!x_3) = true then
    some (true)
  else
    (wirelessref32_Valid F a_1).bind fun x_43 =>
    some ((!x_43))).bind fun z_5 =>
  if z_5 = true then
    (wirelesslaw32_exampleHolds F).bind fun x_6 =>
    some x_6
  else
    (iter (fun s => wirelesslaw32_FragmentFeeds_l1 F l_2 s.1 s.2.1 s.2.2) F (a_1, a_1, 0)).bind fun o =>
    match o with
    | .inl u => wirelesslaw32_FragmentFeeds_j1 F
    | .inr u => some u

def wirelesslaw32_FragmentWhole_j1 (F : Nat) : Option (Bool) :=
  (wirelesslaw32_exampleHolds F).bind fun x_5 =>
  some x_5

def wirelesslaw32_FragmentWhole_j2 (F : Nat) (x_11 : Int) (x_12 : Int) (x_13 : Int) (c_16 : T_api_Assembler) : Option (Out (Int × Int × T_api_Assembler × Int) (Sum (Unit) (Bool))) :=
  some (.next (x_12, x_13, c_16, w64 (x_11 + 1)))

def wirelesslaw32_FragmentWhole_j3 (F : Nat) (frames_1 : (List T_api_Frame)) (x_6 : Int) (x_11 : Int) (x_17 : T_api_Frame) (x_23 : Int) (c_26 : T_api_Assembler) (l_27 : (List T_api_Frame)) : Option (Out (Int × Int × T_api_Assembler × Int) (Sum (Unit) (Bool))) :=
  (sub frames_1 x_11 (w64 (x_11 + 1))).bind fun l_28 =>
  (wirelessref32_SameFrames F l_27 l_28).bind fun x_29 =>
  if (((!x_29) || c_26.On) || ((len c_26.Buffer) != 0)) = true then
    some (.done (.inr false))
  else
    wirelesslaw32_FragmentWhole_j2 F x_11 (w64 (x_6 + (len x_17.Payload))) x_23 c_26

def wirelesslaw32_FragmentWhole_j4 (F : Nat) (x_35 : Int) (x_36 : Int) (c_39 : T_api_Assembler) (l_40 : (List T_api_Frame)) : Option (Out (Int × T_api_Assembler × (List T_api_Frame) × Int) (Sum (Int × T_api_Assembler × (List T_api_Frame)) (Bool))) :=
  some (.next (x_36, c_39, l_40, w64 (x_35 + 1)))

def wirelesslaw32_FragmentWhole_j6 (F : Nat) (x_35 : Int) (c_43 : T_api_Assembler) (l_50 : (List T_api_Frame)) (x_51 : Int) : Option (Out (Int × T_api_Assembler × (List T_api_Frame) × Int) (Sum (Int × T_api_Assembler × (List T_api_Frame)) (Bool))) :=
  wirelesslaw32_FragmentWhole_j4 F x_35 (w64 (x_51 + 1)) c_43 l_50

def wirelesslaw32_FragmentWhole_l3 (F : Nat) (gaps_3 : (List Int)) (c_43 : T_api_Assembler) (x_52 : Int) : Option (Out (Int) (Sum (Int) (Bool))) :=
  (if (decide (x_52 < (len gaps_3))) = true then
    (idx gaps_3 x_52).bind fun x_61 =>
    (irem x_61 3).bind fun x_62 =>
    some ((x_62 == 0))
  else
    some (false)).bind fun z_54 =>
  if z_54 = true then
    (fragment_Feed F c_43 (T_api_Packet.mk 1 [])).bind fun x_55 =>
    (if ((x_55.2.2 != 0) || ((len x_55.2.1) != 0)) = true then
      some (true)
    else
      (wirelessref32_SameAssembler F c_43 x_55.1).bind fun x_59 =>
      some ((!x_59))).bind fun z_57 =>
    if z_57 = true then
      some (.done (.inr false))
    else
      some (.next (w64 (x_52 + 1)))
  else
    some (.done (.inl (x_52)))

def wirelesslaw32_FragmentWhole_j5 (F : Nat) (most_2 : Int) (gaps_3 : (List Int)) (x_22 : (List T_api_Packet) × Int) (x_30 : Int) (l_34 : (List T_api_Frame)) (x_35 : Int) (c_43 : T_api_Assembler) (l_44 : (List T_api_Frame)) (x_45 : Int) : Option (Out (Int × T_api_Assembler × (List T_api_Frame) × Int) (Sum (Int × T_api_Assembler × (List T_api_Frame)) (Bool))) :=
  (if (x_45 != 0) = true then
    some (true)
  else
    (idx x_22.1 x_35).bind fun x_66 =>
    some (decide ((len x_66.Payload) < 1))).bind fun z_47 =>
  (if z_47 = true then
    some (true)
  else
    (idx x_22.1 x_35).bind fun x_64 =>
    some (decide ((len x_64.Payload) > most_2))).bind fun z_49 =>
  if z_49 = true then
    some (.done (.inr false))
  else
    (app 32 l_34 l_44).bind fun l_50 =>
    (iter (fun s => wirelesslaw32_FragmentWhole_l3 F gaps_3 c_43 s) F (x_30)).bind fun o =>
    match o with
    | .inl u => wirelesslaw32_FragmentWhole_j6 F x_35 c_43 l_50 u
    | .inr u => some (.done (.inr u))

def wirelesslaw32_FragmentWhole_l2 (F : Nat) (most_2 : Int) (gaps_3 : (List Int)) (x_22 : (List T_api_Packet) × Int) (x_30 : Int) (c_33 : T_api_Assembler) (l_34 : (List T_api_Frame)) (x_35 : Int) : Option (Out (Int × T_api_Assembler × (List T_api_Frame) × Int) (Sum (Int × T_api_Assembler × (List T_api_Frame)) (Bool))) :=
  if (decide (x_35 < (len x_22.1))) = true then
    (idx x_22.1 x_35).bind fun x_67 =>
    (fragment_Feed F c_33 x_67).bind fun x_70 =>
    wirelesslaw32_FragmentWhole_j5 F most_2 gaps_3 x_22 x_30 l_34 x_35 x_70.1 x_70.2.1 x_70.2.2
  else
    some (.done (.inl (x_30, c_33, l_34)))

def wirelesslaw32_FragmentWhole_l1 (F : Nat) (frames_1 : (List T_api_Frame)) (most_2 : Int) (gaps_3 : (List Int)) (x_6 : Int) (x_7 : Int) (c_10 : T_api_Assembler) (x_11 : Int) : Option (Out (Int × Int × T_api_Assembler × Int) (Sum (Unit) (Bool))) :=
  if (decide (x_11 < (len frames_1))) = true then
    (idx frames_1 x_11).bind fun x_17 =>
    (if (decide ((w64 (x_6 + (len x_17.Payload))) > 16384)) = true then
      some (true)
    else
      (idx frames_1 x_11).bind fun x_73 =>
      some ((x_73.CID == 0))).bind fun z_19 =>
    if z_19 = true then
      (wirelesslaw32_exampleHolds F).bind fun x_20 =>
      some (.done (.inr x_20))
    else
      (idx frames_1 x_11).bind fun x_21 =>
      (fragment_Split F x_21 most_2).bind fun x_22 =>
      if (x_22.2 != 0) = true then
        some (.done (.inr false))
      else
        (iter (fun s => wirelesslaw32_FragmentWhole_l2 F most_2 gaps_3 x_22 s.1 s.2.1 s.2.2.1 s.2.2.2) F (x_7, c_10, [], 0)).bind fun o =>
        match o with
        | .inl u => wirelesslaw32_FragmentWhole_j3 F frames_1 x_6 x_11 x_17 u.1 u.2.1 u.2.2
        | .inr u => some (.done (.inr u))
  else
    some (.done (.inl ()))

def wirelesslaw32_FragmentWhole (F : Nat) (frames_1 : (List T_api_Frame)) (most_2 : Int) (gaps_3 : (List Int)) : Option (Bool) :=
  if (((decide ((len frames_1) > 20)) || (decide (most_2 < 1))) || (decide (most_2 > 251))) = true then
    (wirelesslaw32_exampleHolds F).bind fun x_4 =>
    some x_4
  else
    (iter (fun s => wirelesslaw32_FragmentWhole_l1 F frames_1 most_2 gaps_3 s.1 s.2.1 s.2.2.1 s.2.2.2) F (0, 0, (T_api_Assembler.mk false []), 0)).bind fun o =>
    match o with
    | .inl u => wirelesslaw32_FragmentWhole_j1 F
    | .inr u => some u

def wirelesslaw32_FragmentUnique_j1 (F : Nat) (f_2 : T_api_Frame) : Option (Bool) :=
  (fragment_Encode F f_2).bind fun x_5 =>
  if (x_5.2 != 0) = true then
    (if ((len x_5.1) == 0) = true then
      (wirelesslaw32_exampleHolds F).bind fun x_9 =>
      some (x_9)
    else
      some (false)).bind fun z_7 =>
    some z_7
  else
    (fragment_Decode F x_5.1).bind fun x_10 =>
    (if ((x_10.2 == 0) && (x_10.1.CID == f_2.CID)) = true then
      (wirelessref23_Same F x_10.1.Payload f_2.Payload).bind fun x_18 =>
      some (x_18)
    else
      some (false)).bind fun z_12 =>
    (if (z_12 && ((len x_5.1) == (w64 ((len f_2.Payload) + 4)))) = true then
      (wirelesslaw32_exampleHolds F).bind fun x_16 =>
      some (x_16)
    else
      some (false)).bind fun z_14 =>
    some z_14

def wirelesslaw32_FragmentUnique (F : Nat) (b_1 : (List Int)) (f_2 : T_api_Frame) : Option (Bool) :=
  if ((decide ((len b_1) > 65536)) || (decide ((len f_2.Payload) > 65536))) = true then
    (wirelesslaw32_exampleHolds F).bind fun x_3 =>
    some x_3
  else
    (fragment_Decode F b_1).bind fun x_4 =>
    if (x_4.2 == 0) = true then
      (fragment_Encode F x_4.1).bind fun x_19 =>
      (if (x_19.2 != 0) = true then
        some (true)
      else
        (wirelessref23_Same F b_1 x_19.1).bind fun x_23 =>
        some ((!x_23))).bind fun z_21 =>
      if z_21 = true then
        some false
      else
        wirelesslaw32_FragmentUnique_j1 F f_2
    else
      wirelesslaw32_FragmentUnique_j1 F f_2

def wirelesslaw32_FragmentRecovers_j2 (F : Nat) (f_2 : T_api_Frame) (c_12 : T_api_Assembler) (l_13 : (List T_api_Frame)) : Option (Bool) :=
  (wirelessref32_SameFrames F l_13 [f_2]).bind fun x_14 =>
  (if (x_14 && (!c_12.On)) = true then
    (wirelesslaw32_exampleHolds F).bind fun x_18 =>
    some (x_18)
  else
    some (false)).bind fun z_16 =>
  some z_16

def wirelesslaw32_FragmentRecovers_j3 (F : Nat) (l_22 : (List T_api_Frame)) (x_23 : Int) (c_26 : T_api_Assembler) (l_27 : (List T_api_Frame)) (x_28 : Int) : Option (Out (T_api_Assembler × (List T_api_Frame) × Int) (Sum (T_api_Assembler × (List T_api_Frame)) (Bool))) :=
  if ((x_28 != 0) && (decide (x_23 > 0))) = true then
    some (.done (.inr false))
  else
    (app 32 l_22 l_27).bind fun l_29 =>
    some (.next (c_26, l_29, w64 (x_23 + 1)))

def wirelesslaw32_FragmentRecovers_l1 (F : Nat) (x_9 : (List T_api_Packet) × Int) (c_21 : T_api_Assembler) (l_22 : (List T_api_Frame)) (x_23 : Int) : Option (Out (T_api_Assembler × (List T_api_Frame) × Int) (Sum (T_api_Assembler × (List T_api_Frame)) (Bool))) :=
  if (decide (x_23 < (len x_9.1))) = true then
    (idx x_9.1 x_23).bind fun x_30 =>
    (fragment_Feed F c_21 x_30).bind fun x_33 =>
    wirelesslaw32_FragmentRecovers_j3 F l_22 x_23 x_33.1 x_33.2.1 x_33.2.2
  else
    some (.done (.inl (c_21, l_22)))

def wirelesslaw32_FragmentRecovers_j1 (F : Nat) (f_2 : T_api_Frame) (most_3 : Int) (c_8 : T_api_Assembler) : Option (Bool) :=
  (fragment_Split F f_2 most_3).bind fun x_9 =>
  if (x_9.2 != 0) = true then
    some false
  else
    (iter (fun s => wirelesslaw32_FragmentRecovers_l1 F x_9 s.1 s.2.1 s.2.2) F (c_8, [], 0)).bind fun o =>
    match o with
    | .inl u => wirelesslaw32_FragmentRecovers_j2 F f_2 u.1 u.2
    | .inr u => some u

def wirelesslaw32_FragmentRecovers_l2 (F : Nat) (l_1 : (List T_api_Packet)) (c_37 : T_api_Assembler) (x_38 : Int) : Option (Out (T_api_Assembler × Int) (T_api_Assembler)) :=
  if (decide (x_38 < (len l_1))) = true then
    (idx l_1 x_38).bind fun x_39 =>
    (fragment_Feed F c_37 x_39).bind fun x_42 =>
    some (.next (x_42.1, w64 (x_38 + 1)))
  else
    some (.done (c_37))

def wirelesslaw32_FragmentRecovers (F : Nat) (l_1 : (List T_api_Packet)) (f_2 : T_api_Frame) (most_3 : Int) : Option (Bool) :=
  (wirelesslaw32_light F l_1).bind fun x_4 =>
  if (((((!x_4) || (f_2.CID == 0)) || (decide ((len f_2.Payload) > 4096))) || (decide (most_3 < 1))) || (decide (most_3 > 251))) = true then
    (wirelesslaw32_exampleHolds F).bind fun x_5 =>
    some x_5
  else
    (iter (fun s => wirelesslaw32_FragmentRecovers_l2 F l_1 s.1 s.2) F ((T_api_Assembler.mk false []), 0)).bind fun o =>
    wirelesslaw32_FragmentRecovers_j1 F f_2 most_3 o

end V
end Go.Proofs.Ytpcckohcoajenaa
