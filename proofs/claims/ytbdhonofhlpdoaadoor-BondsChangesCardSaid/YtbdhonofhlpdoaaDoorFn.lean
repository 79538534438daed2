/-
  Pure twins of the Go functions, written by program.
-/
import Derived.Test.YtbdhonofhlpdoaaDoorPure
namespace Go.Proofs.YtbdhonofhlpdoaaDoor
namespace V
structure T_api_Address where
  Kind : Int
  Bits : Int

structure T_api_Identity where
  Address : T_api_Address
  IRK : Int

structure T_api_Subscription where
  Handle : Int
  Bits : Int

structure T_api_Bond where
  Peer : T_api_Identity
  LTK : Int
  Mark : Int
  Strong : Bool
  Hash : Int
  Aware : Bool
  Subs : (List T_api_Subscription)
  Used : Int

structure T_api_Field where
  Size : Int
  Value : Int

def wirelesslaw40_one (F : Nat) (n_1 : Int) : Option (T_api_Bond) :=
  some (T_api_Bond.mk (T_api_Identity.mk (T_api_Address.mk 1 n_1) 9) 7 0 false 0 false [] (w64 n_1))

def address_mask (F : Nat) (bits_1 : Int) : Option (Int) :=
  (ishl .u64 1 bits_1).bind fun x_2 =>
  some (wu64 (x_2 - 1))

def address_part_j1 (F : Nat) (x_2 : Int) : Option (Int × Int) :=
  some (x_2, 22)

def address_part_j2 (F : Nat) (x_6 : Int) : Option (Int × Int) :=
  some (x_6, 46)

def address_part (F : Nat) (a_1 : T_api_Address) : Option (Int × Int) :=
  if (a_1.Kind == 3) = true then
    (address_mask F 22).bind fun x_5 =>
    address_part_j1 F (iand .u64 (shrp a_1.Bits 24) x_5)
  else
    (address_mask F 46).bind fun x_9 =>
    address_part_j2 F (iand .u64 a_1.Bits x_9)

def address_Check_j1 (F : Nat) (z_3 : Bool) : Option (Int) :=
  if z_3 = true then
    some 1
  else
    some 0

def address_Check (F : Nat) (a_1 : T_api_Address) : Option (Int) :=
  if ((decide (a_1.Kind ≤ 0)) || (decide (a_1.Kind ≥ 5))) = true then
    some 12
  else
    if ((shrp a_1.Bits 48) != 0) = true then
      some 5
    else
      if (a_1.Kind == 1) = true then
        some 0
      else
        (address_part F a_1).bind fun x_2 =>
        (idx [0, 0, 3, 1, 0] a_1.Kind).bind fun x_6 =>
        if (((shrp a_1.Bits 46) != x_6) || (x_2.1 == 0)) = true then
          address_Check_j1 F true
        else
          (address_mask F x_2.2).bind fun x_8 =>
          address_Check_j1 F (x_2.1 == x_8)

def bonds_Check_j1 (F : Nat) : Option (Int) :=
  some 0

def bonds_Check_j2 (F : Nat) (x_3 : Int) (z_5 : Bool) : Option (Out (Int) (Sum (Unit) (Int))) :=
  if z_5 = true then
    some (.done (.inr 13))
  else
    some (.next (w64 (x_3 + 1)))

def bonds_Check_l1 (F : Nat) (b_1 : T_api_Bond) (x_3 : Int) : Option (Out (Int) (Sum (Unit) (Int))) :=
  if (decide (x_3 < (len b_1.Subs))) = true then
    (idx b_1.Subs x_3).bind fun x_4 =>
    if (((x_4.Handle == 0) || (decide (x_4.Bits < 0))) || (decide (x_4.Bits > 3))) = true then
      some (.done (.inr 5))
    else
      if (decide (x_3 > 0)) = true then
        (idx b_1.Subs (w64 (x_3 - 1))).bind fun x_9 =>
        bonds_Check_j2 F x_3 (decide (x_4.Handle ≤ x_9.Handle))
      else
        bonds_Check_j2 F x_3 false
  else
    some (.done (.inl ()))

def bonds_Check (F : Nat) (b_1 : T_api_Bond) : Option (Int) :=
  (address_Check F b_1.Peer.Address).bind fun x_2 =>
  if (x_2 != 0) = true then
    some x_2
  else
    if ((b_1.Peer.Address.Kind != 1) && (b_1.Peer.Address.Kind != 2)) = true then
      some 12
    else
      if ((decide (b_1.Used < 0)) || (decide (b_1.Used > 4294967295))) = true then
        some 5
      else
        if (decide ((len b_1.Subs) > 16)) = true then
          some 4
        else
          (iter (fun s => bonds_Check_l1 F b_1 s) F (0)).bind fun o =>
          match o with
          | .inl u => bonds_Check_j1 F
          | .inr u => some u

def octets_sized (F : Nat) (n_1 : Int) : Option (Bool) :=
  some ((decide (n_1 ≥ 1)) && (decide (n_1 ≤ 8)))

def octets_Put_j1 (F : Nat) (l_2 : (List Int)) : Option ((List Int) × Int) :=
  some (l_2, 0)

def octets_Put_j2 (F : Nat) (x_4 : Int) (l_5 : (List Int)) : Option (Out ((List Int) × Int) (Sum ((List Int)) ((List Int) × Int))) :=
  some (.next (l_5, w64 (x_4 + 1)))

def octets_Put_l2 (F : Nat) (x_6 : T_api_Field) (l_10 : (List Int)) (x_11 : Int) : Option (Out ((List Int) × Int) ((List Int))) :=
  if (decide (x_11 < x_6.Size)) = true then
    (ishr .u64 x_6.Value (w64 (8 * x_11))).bind fun x_12 =>
    (app 1 l_10 [wu8 x_12]).bind fun l_13 =>
    some (.next (l_13, w64 (x_11 + 1)))
  else
    some (.done (l_10))

def octets_Put_l1 (F : Nat) (fields_1 : (List T_api_Field)) (l_3 : (List Int)) (x_4 : Int) : Option (Out ((List Int) × Int) (Sum ((List Int)) ((List Int) × Int))) :=
  if (decide (x_4 < (len fields_1))) = true then
    (idx fields_1 x_4).bind fun x_6 =>
    (octets_sized F x_6.Size).bind fun x_7 =>
    (if (!x_7) = true then
      some (true)
    else
      if (decide (x_6.Size < 8)) = true then
        (ishr .u64 x_6.Value (w64 (8 * x_6.Size))).bind fun x_16 =>
        some ((x_16 != 0))
      else
        some (false)).bind fun z_9 =>
    if z_9 = true then
      some (.done (.inr ([], 5)))
    else
      (iter (fun s => octets_Put_l2 F x_6 s.1 s.2) F (l_3, 0)).bind fun o =>
      octets_Put_j2 F x_4 o
  else
    some (.done (.inl (l_3)))

def octets_Put (F : Nat) (fields_1 : (List T_api_Field)) : Option ((List Int) × Int) :=
  (iter (fun s => octets_Put_l1 F fields_1 s.1 s.2) F ([], 0)).bind fun o =>
  match o with
  | .inl u => octets_Put_j1 F u
  | .inr u => some u

def address_Encode (F : Nat) (a_1 : T_api_Address) : Option ((List Int) × Int) :=
  (address_Check F a_1).bind fun x_2 =>
  if (x_2 != 0) = true then
    some ([], x_2)
  else
    (octets_Put F [(T_api_Field.mk 1 (wu64 a_1.Kind)), (T_api_Field.mk 6 a_1.Bits)]).bind fun x_3 =>
    some (x_3.1, x_3.2)

def bonds_Encode_1 (F : Nat) (size_1 : Int) (n_2 : Int) : Option (T_api_Field) :=
  some (T_api_Field.mk size_1 n_2)

def bonds_flags_j2 (F : Nat) (x_3 : Int) : Option (Int) :=
  some x_3

def bonds_flags_j1 (F : Nat) (b_1 : T_api_Bond) (x_2 : Int) : Option (Int) :=
  if b_1.Aware = true then
    bonds_flags_j2 F (wu64 (x_2 + 2))
  else
    bonds_flags_j2 F x_2

def bonds_flags (F : Nat) (b_1 : T_api_Bond) : Option (Int) :=
  if b_1.Strong = true then
    bonds_flags_j1 F b_1 1
  else
    bonds_flags_j1 F b_1 0

def octets_Join_j1 (F : Nat) (l_2 : (List Int)) : Option ((List Int)) :=
  some l_2

def octets_Join_l1 (F : Nat) (parts_1 : (List (List Int))) (l_3 : (List Int)) (x_4 : Int) : Option (Out ((List Int) × Int) ((List Int))) :=
  if (decide (x_4 < (len parts_1))) = true then
    (idx parts_1 x_4).bind fun x_5 =>
    (app 1 l_3 x_5).bind fun l_6 =>
    some (.next (l_6, w64 (x_4 + 1)))
  else
    some (.done (l_3))

def octets_Join (F : Nat) (parts_1 : (List (List Int))) : Option ((List Int)) :=
  (iter (fun s => octets_Join_l1 F parts_1 s.1 s.2) F ([], 0)).bind fun o =>
  octets_Join_j1 F o

def bonds_Encode_j2 (F : Nat) (x_3 : (List Int) × Int) (l_5 : (List T_api_Field)) : Option ((List Int) × Int) :=
  (octets_Put F l_5).bind fun x_6 =>
  if (x_6.2 != 0) = true then
    some ([], x_6.2)
  else
    (octets_Join F [x_3.1, x_6.1]).bind fun x_7 =>
    some (x_7, 0)

def bonds_Encode_l1 (F : Nat) (b_1 : T_api_Bond) (l_8 : (List T_api_Field)) (x_9 : Int) : Option (Out ((List T_api_Field) × Int) ((List T_api_Field))) :=
  if (decide (x_9 < (len b_1.Subs))) = true then
    (idx b_1.Subs x_9).bind fun x_10 =>
    (bonds_Encode_1 F 2 (wu64 x_10.Handle)).bind fun x_13 =>
    (bonds_Encode_1 F 1 (wu64 x_10.Bits)).bind fun x_14 =>
    (app 16 l_8 [x_13, x_14]).bind fun l_15 =>
    some (.next (l_15, w64 (x_9 + 1)))
  else
    some (.done (l_8))

def bonds_Encode_j1 (F : Nat) (b_1 : T_api_Bond) (x_3 : (List Int) × Int) (l_4 : (List T_api_Field)) : Option ((List Int) × Int) :=
  (iter (fun s => bonds_Encode_l1 F b_1 s.1 s.2) F (l_4, 0)).bind fun o =>
  bonds_Encode_j2 F x_3 o

def bonds_Encode (F : Nat) (b_1 : T_api_Bond) : Option ((List Int) × Int) :=
  (bonds_Check F b_1).bind fun x_2 =>
  if (x_2 != 0) = true then
    some ([], x_2)
  else
    (address_Encode F b_1.Peer.Address).bind fun x_3 =>
    (bonds_Encode_1 F 8 b_1.Peer.IRK).bind fun x_18 =>
    (bonds_Encode_1 F 8 b_1.LTK).bind fun x_19 =>
    (bonds_Encode_1 F 8 b_1.Mark).bind fun x_20 =>
    (bonds_flags F b_1).bind fun x_21 =>
    (bonds_Encode_1 F 1 x_21).bind fun x_22 =>
    (bonds_Encode_1 F 8 b_1.Hash).bind fun x_23 =>
    (bonds_Encode_1 F 4 (wu64 b_1.Used)).bind fun x_24 =>
    (bonds_Encode_1 F 1 (wu64 (len b_1.Subs))).bind fun x_25 =>
    bonds_Encode_j1 F b_1 x_3 [x_18, x_19, x_20, x_22, x_23, x_24, x_25]

def octets_Take_j2 (F : Nat) (l_4 : (List Int)) (l_5 : (List Int)) : Option ((List Int) × (List Int) × Int) :=
  (octets_Join F [l_4]).bind fun x_6 =>
  some (l_5, x_6, 0)

def octets_Take_j3 (F : Nat) (x_9 : Int) (l_10 : (List Int)) (l_11 : (List Int)) : Option (Out ((List Int) × (List Int) × Int) ((List Int) × (List Int))) :=
  some (.next (l_10, l_11, w64 (x_9 + 1)))

def octets_Take_j4 (F : Nat) (l_7 : (List Int)) (l_8 : (List Int)) (x_9 : Int) (x_12 : Int) (x_13 : Int) : Option (Out ((List Int) × (List Int) × Int) ((List Int) × (List Int))) :=
  (app 8 l_8 [x_13]).bind fun l_14 =>
  (sub l_7 x_12 (len l_7)).bind fun l_15 =>
  octets_Take_j3 F x_9 l_15 l_14

def octets_Take_l2 (F : Nat) (l_7 : (List Int)) (x_12 : Int) (x_16 : Int) (x_17 : Int) : Option (Out (Int × Int) (Int)) :=
  if (decide (x_17 < x_12)) = true then
    (idx l_7 x_17).bind fun x_18 =>
    (ishl .u64 (wu64 x_18) (w64 (8 * x_17))).bind fun x_19 =>
    some (.next (ior .u64 x_16 x_19, w64 (x_17 + 1)))
  else
    some (.done (x_16))

def octets_Take_l1 (F : Nat) (sizes_2 : (List Int)) (l_7 : (List Int)) (l_8 : (List Int)) (x_9 : Int) : Option (Out ((List Int) × (List Int) × Int) ((List Int) × (List Int))) :=
  if (decide (x_9 < (len sizes_2))) = true then
    (idx sizes_2 x_9).bind fun x_12 =>
    (iter (fun s => octets_Take_l2 F l_7 x_12 s.1 s.2) F (0, 0)).bind fun o =>
    octets_Take_j4 F l_7 l_8 x_9 x_12 o
  else
    some (.done (l_7, l_8))

def octets_Take_j1 (F : Nat) (b_1 : (List Int)) (sizes_2 : (List Int)) (x_3 : Int) : Option ((List Int) × (List Int) × Int) :=
  if (decide ((len b_1) < x_3)) = true then
    some ([], [], 3)
  else
    (iter (fun s => octets_Take_l1 F sizes_2 s.1 s.2.1 s.2.2) F (b_1, [], 0)).bind fun o =>
    octets_Take_j2 F o.1 o.2

def octets_Take_l3 (F : Nat) (sizes_2 : (List Int)) (x_20 : Int) (x_21 : Int) : Option (Out (Int × Int) (Sum (Int) ((List Int) × (List Int) × Int))) :=
  if (decide (x_21 < (len sizes_2))) = true then
    (idx sizes_2 x_21).bind fun x_22 =>
    (octets_sized F x_22).bind fun x_23 =>
    if (!x_23) = true then
      some (.done (.inr ([], [], 5)))
    else
      some (.next (w64 (x_20 + x_22), w64 (x_21 + 1)))
  else
    some (.done (.inl (x_20)))

def octets_Take (F : Nat) (b_1 : (List Int)) (sizes_2 : (List Int)) : Option ((List Int) × (List Int) × Int) :=
  (iter (fun s => octets_Take_l3 F sizes_2 s.1 s.2) F (0, 0)).bind fun o =>
  match o with
  | .inl u => octets_Take_j1 F b_1 sizes_2 u
  | .inr u => some u

def address_Decode_j1 (F : Nat) (x_2 : (List Int) × (List Int) × Int) (c_5 : T_api_Address) : Option (T_api_Address × (List Int) × Int) :=
  (address_Check F c_5).bind fun x_6 =>
  if (x_6 != 0) = true then
    some ((T_api_Address.mk 0 0), [], x_6)
  else
    some (c_5, x_2.2.1, 0)

def address_Decode (F : Nat) (b_1 : (List Int)) : Option (T_api_Address × (List Int) × Int) :=
  (octets_Take F b_1 [1, 6]).bind fun x_2 =>
  if (x_2.2.2 != 0) = true then
    some ((T_api_Address.mk 0 0), [], x_2.2.2)
  else
    (idx x_2.1 0).bind fun x_7 =>
    (idx x_2.1 1).bind fun x_8 =>
    address_Decode_j1 F x_2 (T_api_Address.mk (w64 x_7) x_8)

def bonds_Decode_j2 (F : Nat) (x_4 : T_api_Address × (List Int) × Int) (x_10 : Int) (x_11 : Int) (x_12 : Int) (z_13 : Bool) (x_14 : Int) (z_15 : Bool) (x_16 : Int) (l_17 : (List T_api_Subscription)) : Option (T_api_Bond × Int) :=
  (bonds_Check F (T_api_Bond.mk (T_api_Identity.mk x_4.1 x_10) x_11 x_12 z_13 x_14 z_15 l_17 x_16)).bind fun x_18 =>
  if (x_18 != 0) = true then
    some ((T_api_Bond.mk (T_api_Identity.mk (T_api_Address.mk 0 0) 0) 0 0 false 0 false [] 0), x_18)
  else
    some ((T_api_Bond.mk (T_api_Identity.mk x_4.1 x_10) x_11 x_12 z_13 x_14 z_15 l_17 x_16), 0)

def bonds_Decode_l1 (F : Nat) (x_19 : Int) (l_20 : (List Int)) (l_21 : (List T_api_Subscription)) (x_22 : Int) : Option (Out ((List Int) × (List T_api_Subscription) × Int) ((List T_api_Subscription))) :=
  if (decide (x_22 < x_19)) = true then
    (octets_Take F l_20 [2, 1]).bind fun x_23 =>
    (idx x_23.1 0).bind fun x_24 =>
    (idx x_23.1 1).bind fun x_25 =>
    (app 16 l_21 [(T_api_Subscription.mk (wu16 x_24) (w64 x_25))]).bind fun l_988 =>
    some (.next (x_23.2.1, l_988, wu64 (x_22 + 1)))
  else
    some (.done (l_21))

def bonds_Decode_j1 (F : Nat) (x_4 : T_api_Address × (List Int) × Int) (x_6 : (List Int) × (List Int) × Int) (x_10 : Int) (x_11 : Int) (x_12 : Int) (z_13 : Bool) (x_14 : Int) (z_15 : Bool) (x_16 : Int) : Option (T_api_Bond × Int) :=
  (idx x_6.1 6).bind fun x_19 =>
  (iter (fun s => bonds_Decode_l1 F x_19 s.1 s.2.1 s.2.2) F (x_6.2.1, [], 0)).bind fun o =>
  bonds_Decode_j2 F x_4 x_10 x_11 x_12 z_13 x_14 z_15 x_16 o

def bonds_Decode (F : Nat) (b_1 : (List Int)) : Option (T_api_Bond × Int) :=
  (if (decide ((len b_1) < 45)) = true then
    some (true)
  else
    (idx b_1 44).bind fun x_1320 =>
    some (decide ((len b_1) < (w64 (45 + (w64 (3 * (w64 x_1320)))))))).bind fun z_3 =>
  if z_3 = true then
    some ((T_api_Bond.mk (T_api_Identity.mk (T_api_Address.mk 0 0) 0) 0 0 false 0 false [] 0), 3)
  else
    (address_Decode F b_1).bind fun x_4 =>
    (sub b_1 7 (len b_1)).bind fun l_5 =>
    (octets_Take F l_5 [8, 8, 8, 1, 8, 4, 1]).bind fun x_6 =>
    (idx b_1 44).bind fun x_7 =>
    (if (decide ((len x_6.2.1) > (w64 (3 * (w64 x_7))))) = true then
      some (true)
    else
      (idx x_6.1 3).bind fun x_1318 =>
      some (decide (x_1318 > 3))).bind fun z_9 =>
    if z_9 = true then
      some ((T_api_Bond.mk (T_api_Identity.mk (T_api_Address.mk 0 0) 0) 0 0 false 0 false [] 0), 2)
    else
      if (x_4.2.2 != 0) = true then
        some ((T_api_Bond.mk (T_api_Identity.mk (T_api_Address.mk 0 0) 0) 0 0 false 0 false [] 0), x_4.2.2)
      else
        (idx x_6.1 0).bind fun x_1308 =>
        (idx x_6.1 1).bind fun x_1309 =>
        (idx x_6.1 2).bind fun x_1310 =>
        (idx x_6.1 3).bind fun x_1311 =>
        (idx x_6.1 3).bind fun x_1312 =>
        (idx x_6.1 4).bind fun x_1313 =>
        (idx x_6.1 5).bind fun x_1314 =>
        bonds_Decode_j1 F x_4 x_6 x_1308 x_1309 x_1310 ((remp x_1311 2) == 1) x_1313 (decide (x_1312 > 1)) (w64 x_1314)

def slices_Clone_api_Subscription_api_Subscription (F : Nat) (s_1 : (List T_api_Subscription)) : Option ((List T_api_Subscription)) :=
  (app 16 ([] : (List T_api_Subscription)) s_1).bind fun l_2 =>
  some l_2

def bonds_own (F : Nat) (b_1 : T_api_Bond) : Option (T_api_Bond) :=
  (slices_Clone_api_Subscription_api_Subscription F b_1.Subs).bind fun x_2 =>
  some ({ b_1 with Subs := x_2 })

def bonds_clone_j1 (F : Nat) (l_3 : (List T_api_Bond)) : Option ((List T_api_Bond)) :=
  some l_3

def bonds_clone_l1 (F : Nat) (l_1 : (List T_api_Bond)) (l_4 : (List T_api_Bond)) (x_5 : Int) : Option (Out ((List T_api_Bond) × Int) ((List T_api_Bond))) :=
  if (decide (x_5 < (len l_1))) = true then
    (idx l_1 x_5).bind fun x_6 =>
    (bonds_own F x_6).bind fun x_7 =>
    (app 96 l_4 [x_7]).bind fun l_8 =>
    some (.next (l_8, w64 (x_5 + 1)))
  else
    some (.done (l_4))

def bonds_clone (F : Nat) (l_1 : (List T_api_Bond)) : Option ((List T_api_Bond)) :=
  (mkc 96 (T_api_Bond.mk (T_api_Identity.mk (T_api_Address.mk 0 0) 0) 0 0 false 0 false [] 0) 0 (w64 ((len l_1) + 1))).bind fun l_2 =>
  (iter (fun s => bonds_clone_l1 F l_1 s.1 s.2) F (l_2, 0)).bind fun o =>
  bonds_clone_j1 F o

def bonds_greatest_j1 (F : Nat) (x_2 : Int) : Option (Int) :=
  some x_2

def bonds_greatest_l1 (F : Nat) (l_1 : (List T_api_Bond)) (x_3 : Int) (x_4 : Int) : Option (Out (Int × Int) (Int)) :=
  if (decide (x_4 < (len l_1))) = true then
    (idx l_1 x_4).bind fun x_5 =>
    some (.next (imax x_3 x_5.Used, w64 (x_4 + 1)))
  else
    some (.done (x_3))

def bonds_greatest (F : Nat) (l_1 : (List T_api_Bond)) : Option (Int) :=
  (iter (fun s => bonds_greatest_l1 F l_1 s.1 s.2) F (0, 0)).bind fun o =>
  bonds_greatest_j1 F o

def bonds_ranked_j1 (F : Nat) (l_3 : (List T_api_Bond)) : Option ((List T_api_Bond)) :=
  some l_3

def bonds_ranked_j2 (F : Nat) (x_5 : Int) (l_6 : (List T_api_Bond)) : Option (Out ((List T_api_Bond) × Int) ((List T_api_Bond))) :=
  some (.next (l_6, w64 (x_5 + 1)))

def bonds_ranked_j3 (F : Nat) (l_4 : (List T_api_Bond)) (x_5 : Int) (x_8 : Int) : Option (Out ((List T_api_Bond) × Int) ((List T_api_Bond))) :=
  (idx l_4 x_5).bind fun x_9 =>
  (upd l_4 x_5 ({ x_9 with Used := x_8 })).bind fun l_10 =>
  bonds_ranked_j2 F x_5 l_10

def bonds_ranked_j4 (F : Nat) (x_12 : Int) (x_13 : Int) : Option (Out (Int × Int) (Int)) :=
  some (.next (x_13, w64 (x_12 + 1)))

def bonds_ranked_l2 (F : Nat) (l_1 : (List T_api_Bond)) (x_5 : Int) (x_7 : T_api_Bond) (x_11 : Int) (x_12 : Int) : Option (Out (Int × Int) (Int)) :=
  if (decide (x_12 < (len l_1))) = true then
    (idx l_1 x_12).bind fun x_14 =>
    if ((decide (x_14.Used < x_7.Used)) || ((x_14.Used == x_7.Used) && (decide (x_12 < x_5)))) = true then
      bonds_ranked_j4 F x_12 (w64 (x_11 + 1))
    else
      bonds_ranked_j4 F x_12 x_11
  else
    some (.done (x_11))

def bonds_ranked_l1 (F : Nat) (l_1 : (List T_api_Bond)) (l_4 : (List T_api_Bond)) (x_5 : Int) : Option (Out ((List T_api_Bond) × Int) ((List T_api_Bond))) :=
  if (decide (x_5 < (len l_1))) = true then
    (idx l_1 x_5).bind fun x_7 =>
    (iter (fun s => bonds_ranked_l2 F l_1 x_5 x_7 s.1 s.2) F (0, 0)).bind fun o =>
    bonds_ranked_j3 F l_4 x_5 o
  else
    some (.done (l_4))

def bonds_ranked (F : Nat) (l_1 : (List T_api_Bond)) : Option ((List T_api_Bond)) :=
  (bonds_clone F l_1).bind fun x_2 =>
  (iter (fun s => bonds_ranked_l1 F l_1 s.1 s.2) F (x_2, 0)).bind fun o =>
  bonds_ranked_j1 F o

def bonds_next_j1 (F : Nat) (l_3 : (List T_api_Bond)) : Option ((List T_api_Bond) × Int) :=
  (bonds_greatest F l_3).bind fun x_4 =>
  some (l_3, w64 (x_4 + 1))

def bonds_next (F : Nat) (l_1 : (List T_api_Bond)) : Option ((List T_api_Bond) × Int) :=
  (bonds_clone F l_1).bind fun x_2 =>
  (bonds_greatest F x_2).bind fun x_5 =>
  if (decide (x_5 ≥ 4294967295)) = true then
    (bonds_ranked F x_2).bind fun x_6 =>
    bonds_next_j1 F x_6
  else
    bonds_next_j1 F x_2

def bonds_Add_1 (F : Nat) (x_1 : T_api_Bond) (p_2 : T_api_Bond) : Option (Bool) :=
  some ((x_1.Peer.Address.Kind == p_2.Peer.Address.Kind) && (x_1.Peer.Address.Bits == p_2.Peer.Address.Bits))

def bonds_index_api_Bond_at54_j1 (F : Nat) : Option (Int) :=
  some (-1)

def bonds_index_api_Bond_at54_l1 (F : Nat) (l_1 : (List T_api_Bond)) (c_2 : T_api_Bond) (x_3 : Int) : Option (Out (Int) (Sum (Unit) (Int))) :=
  if (decide (x_3 < (len l_1))) = true then
    (idx l_1 x_3).bind fun x_4 =>
    (bonds_Add_1 F x_4 c_2).bind fun x_5 =>
    if x_5 = true then
      some (.done (.inr x_3))
    else
      some (.next (w64 (x_3 + 1)))
  else
    some (.done (.inl ()))

def bonds_index_api_Bond_at54 (F : Nat) (l_1 : (List T_api_Bond)) (c_2 : T_api_Bond) : Option (Int) :=
  (iter (fun s => bonds_index_api_Bond_at54_l1 F l_1 c_2 s) F (0)).bind fun o =>
  match o with
  | .inl u => bonds_index_api_Bond_at54_j1 F
  | .inr u => some u

def bonds_Add_j1 (F : Nat) (x_6 : (List T_api_Bond) × Int) (x_7 : T_api_Bond) (x_10 : Int) : Option ((List T_api_Bond) × Int × Int) :=
  (idx x_6.1 x_10).bind fun x_11 =>
  (upd x_6.1 x_10 ({ x_7 with Used := x_6.2 })).bind fun l_12 =>
  some (l_12, x_10, 0)

def bonds_Add_j2 (F : Nat) (x_14 : Int) (x_15 : Int) : Option (Out (Int × Int) (Int)) :=
  some (.next (x_15, w64 (x_14 + 1)))

def bonds_Add_j3 (F : Nat) (x_13 : Int) (x_14 : Int) (z_17 : Bool) : Option (Out (Int × Int) (Int)) :=
  if z_17 = true then
    bonds_Add_j2 F x_14 x_14
  else
    bonds_Add_j2 F x_14 x_13

def bonds_Add_l1 (F : Nat) (x_6 : (List T_api_Bond) × Int) (x_13 : Int) (x_14 : Int) : Option (Out (Int × Int) (Int)) :=
  if (decide (x_14 < (len x_6.1))) = true then
    (idx x_6.1 x_14).bind fun x_16 =>
    (idx x_6.1 x_13).bind fun x_20 =>
    bonds_Add_j3 F x_13 x_14 (decide (x_16.Used < x_20.Used))
  else
    some (.done (x_13))

def bonds_Add (F : Nat) (l_1 : (List T_api_Bond)) (b_2 : T_api_Bond) : Option ((List T_api_Bond) × Int × Int) :=
  if (decide ((len l_1) > 16)) = true then
    (bonds_clone F l_1).bind fun x_3 =>
    some (x_3, 0, 4)
  else
    (bonds_Check F b_2).bind fun x_4 =>
    if (x_4 != 0) = true then
      (bonds_clone F l_1).bind fun x_5 =>
      some (x_5, 0, x_4)
    else
      (bonds_next F l_1).bind fun x_6 =>
      (bonds_own F b_2).bind fun x_7 =>
      (bonds_index_api_Bond_at54 F x_6.1 ({ x_7 with Used := x_6.2 })).bind fun x_8 =>
      if ((decide (x_8 < 0)) && (decide ((len x_6.1) < 16))) = true then
        (app 96 x_6.1 [{ x_7 with Used := x_6.2 }]).bind fun l_9 =>
        some (l_9, len (lens x_6.1), 0)
      else
        if (decide (x_8 < 0)) = true then
          (iter (fun s => bonds_Add_l1 F x_6 s.1 s.2) F (0, 0)).bind fun o =>
          bonds_Add_j1 F x_6 x_7 o
        else
          bonds_Add_j1 F x_6 x_7 x_8

def slices_Delete_api_Bond_api_Bond (F : Nat) (s_1 : (List T_api_Bond)) (i_2 : Int) (j_3 : Int) : Option ((List T_api_Bond)) :=
  if 0 ≤ i_2 ∧ i_2 ≤ j_3 ∧ j_3 ≤ (s_1.length : Int) then
    some (s_1.take i_2.toNat ++ s_1.drop j_3.toNat)
  else
    none

def bonds_Remove (F : Nat) (l_1 : (List T_api_Bond)) (i_2 : Int) : Option ((List T_api_Bond) × Int) :=
  (bonds_clone F l_1).bind fun x_3 =>
  if ((decide (i_2 < 0)) || (decide (i_2 ≥ (len l_1)))) = true then
    some (x_3, 5)
  else
    (slices_Delete_api_Bond_api_Bond F x_3 i_2 (w64 (i_2 + 1))).bind fun x_4 =>
    some (x_4, 0)

def wirelessref40_SameBond_j1 (F : Nat) : Option (Bool) :=
  some true

def wirelessref40_SameBond_j2 (F : Nat) (x_3 : Int) (z_4 : Bool) : Option (Out (Int) (Sum (Unit) (Bool))) :=
  if z_4 = true then
    some (.done (.inr false))
  else
    some (.next (w64 (x_3 + 1)))

def wirelessref40_SameBond_l1 (F : Nat) (a_1 : T_api_Bond) (b_2 : T_api_Bond) (x_3 : Int) : Option (Out (Int) (Sum (Unit) (Bool))) :=
  if (decide (x_3 < (len a_1.Subs))) = true then
    (idx a_1.Subs x_3).bind fun x_5 =>
    (idx b_2.Subs x_3).bind fun x_6 =>
    wirelessref40_SameBond_j2 F x_3 (!((x_5.Handle == x_6.Handle) && (x_5.Bits == x_6.Bits)))
  else
    some (.done (.inl ()))

def wirelessref40_SameBond (F : Nat) (a_1 : T_api_Bond) (b_2 : T_api_Bond) : Option (Bool) :=
  if ((((((((!((a_1.Peer.Address.Kind == b_2.Peer.Address.Kind) && ((a_1.Peer.Address.Bits == b_2.Peer.Address.Bits) && (a_1.Peer.IRK == b_2.Peer.IRK)))) || (a_1.LTK != b_2.LTK)) || (a_1.Mark != b_2.Mark)) || (a_1.Strong != b_2.Strong)) || (a_1.Hash != b_2.Hash)) || (a_1.Aware != b_2.Aware)) || (a_1.Used != b_2.Used)) || ((len a_1.Subs) != (len b_2.Subs))) = true then
    some false
  else
    (iter (fun s => wirelessref40_SameBond_l1 F a_1 b_2 s) F (0)).bind fun o =>
    match o with
    | .inl u => wirelessref40_SameBond_j1 F
    | .inr u => some u

def mac_bytes_j1 (F : Nat) (l_2 : (List T_api_Field)) : Option ((List Int)) :=
  (octets_Put F l_2).bind fun x_3 =>
  some x_3.1

def mac_bytes_l1 (F : Nat) (numbers_1 : (List Int)) (l_4 : (List T_api_Field)) (x_5 : Int) : Option (Out ((List T_api_Field) × Int) ((List T_api_Field))) :=
  if (decide (x_5 < (len numbers_1))) = true then
    (idx numbers_1 x_5).bind fun x_6 =>
    (app 16 l_4 [(T_api_Field.mk 8 x_6)]).bind fun l_7 =>
    some (.next (l_7, w64 (x_5 + 1)))
  else
    some (.done (l_4))

def mac_bytes (F : Nat) (numbers_1 : (List Int)) : Option ((List Int)) :=
  (iter (fun s => mac_bytes_l1 F numbers_1 s.1 s.2) F ([], 0)).bind fun o =>
  mac_bytes_j1 F o

def serial_Low (F : Nat) (n_1 : Int) (bits_2 : Int) : Option (Int) :=
  if (decide (bits_2 ≤ 0)) = true then
    some 0
  else
    if (decide (bits_2 ≥ 64)) = true then
      some n_1
    else
      (ishl .u64 1 bits_2).bind fun x_3 =>
      some (iand .u64 n_1 (wu64 (x_3 - 1)))

def block_split (F : Nat) (x_1 : Int) : Option ((Int × Int)) :=
  (serial_Low F x_1 32).bind fun x_2 =>
  some (wu32 (shrp x_1 32), wu32 x_2)

def math_bits_RotateLeft64 (F : Nat) (x_1 : Int) (k_2 : Int) : Option (Int) :=
  (ishl .u64 x_1 (iand .u64 (wu64 k_2) 63)).bind fun x_3 =>
  (ishr .u64 x_1 (wu64 (64 - (iand .u64 (wu64 k_2) 63)))).bind fun x_4 =>
  some (ior .u64 x_3 x_4)

def math_bits_RotateLeft32 (F : Nat) (x_1 : Int) (k_2 : Int) : Option (Int) :=
  (ishl .u32 x_1 (iand .u64 (wu64 k_2) 31)).bind fun x_3 =>
  (ishr .u32 x_1 (wu64 (32 - (iand .u64 (wu64 k_2) 31)))).bind fun x_4 =>
  some (ior .u32 x_3 x_4)

def block_Round (F : Nat) (k_1 : Int) (i_2 : Int) (half_3 : Int) : Option (Int) :=
  (math_bits_RotateLeft64 F k_1 (remp (w64 (11 * (remp i_2 64))) 64)).bind fun x_4 =>
  (serial_Low F x_4 32).bind fun x_5 =>
  (math_bits_RotateLeft32 F (wu32 (half_3 + (wu32 x_5))) 7).bind fun x_6 =>
  (math_bits_RotateLeft32 F (wu32 x_5) 16).bind fun x_7 =>
  some (ixor .u32 (wu32 (x_6 * 2654435761)) x_7)

def block_halves_join (F : Nat) (h_1 : (Int × Int)) : Option (Int) :=
  some (ior .u64 (shlp .u64 (wu64 h_1.1) 32) (wu64 h_1.2))

def block_Mix_j1 (F : Nat) (x_4 : Int) (x_5 : Int) : Option (Int) :=
  (block_halves_join F (x_4, x_5)).bind fun x_6 =>
  some x_6

def block_Mix_l1 (F : Nat) (k_1 : Int) (x_7 : Int) (x_8 : Int) (x_9 : Int) : Option (Out (Int × Int × Int) (Int × Int)) :=
  if (decide (x_9 < 8)) = true then
    (block_Round F k_1 x_9 x_8).bind fun x_652 =>
    some (.next (x_8, ixor .u32 x_7 x_652, w64 (x_9 + 1)))
  else
    some (.done (x_7, x_8))

def block_Mix (F : Nat) (k_1 : Int) (x_2 : Int) : Option (Int) :=
  (block_split F x_2).bind fun x_3 =>
  (iter (fun s => block_Mix_l1 F k_1 s.1 s.2.1 s.2.2) F (x_3.1, x_3.2, 0)).bind fun o =>
  block_Mix_j1 F o.1 o.2

def mac_Tag_it_j1 (F : Nat) (x_7 : Int) (x_8 : Int) : Option (Out (Int × Int) (Int)) :=
  some (.next (x_8, w64 (x_7 + 8)))

def mac_Tag_b (F : Nat) (k_1 : Int) (x_6 : Int) (x_9 : Int) : Option (Int) :=
  (block_Mix F k_1 (ixor .u64 x_6 x_9)).bind fun x_11 =>
  some x_11

def mac_Tag_it_j2 (F : Nat) (k_1 : Int) (x_6 : Int) (x_7 : Int) (x_9 : Int) : Option (Out (Int × Int) (Int)) :=
  (mac_Tag_b F k_1 x_6 x_9).bind fun o_10 =>
  mac_Tag_it_j1 F x_7 o_10

def mac_Tag_it_l2 (F : Nat) (l_12 : (List Int)) (x_13 : Int) (x_14 : Int) : Option (Out (Int × Int) (Int)) :=
  if (decide (x_14 < (len l_12))) = true then
    (idx l_12 x_14).bind fun x_15 =>
    (ishl .u64 (wu64 x_15) (w64 (8 * x_14))).bind fun x_16 =>
    some (.next (ior .u64 x_13 x_16, w64 (x_14 + 1)))
  else
    some (.done (x_13))

def mac_Tag_it_l1 (F : Nat) (k_1 : Int) (b_2 : (List Int)) (x_6 : Int) (x_7 : Int) : Option (Out (Int × Int) (Int)) :=
  if (decide (x_7 < (len b_2))) = true then
    (sub b_2 x_7 (imin (w64 (x_7 + 8)) (len b_2))).bind fun l_12 =>
    (iter (fun s => mac_Tag_it_l2 F l_12 s.1 s.2) F (0, 0)).bind fun o =>
    mac_Tag_it_j2 F k_1 x_6 x_7 o
  else
    some (.done (x_6))

def mac_Tag_it (F : Nat) (k_1 : Int) (b_2 : (List Int)) (x_3 : Int) : Option (Int) :=
  (iter (fun s => mac_Tag_it_l1 F k_1 b_2 s.1 s.2) F (x_3, 0)).bind fun o =>
  some o

def mac_Tag (F : Nat) (k_1 : Int) (b_2 : (List Int)) : Option (Int) :=
  (block_Mix F k_1 (wu64 (len b_2))).bind fun x_3 =>
  (mac_Tag_it F k_1 b_2 x_3).bind fun o_4 =>
  some o_4

def mac_Derive (F : Nat) (k_1 : Int) (label_2 : List Int) (parts_3 : (List Int)) : Option (Int) :=
  (app 1 ([] : List Int) label_2).bind fun l_4 =>
  (mac_bytes F parts_3).bind fun x_5 =>
  (octets_Join F [l_4, [0], x_5]).bind fun x_6 =>
  (mac_Tag F k_1 x_6).bind fun x_7 =>
  some x_7

def privacy_hash (F : Nat) (irk_1 : Int) (prand_2 : Int) : Option (Int) :=
  (mac_Derive F irk_1 [114, 112, 97] [prand_2]).bind fun x_3 =>
  some (iand .u64 x_3 16777215)

def privacy_Resolves_j1 (F : Nat) (z_5 : Bool) : Option (Bool) :=
  some z_5

def privacy_Resolves (F : Nat) (irk_1 : Int) (a_2 : T_api_Address) : Option (Bool) :=
  (if ((irk_1 == 0) || (a_2.Kind != 3)) = true then
    some (true)
  else
    (address_Check F a_2).bind fun x_10 =>
    some ((x_10 != 0))).bind fun z_4 =>
  if z_4 = true then
    some false
  else
    (privacy_hash F irk_1 (iand .u64 (shrp a_2.Bits 24) 4194303)).bind fun x_8 =>
    privacy_Resolves_j1 F ((iand .u64 a_2.Bits 16777215) == x_8)

def privacy_Find_1 (F : Nat) (id_1 : T_api_Identity) (p_2 : T_api_Address) : Option (Bool × T_api_Address) :=
  (if ((id_1.Address.Kind == p_2.Kind) && (id_1.Address.Bits == p_2.Bits)) = true then
    some (true)
  else
    (privacy_Resolves F id_1.IRK p_2).bind fun x_6 =>
    some (x_6)).bind fun z_4 =>
  some (z_4, p_2)

def slices_IndexFunc_api_Identity_api_Identity_at77_j1 (F : Nat) (c_5 : T_api_Address) : Option (Int × T_api_Address) :=
  some ((-1), c_5)

def slices_IndexFunc_api_Identity_api_Identity_at77_l1 (F : Nat) (s_1 : (List T_api_Identity)) (c_8 : T_api_Address) (x_9 : Int) : Option (Out (T_api_Address × Int) (Sum (T_api_Address) (Int × T_api_Address))) :=
  if (decide (x_9 < (len s_1))) = true then
    (idx s_1 x_9).bind fun x_10 =>
    (privacy_Find_1 F x_10 c_8).bind fun x_11 =>
    if x_11.1 = true then
      some (.done (.inr (x_9, x_11.2)))
    else
      some (.next (x_11.2, w64 (x_9 + 1)))
  else
    some (.done (.inl (c_8)))

def slices_IndexFunc_api_Identity_api_Identity_at77 (F : Nat) (s_1 : (List T_api_Identity)) (c_2 : T_api_Address) : Option (Int × T_api_Address) :=
  (iter (fun s => slices_IndexFunc_api_Identity_api_Identity_at77_l1 F s_1 s.1 s.2) F (c_2, 0)).bind fun o =>
  match o with
  | .inl u => slices_IndexFunc_api_Identity_api_Identity_at77_j1 F u
  | .inr u => some u

def privacy_Find (F : Nat) (list_1 : (List T_api_Identity)) (a_2 : T_api_Address) : Option (Int) :=
  (address_Check F a_2).bind fun x_3 =>
  if (x_3 != 0) = true then
    some (-1)
  else
    (slices_IndexFunc_api_Identity_api_Identity_at77 F list_1 a_2).bind fun x_4 =>
    some x_4.1

def bonds_Find_j1 (F : Nat) (a_2 : T_api_Address) (l_3 : (List T_api_Identity)) : Option (Int) :=
  (privacy_Find F l_3 a_2).bind fun x_4 =>
  some x_4

def bonds_Find_l1 (F : Nat) (l_1 : (List T_api_Bond)) (l_5 : (List T_api_Identity)) (x_6 : Int) : Option (Out ((List T_api_Identity) × Int) ((List T_api_Identity))) :=
  if (decide (x_6 < (len l_1))) = true then
    (idx l_1 x_6).bind fun x_7 =>
    (app 24 l_5 [x_7.Peer]).bind fun l_8 =>
    some (.next (l_8, w64 (x_6 + 1)))
  else
    some (.done (l_5))

def bonds_Find (F : Nat) (l_1 : (List T_api_Bond)) (a_2 : T_api_Address) : Option (Int) :=
  (iter (fun s => bonds_Find_l1 F l_1 s.1 s.2) F ([], 0)).bind fun o =>
  bonds_Find_j1 F a_2 o

def wirelesslaw40_lives_j1 (F : Nat) (z_10 : Bool) : Option (Bool) :=
  some z_10

def wirelesslaw40_lives (F : Nat) : Option (Bool) :=
  (wirelesslaw40_one F 3).bind fun x_1 =>
  (bonds_Encode F x_1).bind fun x_2 =>
  (app 1 ([] : (List Int)) x_2.1).bind fun l_3 =>
  (bonds_Decode F l_3).bind fun x_4 =>
  (wirelesslaw40_one F 3).bind fun x_5 =>
  (wirelesslaw40_one F 7).bind fun x_6 =>
  (wirelesslaw40_one F 5).bind fun x_7 =>
  (bonds_Add F [x_5, x_6] x_7).bind fun x_8 =>
  (bonds_Remove F x_8.1 3).bind fun x_9 =>
  if (((x_2.2 == 0) && ((len x_2.1) == 45)) && (x_4.2 == 0)) = true then
    (wirelesslaw40_one F 3).bind fun x_14 =>
    (wirelessref40_SameBond F x_4.1 x_14).bind fun x_15 =>
    if (((x_15 && (x_8.2.2 == 0)) && (x_8.2.1 == 2)) && ((len x_8.1) == 3)) = true then
      (idx x_8.1 2).bind fun x_17 =>
      if ((x_17.Used == 8) && (x_9.2 == 5)) = true then
        (wirelesslaw40_one F 7).bind fun x_19 =>
        (bonds_Find F x_8.1 x_19.Peer.Address).bind fun x_20 =>
        wirelesslaw40_lives_j1 F (x_20 == 1)
      else
        wirelesslaw40_lives_j1 F false
    else
      if (false && (x_9.2 == 5)) = true then
        (wirelesslaw40_one F 7).bind fun x_22 =>
        (bonds_Find F x_8.1 x_22.Peer.Address).bind fun x_23 =>
        wirelesslaw40_lives_j1 F (x_23 == 1)
      else
        wirelesslaw40_lives_j1 F false
  else
    if (((false && (x_8.2.2 == 0)) && (x_8.2.1 == 2)) && ((len x_8.1) == 3)) = true then
      (idx x_8.1 2).bind fun x_25 =>
      if ((x_25.Used == 8) && (x_9.2 == 5)) = true then
        (wirelesslaw40_one F 7).bind fun x_27 =>
        (bonds_Find F x_8.1 x_27.Peer.Address).bind fun x_28 =>
        wirelesslaw40_lives_j1 F (x_28 == 1)
      else
        wirelesslaw40_lives_j1 F false
    else
      if (false && (x_9.2 == 5)) = true then
        (wirelesslaw40_one F 7).bind fun x_30 =>
        (bonds_Find F x_8.1 x_30.Peer.Address).bind fun x_31 =>
        wirelesslaw40_lives_j1 F (x_31 == 1)
      else
        wirelesslaw40_lives_j1 F false

def wirelessref08_prefix (F : Nat) (kind_1 : Int) : Option (Int) :=
  if (kind_1 == 2) = true then
    some 3
  else
    if (kind_1 == 3) = true then
      some 1
    else
      some 0

def wirelessref08_Check_j2 (F : Nat) (z_4 : Bool) : Option (Int) :=
  if z_4 = true then
    some 1
  else
    some 0

def wirelessref08_Check_j1 (F : Nat) (a_1 : T_api_Address) (x_2 : Int) (x_3 : Int) : Option (Int) :=
  (wirelessref08_prefix F a_1.Kind).bind fun x_7 =>
  wirelessref08_Check_j2 F ((((quop .u64 a_1.Bits 70368744177664) != x_7) || (x_2 == 0)) || (x_2 == x_3))

def wirelessref08_Check (F : Nat) (a_1 : T_api_Address) : Option (Int) :=
  if ((decide (a_1.Kind < 1)) || (decide (a_1.Kind > 4))) = true then
    some 12
  else
    if (decide (a_1.Bits ≥ 281474976710656)) = true then
      some 5
    else
      if (a_1.Kind == 1) = true then
        some 0
      else
        if (a_1.Kind == 3) = true then
          wirelessref08_Check_j1 F a_1 (quop .u64 (remp a_1.Bits 70368744177664) 16777216) 4194303
        else
          wirelessref08_Check_j1 F a_1 (remp a_1.Bits 70368744177664) 70368744177663

def wirelessref40_Check_j1 (F : Nat) : Option (Int) :=
  some 0

def wirelessref40_Check_j2 (F : Nat) (x_3 : Int) (z_5 : Bool) : Option (Out (Int) (Sum (Unit) (Int))) :=
  if z_5 = true then
    some (.done (.inr 13))
  else
    some (.next (w64 (x_3 + 1)))

def wirelessref40_Check_l1 (F : Nat) (b_1 : T_api_Bond) (x_3 : Int) : Option (Out (Int) (Sum (Unit) (Int))) :=
  if (decide (x_3 < (len b_1.Subs))) = true then
    (idx b_1.Subs x_3).bind fun x_4 =>
    if (((x_4.Handle == 0) || (decide (x_4.Bits < 0))) || (decide (x_4.Bits > 3))) = true then
      some (.done (.inr 5))
    else
      if (decide (x_3 > 0)) = true then
        (idx b_1.Subs (w64 (x_3 - 1))).bind fun x_9 =>
        wirelessref40_Check_j2 F x_3 (decide (x_4.Handle ≤ x_9.Handle))
      else
        wirelessref40_Check_j2 F x_3 false
  else
    some (.done (.inl ()))

def wirelessref40_Check (F : Nat) (b_1 : T_api_Bond) : Option (Int) :=
  (wirelessref08_Check F b_1.Peer.Address).bind fun x_2 =>
  if (x_2 != 0) = true then
    some x_2
  else
    if ((b_1.Peer.Address.Kind != 1) && (b_1.Peer.Address.Kind != 2)) = true then
      some 12
    else
      if ((decide (b_1.Used < 0)) || (decide (b_1.Used > 4294967295))) = true then
        some 5
      else
        if (decide ((len b_1.Subs) > 16)) = true then
          some 4
        else
          (iter (fun s => wirelessref40_Check_l1 F b_1 s) F (0)).bind fun o =>
          match o with
          | .inl u => wirelessref40_Check_j1 F
          | .inr u => some u

def wirelessref40_Valid_j1 (F : Nat) (l_1 : (List T_api_Bond)) : Option (Bool) :=
  some (decide ((len l_1) ≤ 16))

def wirelessref40_Valid_j2 (F : Nat) (x_2 : Int) : Option (Out (Int) (Sum (Unit) (Bool))) :=
  some (.next (w64 (x_2 + 1)))

def wirelessref40_Valid_j3 (F : Nat) (x_5 : Int) (z_6 : Bool) : Option (Out (Int) (Sum (Unit) (Bool))) :=
  if z_6 = true then
    some (.done (.inr false))
  else
    some (.next (w64 (x_5 + 1)))

def wirelessref40_Valid_l2 (F : Nat) (l_1 : (List T_api_Bond)) (x_2 : Int) (x_5 : Int) : Option (Out (Int) (Sum (Unit) (Bool))) :=
  if (decide (x_5 < x_2)) = true then
    (idx l_1 x_5).bind fun x_7 =>
    (idx l_1 x_2).bind fun x_8 =>
    wirelessref40_Valid_j3 F x_5 ((x_7.Peer.Address.Kind == x_8.Peer.Address.Kind) && (x_7.Peer.Address.Bits == x_8.Peer.Address.Bits))
  else
    some (.done (.inl ()))

def wirelessref40_Valid_l1 (F : Nat) (l_1 : (List T_api_Bond)) (x_2 : Int) : Option (Out (Int) (Sum (Unit) (Bool))) :=
  if (decide (x_2 < (len l_1))) = true then
    (idx l_1 x_2).bind fun x_3 =>
    (wirelessref40_Check F x_3).bind fun x_4 =>
    if (x_4 != 0) = true then
      some (.done (.inr false))
    else
      (iter (fun s => wirelessref40_Valid_l2 F l_1 x_2 s) F (0)).bind fun o =>
      match o with
      | .inl u => wirelessref40_Valid_j2 F x_2
      | .inr u => some (.done (.inr u))
  else
    some (.done (.inl ()))

def wirelessref40_Valid (F : Nat) (l_1 : (List T_api_Bond)) : Option (Bool) :=
  (iter (fun s => wirelessref40_Valid_l1 F l_1 s) F (0)).bind fun o =>
  match o with
  | .inl u => wirelessref40_Valid_j1 F l_1
  | .inr u => some u

def wirelessref40_Copy_j1 (F : Nat) (l_2 : (List T_api_Bond)) : Option ((List T_api_Bond)) :=
  some l_2

def wirelessref40_Copy_l1 (F : Nat) (l_1 : (List T_api_Bond)) (l_3 : (List T_api_Bond)) (x_4 : Int) : Option (Out ((List T_api_Bond) × Int) ((List T_api_Bond))) :=
  if (decide (x_4 < (len l_1))) = true then
    (idx l_1 x_4).bind fun x_5 =>
    (app 16 ([] : (List T_api_Subscription)) x_5.Subs).bind fun l_6 =>
    (app 96 l_3 [{ x_5 with Subs := l_6 }]).bind fun l_7 =>
    some (.next (l_7, w64 (x_4 + 1)))
  else
    some (.done (l_3))

def wirelessref40_Copy (F : Nat) (l_1 : (List T_api_Bond)) : Option ((List T_api_Bond)) :=
  (iter (fun s => wirelessref40_Copy_l1 F l_1 s.1 s.2) F (([] : (List T_api_Bond)), 0)).bind fun o =>
  wirelessref40_Copy_j1 F o

def wirelessref40_recent_j3 (F : Nat) (l_5 : (List T_api_Bond)) : Option ((List T_api_Bond) × Int) :=
  some (l_5, len l_5)

def wirelessref40_recent_l1 (F : Nat) (l_4 : (List Int)) (l_6 : (List T_api_Bond)) (x_7 : Int) : Option (Out ((List T_api_Bond) × Int) ((List T_api_Bond))) :=
  if (decide (x_7 < (len l_6))) = true then
    (idx l_4 x_7).bind fun x_8 =>
    (idx l_6 x_7).bind fun x_9 =>
    (upd l_6 x_7 ({ x_9 with Used := x_8 })).bind fun l_10 =>
    some (.next (l_10, w64 (x_7 + 1)))
  else
    some (.done (l_6))

def wirelessref40_recent_j2 (F : Nat) (x_2 : (List T_api_Bond)) (l_4 : (List Int)) : Option ((List T_api_Bond) × Int) :=
  (iter (fun s => wirelessref40_recent_l1 F l_4 s.1 s.2) F (x_2, 0)).bind fun o =>
  wirelessref40_recent_j3 F o

def wirelessref40_recent_j4 (F : Nat) (x_12 : Int) (l_13 : (List Int)) : Option (Out ((List Int) × Int) ((List Int))) :=
  some (.next (l_13, w64 (x_12 + 1)))

def wirelessref40_recent_j5 (F : Nat) (l_11 : (List Int)) (x_12 : Int) (x_14 : Int) : Option (Out ((List Int) × Int) ((List Int))) :=
  (app 8 l_11 [x_14]).bind fun l_15 =>
  wirelessref40_recent_j4 F x_12 l_15

def wirelessref40_recent_j6 (F : Nat) (x_17 : Int) (x_18 : Int) : Option (Out (Int × Int) (Int)) :=
  some (.next (x_18, w64 (x_17 + 1)))

def wirelessref40_recent_j7 (F : Nat) (x_16 : Int) (x_17 : Int) (z_19 : Bool) : Option (Out (Int × Int) (Int)) :=
  if z_19 = true then
    wirelessref40_recent_j6 F x_17 (w64 (x_16 + 1))
  else
    wirelessref40_recent_j6 F x_17 x_16

def wirelessref40_recent_l3 (F : Nat) (x_2 : (List T_api_Bond)) (x_12 : Int) (x_16 : Int) (x_17 : Int) : Option (Out (Int × Int) (Int)) :=
  if (decide (x_17 < (len x_2))) = true then
    (idx x_2 x_17).bind fun x_182 =>
    (idx x_2 x_17).bind fun x_342 =>
    (idx x_2 x_12).bind fun x_582 =>
    (idx x_2 x_12).bind fun x_742 =>
    if (decide (x_342.Used < x_742.Used)) = true then
      wirelessref40_recent_j7 F x_16 x_17 true
    else
      (idx x_2 x_17).bind fun x_3543 =>
      (idx x_2 x_17).bind fun x_3703 =>
      (idx x_2 x_12).bind fun x_3943 =>
      (idx x_2 x_12).bind fun x_4103 =>
      wirelessref40_recent_j7 F x_16 x_17 ((x_3703.Used == x_4103.Used) && (decide (x_17 < x_12)))
  else
    some (.done (x_16))

def wirelessref40_recent_l2 (F : Nat) (x_2 : (List T_api_Bond)) (l_11 : (List Int)) (x_12 : Int) : Option (Out ((List Int) × Int) ((List Int))) :=
  if (decide (x_12 < (len x_2))) = true then
    (iter (fun s => wirelessref40_recent_l3 F x_2 x_12 s.1 s.2) F (0, 0)).bind fun o =>
    wirelessref40_recent_j5 F l_11 x_12 o
  else
    some (.done (l_11))

def wirelessref40_recent_j1 (F : Nat) (x_2 : (List T_api_Bond)) (x_3 : Int) : Option ((List T_api_Bond) × Int) :=
  if ((len x_2) == 0) = true then
    some (x_2, 1)
  else
    if (decide (x_3 < 4294967295)) = true then
      some (x_2, w64 (x_3 + 1))
    else
      (iter (fun s => wirelessref40_recent_l2 F x_2 s.1 s.2) F (([] : (List Int)), 0)).bind fun o =>
      wirelessref40_recent_j2 F x_2 o

def wirelessref40_recent_l4 (F : Nat) (x_2 : (List T_api_Bond)) (x_4823 : Int) (x_4824 : Int) : Option (Out (Int × Int) (Int)) :=
  if (decide (x_4824 < (len x_2))) = true then
    (idx x_2 x_4824).bind fun x_4825 =>
    some (.next (imax x_4823 x_4825.Used, w64 (x_4824 + 1)))
  else
    some (.done (x_4823))

def wirelessref40_recent (F : Nat) (l_1 : (List T_api_Bond)) : Option ((List T_api_Bond) × Int) :=
  (wirelessref40_Copy F l_1).bind fun x_2 =>
  (iter (fun s => wirelessref40_recent_l4 F x_2 s.1 s.2) F (0, 0)).bind fun o =>
  wirelessref40_recent_j1 F x_2 o

def wirelessref40_Add_j1 (F : Nat) (x_6 : (List T_api_Bond) × Int) (x_8 : T_api_Bond) (x_9 : Int) : Option ((List T_api_Bond) × Int × Int) :=
  if (decide ((len x_6.1) < 16)) = true then
    (app 96 x_6.1 [{ x_8 with Used := x_6.2 }]).bind fun l_10 =>
    some (l_10, len (lens x_6.1), 0)
  else
    (idx x_6.1 x_9).bind fun x_11 =>
    (upd x_6.1 x_9 ({ x_8 with Used := x_6.2 })).bind fun l_12 =>
    some (l_12, x_9, 0)

def wirelessref40_Add_j2 (F : Nat) (x_14 : Int) (x_15 : Int) : Option (Out (Int × Int) (Sum (Int) ((List T_api_Bond) × Int × Int))) :=
  some (.next (x_15, w64 (x_14 + 1)))

def wirelessref40_Add_j4 (F : Nat) (x_13 : Int) (x_14 : Int) (z_19 : Bool) : Option (Out (Int × Int) (Sum (Int) ((List T_api_Bond) × Int × Int))) :=
  if z_19 = true then
    wirelessref40_Add_j2 F x_14 x_14
  else
    wirelessref40_Add_j2 F x_14 x_13

def wirelessref40_Add_j3 (F : Nat) (x_6 : (List T_api_Bond) × Int) (x_8 : T_api_Bond) (x_13 : Int) (x_14 : Int) (z_16 : Bool) : Option (Out (Int × Int) (Sum (Int) ((List T_api_Bond) × Int × Int))) :=
  if z_16 = true then
    (idx x_6.1 x_14).bind fun x_17 =>
    (upd x_6.1 x_14 ({ x_8 with Used := x_6.2 })).bind fun l_18 =>
    some (.done (.inr (l_18, x_14, 0)))
  else
    (idx x_6.1 x_14).bind fun x_182 =>
    (idx x_6.1 x_14).bind fun x_342 =>
    (idx x_6.1 x_13).bind fun x_582 =>
    (idx x_6.1 x_13).bind fun x_742 =>
    wirelessref40_Add_j4 F x_13 x_14 (decide (x_342.Used < x_742.Used))

def wirelessref40_Add_l1 (F : Nat) (x_6 : (List T_api_Bond) × Int) (x_8 : T_api_Bond) (x_13 : Int) (x_14 : Int) : Option (Out (Int × Int) (Sum (Int) ((List T_api_Bond) × Int × Int))) :=
  if (decide (x_14 < (len x_6.1))) = true then
    (idx x_6.1 x_14).bind fun x_984 =>
    wirelessref40_Add_j3 F x_6 x_8 x_13 x_14 ((x_984.Peer.Address.Kind == x_8.Peer.Address.Kind) && (x_984.Peer.Address.Bits == x_8.Peer.Address.Bits))
  else
    some (.done (.inl (x_13)))

def wirelessref40_Add (F : Nat) (l_1 : (List T_api_Bond)) (b_2 : T_api_Bond) : Option ((List T_api_Bond) × Int × Int) :=
  if (decide ((len l_1) > 16)) = true then
    (wirelessref40_Copy F l_1).bind fun x_3 =>
    some (x_3, 0, 4)
  else
    (wirelessref40_Check F b_2).bind fun x_4 =>
    if (x_4 != 0) = true then
      (wirelessref40_Copy F l_1).bind fun x_5 =>
      some (x_5, 0, x_4)
    else
      (wirelessref40_recent F l_1).bind fun x_6 =>
      (wirelessref40_Copy F [b_2]).bind fun x_7 =>
      (idx x_7 0).bind fun x_8 =>
      (iter (fun s => wirelessref40_Add_l1 F x_6 x_8 s.1 s.2) F (0, 0)).bind fun o =>
      match o with
      | .inl u => wirelessref40_Add_j1 F x_6 x_8 u
      | .inr u => some u

def wirelessref40_Remove_j1 (F : Nat) (l_5 : (List T_api_Bond)) : Option ((List T_api_Bond) × Int) :=
  some (l_5, 0)

def wirelessref40_Remove (F : Nat) (l_1 : (List T_api_Bond)) (i_2 : Int) : Option ((List T_api_Bond) × Int) :=
  if ((decide (i_2 < 0)) || (decide (i_2 ≥ (len l_1)))) = true then
    (wirelessref40_Copy F l_1).bind fun x_3 =>
    some (x_3, 5)
  else
    (wirelessref40_Copy F l_1).bind fun x_4 =>
    (sub x_4 0 i_2).bind fun l_8 =>
    (sub x_4 (w64 (i_2 + 1)) (len x_4)).bind fun l_9 =>
    (app 96 l_8 l_9).bind fun l_10 =>
    wirelessref40_Remove_j1 F l_10

def wirelessref40_Same_j1 (F : Nat) : Option (Bool) :=
  some true

def wirelessref40_Same_j2 (F : Nat) (x_3 : Int) (z_4 : Bool) : Option (Out (Int) (Sum (Unit) (Bool))) :=
  if z_4 = true then
    some (.done (.inr false))
  else
    some (.next (w64 (x_3 + 1)))

def wirelessref40_Same_l1 (F : Nat) (a_1 : (List T_api_Bond)) (b_2 : (List T_api_Bond)) (x_3 : Int) : Option (Out (Int) (Sum (Unit) (Bool))) :=
  if (decide (x_3 < (len a_1))) = true then
    (idx a_1 x_3).bind fun x_5 =>
    (idx b_2 x_3).bind fun x_6 =>
    (wirelessref40_SameBond F x_5 x_6).bind fun x_9 =>
    wirelessref40_Same_j2 F x_3 (!x_9)
  else
    some (.done (.inl ()))

def wirelessref40_Same (F : Nat) (a_1 : (List T_api_Bond)) (b_2 : (List T_api_Bond)) : Option (Bool) :=
  if ((len a_1) != (len b_2)) = true then
    some false
  else
    (iter (fun s => wirelessref40_Same_l1 F a_1 b_2 s) F (0)).bind fun o =>
    match o with
    | .inl u => wirelessref40_Same_j1 F
    | .inr u => some u

def bonds_Touch (F : Nat) (l_1 : (List T_api_Bond)) (i_2 : Int) : Option ((List T_api_Bond)) :=
  if ((decide (i_2 < 0)) || (decide (i_2 ≥ (len l_1)))) = true then
    (bonds_clone F l_1).bind fun x_3 =>
    some x_3
  else
    (bonds_next F l_1).bind fun x_4 =>
    (idx x_4.1 i_2).bind fun x_5 =>
    (upd x_4.1 i_2 ({ x_5 with Used := x_4.2 })).bind fun l_6 =>
    some l_6

def wirelessref40_Touch (F : Nat) (l_1 : (List T_api_Bond)) (i_2 : Int) : Option ((List T_api_Bond)) :=
  if ((decide (i_2 < 0)) || (decide (i_2 ≥ (len l_1)))) = true then
    (wirelessref40_Copy F l_1).bind fun x_3 =>
    some x_3
  else
    (wirelessref40_recent F l_1).bind fun x_4 =>
    (idx x_4.1 i_2).bind fun x_5 =>
    (upd x_4.1 i_2 ({ x_5 with Used := x_4.2 })).bind fun l_6 =>
    some l_6

def wirelessref02_Num_j1 (F : Nat) (l_3 : (List Int)) : Option ((List Int)) :=
  some l_3

def wirelessref02_Num_l1 (F : Nat) (size_1 : Int) (x_4 : Int) (l_5 : (List Int)) (x_6 : Int) : Option (Out (Int × (List Int) × Int) ((List Int))) :=
  if (decide (x_6 < size_1)) = true then
    (app 1 l_5 [wu8 (remp x_4 256)]).bind fun l_7 =>
    some (.next ((quop .u64 x_4 256), l_7, w64 (x_6 + 1)))
  else
    some (.done (l_5))

def wirelessref02_Num (F : Nat) (size_1 : Int) (v_2 : Int) : Option ((List Int)) :=
  (iter (fun s => wirelessref02_Num_l1 F size_1 s.1 s.2.1 s.2.2) F (v_2, ([] : (List Int)), 0)).bind fun o =>
  wirelessref02_Num_j1 F o

def wirelessref05_Low_j1 (F : Nat) (x_3 : Int) : Option (Int) :=
  some (wu32 (remp x_3 4294967296))

def wirelessref05_Low (F : Nat) (k_1 : Int) (i_2 : Int) : Option (Int) :=
  if (decide ((remp (w64 ((w64 ((remp i_2 64) + 64)) * 11)) 64) > 0)) = true then
    (ishl .u64 k_1 (remp (w64 ((w64 ((remp i_2 64) + 64)) * 11)) 64)).bind fun x_6 =>
    (ishr .u64 k_1 (w64 (64 - (remp (w64 ((w64 ((remp i_2 64) + 64)) * 11)) 64)))).bind fun x_7 =>
    wirelessref05_Low_j1 F (ior .u64 x_6 x_7)
  else
    wirelessref05_Low_j1 F k_1

def wirelessref05_Turn_j1 (F : Nat) (x_3 : Int) : Option (Int) :=
  some x_3

def wirelessref05_Turn (F : Nat) (x_1 : Int) (n_2 : Int) : Option (Int) :=
  (ishl .u32 x_1 n_2).bind fun x_6 =>
  (ishr .u32 x_1 (w64 (32 - n_2))).bind fun x_7 =>
  wirelessref05_Turn_j1 F (ior .u32 x_6 x_7)

def wirelessref05_Round (F : Nat) (k_1 : Int) (i_2 : Int) (half_3 : Int) : Option (Int) :=
  (wirelessref05_Low F k_1 i_2).bind fun x_4 =>
  (wirelessref05_Turn F (wu32 (half_3 + x_4)) 7).bind fun x_5 =>
  (wirelessref05_Turn F x_4 16).bind fun x_6 =>
  some (ixor .u32 (wu32 (x_5 * 2654435761)) x_6)

def wirelessref05_Mix_j1 (F : Nat) (x_3 : Int) (x_4 : Int) : Option (Int) :=
  some (wu64 ((wu64 ((wu64 x_3) * 4294967296)) + (wu64 x_4)))

def wirelessref05_Mix_l1 (F : Nat) (k_1 : Int) (x_5 : Int) (x_6 : Int) (x_7 : Int) : Option (Out (Int × Int × Int) (Int × Int)) :=
  if (decide (x_7 < 8)) = true then
    (wirelessref05_Round F k_1 x_7 x_6).bind fun x_8 =>
    some (.next (x_6, ixor .u32 x_5 x_8, w64 (x_7 + 1)))
  else
    some (.done (x_5, x_6))

def wirelessref05_Mix (F : Nat) (k_1 : Int) (x_2 : Int) : Option (Int) :=
  (iter (fun s => wirelessref05_Mix_l1 F k_1 s.1 s.2.1 s.2.2) F (wu32 (quop .u64 x_2 4294967296), wu32 (remp x_2 4294967296), 0)).bind fun o =>
  wirelessref05_Mix_j1 F o.1 o.2

def wirelessref02_Value_j1 (F : Nat) (x_2 : Int) : Option (Int) :=
  some x_2

def wirelessref02_Value_l1 (F : Nat) (b_1 : (List Int)) (x_3 : Int) (x_4 : Int) : Option (Out (Int × Int) (Int)) :=
  if (decide (x_4 ≥ 0)) = true then
    (idx b_1 x_4).bind fun x_5 =>
    some (.next (wu64 ((wu64 (x_3 * 256)) + (wu64 x_5)), w64 (x_4 - 1)))
  else
    some (.done (x_3))

def wirelessref02_Value (F : Nat) (b_1 : (List Int)) : Option (Int) :=
  (iter (fun s => wirelessref02_Value_l1 F b_1 s.1 s.2) F (0, w64 ((len b_1) - 1))).bind fun o =>
  wirelessref02_Value_j1 F o

def wirelessref06_Tag_j1 (F : Nat) (x_4 : Int) : Option (Int) :=
  some x_4

def wirelessref06_Tag_l1 (F : Nat) (k_1 : Int) (b_2 : (List Int)) (x_5 : Int) (x_6 : Int) : Option (Out (Int × Int) (Int)) :=
  if (decide (x_6 < (len b_2))) = true then
    (sub b_2 x_6 (imin (w64 (x_6 + 8)) (len b_2))).bind fun l_7 =>
    (wirelessref02_Value F l_7).bind fun x_8 =>
    (wirelessref05_Mix F k_1 (ixor .u64 x_5 x_8)).bind fun x_9 =>
    some (.next (x_9, w64 (x_6 + 8)))
  else
    some (.done (x_5))

def wirelessref06_Tag (F : Nat) (k_1 : Int) (b_2 : (List Int)) : Option (Int) :=
  (wirelessref05_Mix F k_1 (wu64 (len b_2))).bind fun x_3 =>
  (iter (fun s => wirelessref06_Tag_l1 F k_1 b_2 s.1 s.2) F (x_3, 0)).bind fun o =>
  wirelessref06_Tag_j1 F o

def wirelessref06_Derive_j1 (F : Nat) (k_1 : Int) (l_6 : (List Int)) : Option (Int) :=
  (wirelessref06_Tag F k_1 l_6).bind fun x_7 =>
  some x_7

def wirelessref06_Derive_l1 (F : Nat) (parts_3 : (List Int)) (l_8 : (List Int)) (x_9 : Int) : Option (Out ((List Int) × Int) ((List Int))) :=
  if (decide (x_9 < (len parts_3))) = true then
    (idx parts_3 x_9).bind fun x_10 =>
    (wirelessref02_Num F 8 x_10).bind fun x_11 =>
    (app 1 l_8 x_11).bind fun l_12 =>
    some (.next (l_12, w64 (x_9 + 1)))
  else
    some (.done (l_8))

def wirelessref06_Derive (F : Nat) (k_1 : Int) (label_2 : List Int) (parts_3 : (List Int)) : Option (Int) :=
  (app 1 ([] : List Int) label_2).bind fun l_4 =>
  (app 1 l_4 [0]).bind fun l_5 =>
  (iter (fun s => wirelessref06_Derive_l1 F parts_3 s.1 s.2) F (l_5, 0)).bind fun o =>
  wirelessref06_Derive_j1 F k_1 o

def wirelessref09_Hash (F : Nat) (irk_1 : Int) (prand_2 : Int) : Option (Int) :=
  (wirelessref06_Derive F irk_1 [114, 112, 97] [prand_2]).bind fun x_3 =>
  some (remp x_3 16777216)

def wirelessref09_Resolves_j1 (F : Nat) (z_5 : Bool) : Option (Bool) :=
  some z_5

def wirelessref09_Resolves (F : Nat) (irk_1 : Int) (a_2 : T_api_Address) : Option (Bool) :=
  (if ((irk_1 == 0) || (a_2.Kind != 3)) = true then
    some (true)
  else
    (wirelessref08_Check F a_2).bind fun x_10 =>
    some ((x_10 != 0))).bind fun z_4 =>
  if z_4 = true then
    some false
  else
    (wirelessref09_Hash F irk_1 (remp (quop .u64 a_2.Bits 16777216) 4194304)).bind fun x_8 =>
    wirelessref09_Resolves_j1 F ((remp a_2.Bits 16777216) == x_8)

def wirelessref09_Find_j1 (F : Nat) : Option (Int) :=
  some (-1)

def wirelessref09_Find_j2 (F : Nat) (x_4 : Int) (z_5 : Bool) : Option (Out (Int) (Sum (Unit) (Int))) :=
  if z_5 = true then
    some (.done (.inr x_4))
  else
    some (.next (w64 (x_4 + 1)))

def wirelessref09_Find_l1 (F : Nat) (list_1 : (List T_api_Identity)) (a_2 : T_api_Address) (x_4 : Int) : Option (Out (Int) (Sum (Unit) (Int))) :=
  if (decide (x_4 < (len list_1))) = true then
    (idx list_1 x_4).bind fun x_6 =>
    if ((x_6.Address.Kind == a_2.Kind) && (x_6.Address.Bits == a_2.Bits)) = true then
      wirelessref09_Find_j2 F x_4 true
    else
      (idx list_1 x_4).bind fun x_10 =>
      (wirelessref09_Resolves F x_10.IRK a_2).bind fun x_11 =>
      wirelessref09_Find_j2 F x_4 x_11
  else
    some (.done (.inl ()))

def wirelessref09_Find (F : Nat) (list_1 : (List T_api_Identity)) (a_2 : T_api_Address) : Option (Int) :=
  (wirelessref08_Check F a_2).bind fun x_3 =>
  if (x_3 != 0) = true then
    some (-1)
  else
    (iter (fun s => wirelessref09_Find_l1 F list_1 a_2 s) F (0)).bind fun o =>
    match o with
    | .inl u => wirelessref09_Find_j1 F
    | .inr u => some u

def wirelessref40_Find_j1 (F : Nat) (a_2 : T_api_Address) (l_3 : (List T_api_Identity)) : Option (Int) :=
  (wirelessref09_Find F l_3 a_2).bind fun x_4 =>
  some x_4

def wirelessref40_Find_l1 (F : Nat) (l_1 : (List T_api_Bond)) (l_5 : (List T_api_Identity)) (x_6 : Int) : Option (Out ((List T_api_Identity) × Int) ((List T_api_Identity))) :=
  if (decide (x_6 < (len l_1))) = true then
    (idx l_1 x_6).bind fun x_7 =>
    (app 24 l_5 [x_7.Peer]).bind fun l_8 =>
    some (.next (l_8, w64 (x_6 + 1)))
  else
    some (.done (l_5))

def wirelessref40_Find (F : Nat) (l_1 : (List T_api_Bond)) (a_2 : T_api_Address) : Option (Int) :=
  (iter (fun s => wirelessref40_Find_l1 F l_1 s.1 s.2) F (([] : (List T_api_Identity)), 0)).bind fun o =>
  wirelessref40_Find_j1 F a_2 o

def wirelesslaw40_BondsChanges_j2 (F : Nat) (z_14 : Bool) : Option (Bool) :=
  some z_14

def wirelesslaw40_BondsChanges_j1 (F : Nat) (l_1 : (List T_api_Bond)) (b_2 : T_api_Bond) (a_3 : T_api_Address) (i_4 : Int) (l_7 : (List T_api_Bond)) (x_8 : Int) (x_9 : Int) : Option (Bool) :=
  (wirelessref40_Add F l_1 b_2).bind fun x_10 =>
  (wirelessref40_Copy F l_1).bind fun x_11 =>
  (bonds_Remove F x_11 i_4).bind fun x_12 =>
  (wirelessref40_Remove F l_1 i_4).bind fun x_13 =>
  if ((x_9 == x_10.2.2) && (x_8 == x_10.2.1)) = true then
    (wirelessref40_Same F l_7 x_10.1).bind fun x_18 =>
    if (x_18 && (x_12.2 == x_13.2)) = true then
      (wirelessref40_Same F x_12.1 x_13.1).bind fun x_20 =>
      if x_20 = true then
        (wirelessref40_Copy F l_1).bind fun x_22 =>
        (bonds_Touch F x_22 i_4).bind fun x_23 =>
        (wirelessref40_Touch F l_1 i_4).bind fun x_24 =>
        (wirelessref40_Same F x_23 x_24).bind fun x_25 =>
        if x_25 = true then
          (wirelessref40_Copy F l_1).bind fun x_27 =>
          (bonds_Find F x_27 a_3).bind fun x_28 =>
          (wirelessref40_Find F l_1 a_3).bind fun x_29 =>
          wirelesslaw40_BondsChanges_j2 F (x_28 == x_29)
        else
          wirelesslaw40_BondsChanges_j2 F false
      else
        wirelesslaw40_BondsChanges_j2 F false
    else
      wirelesslaw40_BondsChanges_j2 F false
  else
    if (false && (x_12.2 == x_13.2)) = true then
      (wirelessref40_Same F x_12.1 x_13.1).bind fun x_31 =>
      if x_31 = true then
        (wirelessref40_Copy F l_1).bind fun x_33 =>
        (bonds_Touch F x_33 i_4).bind fun x_34 =>
        (wirelessref40_Touch F l_1 i_4).bind fun x_35 =>
        (wirelessref40_Same F x_34 x_35).bind fun x_36 =>
        if x_36 = true then
          (wirelessref40_Copy F l_1).bind fun x_38 =>
          (bonds_Find F x_38 a_3).bind fun x_39 =>
          (wirelessref40_Find F l_1 a_3).bind fun x_40 =>
          wirelesslaw40_BondsChanges_j2 F (x_39 == x_40)
        else
          wirelesslaw40_BondsChanges_j2 F false
      else
        wirelesslaw40_BondsChanges_j2 F false
    else
      wirelesslaw40_BondsChanges_j2 F false

def wirelesslaw40_BondsChanges (F : Nat) (l_1 : (List T_api_Bond)) (b_2 : T_api_Bond) (a_3 : T_api_Address) (i_4 : Int) : Option (Bool) :=
  (wirelesslaw40_lives F).bind fun x_5 =>
  if (!x_5) = true then
    some false
  else
    (wirelessref40_Valid F l_1).bind fun x_6 =>
    if ((!x_6) || (decide ((len b_2.Subs) > 64))) = true then
      some true
    else
      (wirelessref40_Copy F l_1).bind fun x_123 =>
      (wirelessref40_Copy F [b_2]).bind fun x_363 =>
      (idx x_363 0).bind fun x_443 =>
      (idx x_363 0).bind fun x_523 =>
      (bonds_Add F x_123 x_523).bind fun x_603 =>
      wirelesslaw40_BondsChanges_j1 F l_1 b_2 a_3 i_4 x_603.1 x_603.2.1 x_603.2.2

end V
end Go.Proofs.YtbdhonofhlpdoaaDoor
