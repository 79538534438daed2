/- Pure twins of the Go functions, written by program. -/
import Derived.Test.YtbdhonofhlpdoaaDoorPure
namespace Go.Proofs.YtbdhonofhlpdoaaDoor
namespace V
structure T_Address where
  Kind:Int
  Bits:Int
structure T_Identity where
  Address:T_Address
  IRK:Int
structure T_Subscription where
  Handle:Int
  Bits:Int
structure T_Bond where
  Peer:T_Identity
  LTK:Int
  Mark:Int
  Strong:Bool
  Hash:Int
  Aware:Bool
  Subs:(List T_Subscription)
  Used:Int
structure T_wirelesslaw40_Step where
  Kind:Int
  Bond:T_Bond
  Index:Int
  Cut:Int
structure T_Field where
  Size:Int
  Value:Int
structure T_Flash where
  Banks:((List Int)×(List Int))
structure T_Item where
  Key:Int
  Value:(List Int)
structure T_Store where
  Flash:T_Flash
  Bank:Int
  Count:Int
  End:Int
  Items:(List T_Item)
structure T_Write where
  Bank:Int
  Erase:Bool
  Offset:Int
  Bytes:(List Int)
def wirelesslaw40_one (_:Nat) (n_1:Int):Option (T_Bond):=
  some (T_Bond.mk (T_Identity.mk (T_Address.mk 1 n_1) 9) 7 0 false 0 false [] (w64 n_1))
def address_mask (_:Nat) (bits_1:Int):Option (Int):=
  (ishl .u64 1 bits_1).bind fun x_2=>
  some (wu64 (x_2 - 1))
def address_part_j1 (_:Nat) (x_2:Int):Option (Int×Int):=
  some (x_2,22)
def address_part_j2 (_:Nat) (x_6:Int):Option (Int×Int):=
  some (x_6,46)
def address_part (F:Nat) (a_1:T_Address):Option (Int×Int):=
  if (a_1.Kind == 3)=true then
    (address_mask F 22).bind fun x_5=>
    address_part_j1 F (iand .u64 (shrp a_1.Bits 24) x_5)
  else
    (address_mask F 46).bind fun x_9=>
    address_part_j2 F (iand .u64 a_1.Bits x_9)
def address_Check_j1 (_:Nat) (z_3:Bool):Option (Int):=
  if z_3=true then
    some 1
  else
    some 0
def address_Check (F:Nat) (a_1:T_Address):Option (Int):=
  if ((decide (a_1.Kind≤0))||(decide (a_1.Kind≥5)))=true then
    some 12
  else
    if ((shrp a_1.Bits 48) != 0)=true then
      some 5
    else
      if (a_1.Kind == 1)=true then
        some 0
      else
        (address_part F a_1).bind fun x_2=>
        (idx [0,0,3,1,0] a_1.Kind).bind fun x_6=>
        if (((shrp a_1.Bits 46) != x_6)||(x_2.1 == 0))=true then
          address_Check_j1 F true
        else
          (address_mask F x_2.2).bind fun x_8=>
          address_Check_j1 F (x_2.1 == x_8)
def bonds_Check_j1 (_:Nat):Option (Int):=
  some 0
def bonds_Check_j2 (_:Nat) (x_3:Int) (z_5:Bool):Option (Out (Int) (Sum (Unit) (Int))):=
  if z_5=true then
    some (.done (.inr 13))
  else
    some (.next (w64 (x_3+1)))
def bonds_Check_l1 (F:Nat) (b_1:T_Bond) (x_3:Int):Option (Out (Int) (Sum (Unit) (Int))):=
  if (decide (x_3<(len b_1.Subs)))=true then
    (idx b_1.Subs x_3).bind fun x_4=>
    if (((x_4.Handle == 0)||(decide (x_4.Bits<0)))||(decide (x_4.Bits > 3)))=true then
      some (.done (.inr 5))
    else
      if (decide (x_3 > 0))=true then
        (idx b_1.Subs (w64 (x_3 - 1))).bind fun x_9=>
        bonds_Check_j2 F x_3 (decide (x_4.Handle≤x_9.Handle))
      else
        bonds_Check_j2 F x_3 false
  else
    some (.done (.inl ()))
def bonds_Check (F:Nat) (b_1:T_Bond):Option (Int):=
  (address_Check F b_1.Peer.Address).bind fun x_2=>
  if (x_2 != 0)=true then
    some x_2
  else
    if ((b_1.Peer.Address.Kind != 1)&&(b_1.Peer.Address.Kind != 2))=true then
      some 12
    else
      if ((decide (b_1.Used<0))||(decide (b_1.Used > 4294967295)))=true then
        some 5
      else
        if (decide ((len b_1.Subs) > 16))=true then
          some 4
        else
          (iter (fun s=>bonds_Check_l1 F b_1 s) F (0)).bind fun o=>
          match o with
          | .inl _=>bonds_Check_j1 F
          | .inr u=>some u
def octets_sized (_:Nat) (n_1:Int):Option (Bool):=
  some ((decide (n_1≥1))&&(decide (n_1≤8)))
def octets_Put_j1 (_:Nat) (l_2:(List Int)):Option ((List Int)×Int):=
  some (l_2,0)
def octets_Put_j2 (_:Nat) (x_4:Int) (l_5:(List Int)):Option (Out ((List Int)×Int) (Sum ((List Int)) ((List Int)×Int))):=
  some (.next (l_5,w64 (x_4+1)))
def octets_Put_l2 (_:Nat) (x_6:T_Field) (l_10:(List Int)) (x_11:Int):Option (Out ((List Int)×Int) ((List Int))):=
  if (decide (x_11<x_6.Size))=true then
    (ishr .u64 x_6.Value (w64 (8 * x_11))).bind fun x_12=>
    (app 1 l_10 [wu8 x_12]).bind fun l_13=>
    some (.next (l_13,w64 (x_11+1)))
  else
    some (.done (l_10))
def octets_Put_l1 (F:Nat) (fields_1:(List T_Field)) (l_3:(List Int)) (x_4:Int):Option (Out ((List Int)×Int) (Sum ((List Int)) ((List Int)×Int))):=
  if (decide (x_4<(len fields_1)))=true then
    (idx fields_1 x_4).bind fun x_6=>
    (octets_sized F x_6.Size).bind fun x_7=>
    (if (!x_7)=true then
      some (true)
    else
      if (decide (x_6.Size<8))=true then
        (ishr .u64 x_6.Value (w64 (8 * x_6.Size))).bind fun x_16=>
        some ((x_16 != 0))
      else
        some (false)).bind fun z_9=>
    if z_9=true then
      some (.done (.inr ([],5)))
    else
      (iter (fun s=>octets_Put_l2 F x_6 s.1 s.2) F (l_3,0)).bind fun o=>
      octets_Put_j2 F x_4 o
  else
    some (.done (.inl (l_3)))
def octets_Put (F:Nat) (fields_1:(List T_Field)):Option ((List Int)×Int):=
  (iter (fun s=>octets_Put_l1 F fields_1 s.1 s.2) F ([],0)).bind fun o=>
  match o with
  | .inl u=>octets_Put_j1 F u
  | .inr u=>some u
def address_Encode (F:Nat) (a_1:T_Address):Option ((List Int)×Int):=
  (address_Check F a_1).bind fun x_2=>
  if (x_2 != 0)=true then
    some ([],x_2)
  else
    (octets_Put F [(T_Field.mk 1 (wu64 a_1.Kind)),(T_Field.mk 6 a_1.Bits)]).bind fun x_3=>
    some (x_3.1,x_3.2)
def bonds_Encode_1 (_:Nat) (size_1:Int) (n_2:Int):Option (T_Field):=
  some (T_Field.mk size_1 n_2)
def bonds_flags_j2 (_:Nat) (x_3:Int):Option (Int):=
  some x_3
def bonds_flags_j1 (F:Nat) (b_1:T_Bond) (x_2:Int):Option (Int):=
  if b_1.Aware=true then
    bonds_flags_j2 F (wu64 (x_2+2))
  else
    bonds_flags_j2 F x_2
def bonds_flags (F:Nat) (b_1:T_Bond):Option (Int):=
  if b_1.Strong=true then
    bonds_flags_j1 F b_1 1
  else
    bonds_flags_j1 F b_1 0
def octets_Join_j1 (_:Nat) (l_2:(List Int)):Option ((List Int)):=
  some l_2
def octets_Join_l1 (_:Nat) (parts_1:(List (List Int))) (l_3:(List Int)) (x_4:Int):Option (Out ((List Int)×Int) ((List Int))):=
  if (decide (x_4<(len parts_1)))=true then
    (idx parts_1 x_4).bind fun x_5=>
    (app 1 l_3 x_5).bind fun l_6=>
    some (.next (l_6,w64 (x_4+1)))
  else
    some (.done (l_3))
def octets_Join (F:Nat) (parts_1:(List (List Int))):Option ((List Int)):=
  (iter (fun s=>octets_Join_l1 F parts_1 s.1 s.2) F ([],0)).bind fun o=>
  octets_Join_j1 F o
def bonds_Encode_j2 (F:Nat) (x_3:(List Int)×Int) (l_5:(List T_Field)):Option ((List Int)×Int):=
  (octets_Put F l_5).bind fun x_6=>
  if (x_6.2 != 0)=true then
    some ([],x_6.2)
  else
    (octets_Join F [x_3.1,x_6.1]).bind fun x_7=>
    some (x_7,0)
def bonds_Encode_l1 (F:Nat) (b_1:T_Bond) (l_8:(List T_Field)) (x_9:Int):Option (Out ((List T_Field)×Int) ((List T_Field))):=
  if (decide (x_9<(len b_1.Subs)))=true then
    (idx b_1.Subs x_9).bind fun x_10=>
    (bonds_Encode_1 F 2 (wu64 x_10.Handle)).bind fun x_13=>
    (bonds_Encode_1 F 1 (wu64 x_10.Bits)).bind fun x_14=>
    (app 16 l_8 [x_13,x_14]).bind fun l_15=>
    some (.next (l_15,w64 (x_9+1)))
  else
    some (.done (l_8))
def bonds_Encode_j1 (F:Nat) (b_1:T_Bond) (x_3:(List Int)×Int) (l_4:(List T_Field)):Option ((List Int)×Int):=
  (iter (fun s=>bonds_Encode_l1 F b_1 s.1 s.2) F (l_4,0)).bind fun o=>
  bonds_Encode_j2 F x_3 o
def bonds_Encode (F:Nat) (b_1:T_Bond):Option ((List Int)×Int):=
  (bonds_Check F b_1).bind fun x_2=>
  if (x_2 != 0)=true then
    some ([],x_2)
  else
    (address_Encode F b_1.Peer.Address).bind fun x_3=>
    (bonds_Encode_1 F 8 b_1.Peer.IRK).bind fun x_18=>
    (bonds_Encode_1 F 8 b_1.LTK).bind fun x_19=>
    (bonds_Encode_1 F 8 b_1.Mark).bind fun x_20=>
    (bonds_flags F b_1).bind fun x_21=>
    (bonds_Encode_1 F 1 x_21).bind fun x_22=>
    (bonds_Encode_1 F 8 b_1.Hash).bind fun x_23=>
    (bonds_Encode_1 F 4 (wu64 b_1.Used)).bind fun x_24=>
    (bonds_Encode_1 F 1 (wu64 (len b_1.Subs))).bind fun x_25=>
    bonds_Encode_j1 F b_1 x_3 [x_18,x_19,x_20,x_22,x_23,x_24,x_25]
def octets_Take_j2 (F:Nat) (l_4:(List Int)) (l_5:(List Int)):Option ((List Int)×(List Int)×Int):=
  (octets_Join F [l_4]).bind fun x_6=>
  some (l_5,x_6,0)
def octets_Take_j3 (_:Nat) (x_9:Int) (l_10:(List Int)) (l_11:(List Int)):Option (Out ((List Int)×(List Int)×Int) ((List Int)×(List Int))):=
  some (.next (l_10,l_11,w64 (x_9+1)))
def octets_Take_j4 (F:Nat) (l_7:(List Int)) (l_8:(List Int)) (x_9:Int) (x_12:Int) (x_13:Int):Option (Out ((List Int)×(List Int)×Int) ((List Int)×(List Int))):=
  (app 8 l_8 [x_13]).bind fun l_14=>
  (sub l_7 x_12 (len l_7)).bind fun l_15=>
  octets_Take_j3 F x_9 l_15 l_14
def octets_Take_l2 (_:Nat) (l_7:(List Int)) (x_12:Int) (x_16:Int) (x_17:Int):Option (Out (Int×Int) (Int)):=
  if (decide (x_17<x_12))=true then
    (idx l_7 x_17).bind fun x_18=>
    (ishl .u64 (wu64 x_18) (w64 (8 * x_17))).bind fun x_19=>
    some (.next (ior .u64 x_16 x_19,w64 (x_17+1)))
  else
    some (.done (x_16))
def octets_Take_l1 (F:Nat) (sizes_2:(List Int)) (l_7:(List Int)) (l_8:(List Int)) (x_9:Int):Option (Out ((List Int)×(List Int)×Int) ((List Int)×(List Int))):=
  if (decide (x_9<(len sizes_2)))=true then
    (idx sizes_2 x_9).bind fun x_12=>
    (iter (fun s=>octets_Take_l2 F l_7 x_12 s.1 s.2) F (0,0)).bind fun o=>
    octets_Take_j4 F l_7 l_8 x_9 x_12 o
  else
    some (.done (l_7,l_8))
def octets_Take_j1 (F:Nat) (b_1:(List Int)) (sizes_2:(List Int)) (x_3:Int):Option ((List Int)×(List Int)×Int):=
  if (decide ((len b_1)<x_3))=true then
    some ([],[],3)
  else
    (iter (fun s=>octets_Take_l1 F sizes_2 s.1 s.2.1 s.2.2) F (b_1,[],0)).bind fun o=>
    octets_Take_j2 F o.1 o.2
def octets_Take_l3 (F:Nat) (sizes_2:(List Int)) (x_20:Int) (x_21:Int):Option (Out (Int×Int) (Sum (Int) ((List Int)×(List Int)×Int))):=
  if (decide (x_21<(len sizes_2)))=true then
    (idx sizes_2 x_21).bind fun x_22=>
    (octets_sized F x_22).bind fun x_23=>
    if (!x_23)=true then
      some (.done (.inr ([],[],5)))
    else
      some (.next (w64 (x_20+x_22),w64 (x_21+1)))
  else
    some (.done (.inl (x_20)))
def octets_Take (F:Nat) (b_1:(List Int)) (sizes_2:(List Int)):Option ((List Int)×(List Int)×Int):=
  (iter (fun s=>octets_Take_l3 F sizes_2 s.1 s.2) F (0,0)).bind fun o=>
  match o with
  | .inl u=>octets_Take_j1 F b_1 sizes_2 u
  | .inr u=>some u
def address_Decode_j1 (F:Nat) (x_2:(List Int)×(List Int)×Int) (c_5:T_Address):Option (T_Address×(List Int)×Int):=
  (address_Check F c_5).bind fun x_6=>
  if (x_6 != 0)=true then
    some ((T_Address.mk 0 0),[],x_6)
  else
    some (c_5,x_2.2.1,0)
def address_Decode (F:Nat) (b_1:(List Int)):Option (T_Address×(List Int)×Int):=
  (octets_Take F b_1 [1,6]).bind fun x_2=>
  if (x_2.2.2 != 0)=true then
    some ((T_Address.mk 0 0),[],x_2.2.2)
  else
    (idx x_2.1 0).bind fun x_7=>
    (idx x_2.1 1).bind fun x_8=>
    address_Decode_j1 F x_2 (T_Address.mk (w64 x_7) x_8)
def bonds_Decode_j2 (F:Nat) (x_4:T_Address×(List Int)×Int) (x_10:Int) (x_11:Int) (x_12:Int) (z_13:Bool) (x_14:Int) (z_15:Bool) (x_16:Int) (l_17:(List T_Subscription)):Option (T_Bond×Int):=
  (bonds_Check F (T_Bond.mk (T_Identity.mk x_4.1 x_10) x_11 x_12 z_13 x_14 z_15 l_17 x_16)).bind fun x_18=>
  if (x_18 != 0)=true then
    some ((T_Bond.mk (T_Identity.mk (T_Address.mk 0 0) 0) 0 0 false 0 false [] 0),x_18)
  else
    some ((T_Bond.mk (T_Identity.mk x_4.1 x_10) x_11 x_12 z_13 x_14 z_15 l_17 x_16),0)
def bonds_Decode_l1 (F:Nat) (x_19:Int) (l_20:(List Int)) (l_21:(List T_Subscription)) (x_22:Int):Option (Out ((List Int)×(List T_Subscription)×Int) ((List T_Subscription))):=
  if (decide (x_22<x_19))=true then
    (octets_Take F l_20 [2,1]).bind fun x_23=>
    (idx x_23.1 0).bind fun x_24=>
    (idx x_23.1 1).bind fun x_25=>
    (app 16 l_21 [(T_Subscription.mk (wu16 x_24) (w64 x_25))]).bind fun l_988=>
    some (.next (x_23.2.1,l_988,wu64 (x_22+1)))
  else
    some (.done (l_21))
def bonds_Decode_j1 (F:Nat) (x_4:T_Address×(List Int)×Int) (x_6:(List Int)×(List Int)×Int) (x_10:Int) (x_11:Int) (x_12:Int) (z_13:Bool) (x_14:Int) (z_15:Bool) (x_16:Int):Option (T_Bond×Int):=
  (idx x_6.1 6).bind fun x_19=>
  (iter (fun s=>bonds_Decode_l1 F x_19 s.1 s.2.1 s.2.2) F (x_6.2.1,[],0)).bind fun o=>
  bonds_Decode_j2 F x_4 x_10 x_11 x_12 z_13 x_14 z_15 x_16 o
def bonds_Decode (F:Nat) (b_1:(List Int)):Option (T_Bond×Int):=
  (if (decide ((len b_1)<45))=true then
    some (true)
  else
    (idx b_1 44).bind fun x_1320=>
    some (decide ((len b_1)<(w64 (45+(w64 (3 * (w64 x_1320)))))))).bind fun z_3=>
  if z_3=true then
    some ((T_Bond.mk (T_Identity.mk (T_Address.mk 0 0) 0) 0 0 false 0 false [] 0),3)
  else
    (address_Decode F b_1).bind fun x_4=>
    (sub b_1 7 (len b_1)).bind fun l_5=>
    (octets_Take F l_5 [8,8,8,1,8,4,1]).bind fun x_6=>
    (idx b_1 44).bind fun x_7=>
    (if (decide ((len x_6.2.1) > (w64 (3 * (w64 x_7)))))=true then
      some (true)
    else
      (idx x_6.1 3).bind fun x_1318=>
      some (decide (x_1318 > 3))).bind fun z_9=>
    if z_9=true then
      some ((T_Bond.mk (T_Identity.mk (T_Address.mk 0 0) 0) 0 0 false 0 false [] 0),2)
    else
      if (x_4.2.2 != 0)=true then
        some ((T_Bond.mk (T_Identity.mk (T_Address.mk 0 0) 0) 0 0 false 0 false [] 0),x_4.2.2)
      else
        (idx x_6.1 0).bind fun x_1308=>
        (idx x_6.1 1).bind fun x_1309=>
        (idx x_6.1 2).bind fun x_1310=>
        (idx x_6.1 3).bind fun x_1311=>
        (idx x_6.1 3).bind fun x_1312=>
        (idx x_6.1 4).bind fun x_1313=>
        (idx x_6.1 5).bind fun x_1314=>
        bonds_Decode_j1 F x_4 x_6 x_1308 x_1309 x_1310 ((remp x_1311 2) == 1) x_1313 (decide (x_1312 > 1)) (w64 x_1314)
def slices_Clone_api_Subscription_api_Subscription (_:Nat) (s_1:(List T_Subscription)):Option ((List T_Subscription)):=
  (app 16 ([]:(List T_Subscription)) s_1).bind fun l_2=>
  some l_2
def bonds_own (F:Nat) (b_1:T_Bond):Option (T_Bond):=
  (slices_Clone_api_Subscription_api_Subscription F b_1.Subs).bind fun x_2=>
  some ({ b_1 with Subs:=x_2 })
def bonds_clone_j1 (_:Nat) (l_3:(List T_Bond)):Option ((List T_Bond)):=
  some l_3
def bonds_clone_l1 (F:Nat) (l_1:(List T_Bond)) (l_4:(List T_Bond)) (x_5:Int):Option (Out ((List T_Bond)×Int) ((List T_Bond))):=
  if (decide (x_5<(len l_1)))=true then
    (idx l_1 x_5).bind fun x_6=>
    (bonds_own F x_6).bind fun x_7=>
    (app 96 l_4 [x_7]).bind fun l_8=>
    some (.next (l_8,w64 (x_5+1)))
  else
    some (.done (l_4))
def bonds_clone (F:Nat) (l_1:(List T_Bond)):Option ((List T_Bond)):=
  (mkc 96 (T_Bond.mk (T_Identity.mk (T_Address.mk 0 0) 0) 0 0 false 0 false [] 0) 0 (w64 ((len l_1)+1))).bind fun l_2=>
  (iter (fun s=>bonds_clone_l1 F l_1 s.1 s.2) F (l_2,0)).bind fun o=>
  bonds_clone_j1 F o
def bonds_greatest_j1 (_:Nat) (x_2:Int):Option (Int):=
  some x_2
def bonds_greatest_l1 (_:Nat) (l_1:(List T_Bond)) (x_3:Int) (x_4:Int):Option (Out (Int×Int) (Int)):=
  if (decide (x_4<(len l_1)))=true then
    (idx l_1 x_4).bind fun x_5=>
    some (.next (imax x_3 x_5.Used,w64 (x_4+1)))
  else
    some (.done (x_3))
def bonds_greatest (F:Nat) (l_1:(List T_Bond)):Option (Int):=
  (iter (fun s=>bonds_greatest_l1 F l_1 s.1 s.2) F (0,0)).bind fun o=>
  bonds_greatest_j1 F o
def bonds_ranked_j1 (_:Nat) (l_3:(List T_Bond)):Option ((List T_Bond)):=
  some l_3
def bonds_ranked_j2 (_:Nat) (x_5:Int) (l_6:(List T_Bond)):Option (Out ((List T_Bond)×Int) ((List T_Bond))):=
  some (.next (l_6,w64 (x_5+1)))
def bonds_ranked_j3 (F:Nat) (l_4:(List T_Bond)) (x_5:Int) (x_8:Int):Option (Out ((List T_Bond)×Int) ((List T_Bond))):=
  (idx l_4 x_5).bind fun x_9=>
  (upd l_4 x_5 ({ x_9 with Used:=x_8 })).bind fun l_10=>
  bonds_ranked_j2 F x_5 l_10
def bonds_ranked_j4 (_:Nat) (x_12:Int) (x_13:Int):Option (Out (Int×Int) (Int)):=
  some (.next (x_13,w64 (x_12+1)))
def bonds_ranked_l2 (F:Nat) (l_1:(List T_Bond)) (x_5:Int) (x_7:T_Bond) (x_11:Int) (x_12:Int):Option (Out (Int×Int) (Int)):=
  if (decide (x_12<(len l_1)))=true then
    (idx l_1 x_12).bind fun x_14=>
    if ((decide (x_14.Used<x_7.Used))||((x_14.Used == x_7.Used)&&(decide (x_12<x_5))))=true then
      bonds_ranked_j4 F x_12 (w64 (x_11+1))
    else
      bonds_ranked_j4 F x_12 x_11
  else
    some (.done (x_11))
def bonds_ranked_l1 (F:Nat) (l_1:(List T_Bond)) (l_4:(List T_Bond)) (x_5:Int):Option (Out ((List T_Bond)×Int) ((List T_Bond))):=
  if (decide (x_5<(len l_1)))=true then
    (idx l_1 x_5).bind fun x_7=>
    (iter (fun s=>bonds_ranked_l2 F l_1 x_5 x_7 s.1 s.2) F (0,0)).bind fun o=>
    bonds_ranked_j3 F l_4 x_5 o
  else
    some (.done (l_4))
def bonds_ranked (F:Nat) (l_1:(List T_Bond)):Option ((List T_Bond)):=
  (bonds_clone F l_1).bind fun x_2=>
  (iter (fun s=>bonds_ranked_l1 F l_1 s.1 s.2) F (x_2,0)).bind fun o=>
  bonds_ranked_j1 F o
def bonds_next_j1 (F:Nat) (l_3:(List T_Bond)):Option ((List T_Bond)×Int):=
  (bonds_greatest F l_3).bind fun x_4=>
  some (l_3,w64 (x_4+1))
def bonds_next (F:Nat) (l_1:(List T_Bond)):Option ((List T_Bond)×Int):=
  (bonds_clone F l_1).bind fun x_2=>
  (bonds_greatest F x_2).bind fun x_5=>
  if (decide (x_5≥4294967295))=true then
    (bonds_ranked F x_2).bind fun x_6=>
    bonds_next_j1 F x_6
  else
    bonds_next_j1 F x_2
def bonds_Add_1 (_:Nat) (x_1:T_Bond) (p_2:T_Bond):Option (Bool):=
  some ((x_1.Peer.Address.Kind == p_2.Peer.Address.Kind)&&(x_1.Peer.Address.Bits == p_2.Peer.Address.Bits))
def bonds_index_api_Bond_at54_j1 (_:Nat):Option (Int):=
  some (-1)
def bonds_index_api_Bond_at54_l1 (F:Nat) (l_1:(List T_Bond)) (c_2:T_Bond) (x_3:Int):Option (Out (Int) (Sum (Unit) (Int))):=
  if (decide (x_3<(len l_1)))=true then
    (idx l_1 x_3).bind fun x_4=>
    (bonds_Add_1 F x_4 c_2).bind fun x_5=>
    if x_5=true then
      some (.done (.inr x_3))
    else
      some (.next (w64 (x_3+1)))
  else
    some (.done (.inl ()))
def bonds_index_api_Bond_at54 (F:Nat) (l_1:(List T_Bond)) (c_2:T_Bond):Option (Int):=
  (iter (fun s=>bonds_index_api_Bond_at54_l1 F l_1 c_2 s) F (0)).bind fun o=>
  match o with
  | .inl _=>bonds_index_api_Bond_at54_j1 F
  | .inr u=>some u
def bonds_Add_j1 (_:Nat) (x_6:(List T_Bond)×Int) (x_7:T_Bond) (x_10:Int):Option ((List T_Bond)×Int×Int):=
  (idx x_6.1 x_10).bind fun _=>
  (upd x_6.1 x_10 ({ x_7 with Used:=x_6.2 })).bind fun l_12=>
  some (l_12,x_10,0)
def bonds_Add_j2 (_:Nat) (x_14:Int) (x_15:Int):Option (Out (Int×Int) (Int)):=
  some (.next (x_15,w64 (x_14+1)))
def bonds_Add_j3 (F:Nat) (x_13:Int) (x_14:Int) (z_17:Bool):Option (Out (Int×Int) (Int)):=
  if z_17=true then
    bonds_Add_j2 F x_14 x_14
  else
    bonds_Add_j2 F x_14 x_13
def bonds_Add_l1 (F:Nat) (x_6:(List T_Bond)×Int) (x_13:Int) (x_14:Int):Option (Out (Int×Int) (Int)):=
  if (decide (x_14<(len x_6.1)))=true then
    (idx x_6.1 x_14).bind fun x_16=>
    (idx x_6.1 x_13).bind fun x_20=>
    bonds_Add_j3 F x_13 x_14 (decide (x_16.Used<x_20.Used))
  else
    some (.done (x_13))
def bonds_Add (F:Nat) (l_1:(List T_Bond)) (b_2:T_Bond):Option ((List T_Bond)×Int×Int):=
  if (decide ((len l_1) > 16))=true then
    (bonds_clone F l_1).bind fun x_3=>
    some (x_3,0,4)
  else
    (bonds_Check F b_2).bind fun x_4=>
    if (x_4 != 0)=true then
      (bonds_clone F l_1).bind fun x_5=>
      some (x_5,0,x_4)
    else
      (bonds_next F l_1).bind fun x_6=>
      (bonds_own F b_2).bind fun x_7=>
      (bonds_index_api_Bond_at54 F x_6.1 ({ x_7 with Used:=x_6.2 })).bind fun x_8=>
      if ((decide (x_8<0))&&(decide ((len x_6.1)<16)))=true then
        (app 96 x_6.1 [{ x_7 with Used:=x_6.2 }]).bind fun l_9=>
        some (l_9,len (lens x_6.1),0)
      else
        if (decide (x_8<0))=true then
          (iter (fun s=>bonds_Add_l1 F x_6 s.1 s.2) F (0,0)).bind fun o=>
          bonds_Add_j1 F x_6 x_7 o
        else
          bonds_Add_j1 F x_6 x_7 x_8
def slices_Delete_api_Bond_api_Bond (_:Nat) (s_1:(List T_Bond)) (i_2:Int) (j_3:Int):Option ((List T_Bond)):=
  if 0≤i_2∧i_2≤j_3∧j_3≤(s_1.length:Int) then
    some (s_1.take i_2.toNat++s_1.drop j_3.toNat)
  else
    none
def bonds_Remove (F:Nat) (l_1:(List T_Bond)) (i_2:Int):Option ((List T_Bond)×Int):=
  (bonds_clone F l_1).bind fun x_3=>
  if ((decide (i_2<0))||(decide (i_2≥(len l_1))))=true then
    some (x_3,5)
  else
    (slices_Delete_api_Bond_api_Bond F x_3 i_2 (w64 (i_2+1))).bind fun x_4=>
    some (x_4,0)
def wirelessref40_SameBond_j1 (_:Nat):Option (Bool):=
  some true
def wirelessref40_SameBond_j2 (_:Nat) (x_3:Int) (z_4:Bool):Option (Out (Int) (Sum (Unit) (Bool))):=
  if z_4=true then
    some (.done (.inr false))
  else
    some (.next (w64 (x_3+1)))
def wirelessref40_SameBond_l1 (F:Nat) (a_1:T_Bond) (b_2:T_Bond) (x_3:Int):Option (Out (Int) (Sum (Unit) (Bool))):=
  if (decide (x_3<(len a_1.Subs)))=true then
    (idx a_1.Subs x_3).bind fun x_5=>
    (idx b_2.Subs x_3).bind fun x_6=>
    wirelessref40_SameBond_j2 F x_3 (!((x_5.Handle == x_6.Handle)&&(x_5.Bits == x_6.Bits)))
  else
    some (.done (.inl ()))
def wirelessref40_SameBond (F:Nat) (a_1:T_Bond) (b_2:T_Bond):Option (Bool):=
  if ((((((((!((a_1.Peer.Address.Kind == b_2.Peer.Address.Kind)&&((a_1.Peer.Address.Bits == b_2.Peer.Address.Bits)&&(a_1.Peer.IRK == b_2.Peer.IRK))))||(a_1.LTK != b_2.LTK))||(a_1.Mark != b_2.Mark))||(a_1.Strong != b_2.Strong))||(a_1.Hash != b_2.Hash))||(a_1.Aware != b_2.Aware))||(a_1.Used != b_2.Used))||((len a_1.Subs) != (len b_2.Subs)))=true then
    some false
  else
    (iter (fun s=>wirelessref40_SameBond_l1 F a_1 b_2 s) F (0)).bind fun o=>
    match o with
    | .inl _=>wirelessref40_SameBond_j1 F
    | .inr u=>some u
def privacy_Resolves (F:Nat) (irk_1:Int) (a_2:T_Address):Option (Bool):=
  (if ((irk_1 == 0)||(a_2.Kind != 3))=true then
    some (true)
  else
    (address_Check F a_2).bind fun x_6=>
    some ((x_6 != 0))).bind fun z_4=>
  if z_4=true then
    some false
  else
    none
def privacy_Find_1 (F:Nat) (id_1:T_Identity) (p_2:T_Address):Option (Bool×T_Address):=
  (if ((id_1.Address.Kind == p_2.Kind)&&(id_1.Address.Bits == p_2.Bits))=true then
    some (true)
  else
    (privacy_Resolves F id_1.IRK p_2).bind fun x_6=>
    some (x_6)).bind fun z_4=>
  some (z_4,p_2)
def slices_IndexFunc_api_Identity_api_Identity_at77_j1 (_:Nat) (c_5:T_Address):Option (Int×T_Address):=
  some ((-1),c_5)
def slices_IndexFunc_api_Identity_api_Identity_at77_l1 (F:Nat) (s_1:(List T_Identity)) (c_8:T_Address) (x_9:Int):Option (Out (T_Address×Int) (Sum (T_Address) (Int×T_Address))):=
  if (decide (x_9<(len s_1)))=true then
    (idx s_1 x_9).bind fun x_10=>
    (privacy_Find_1 F x_10 c_8).bind fun x_11=>
    if x_11.1=true then
      some (.done (.inr (x_9,x_11.2)))
    else
      some (.next (x_11.2,w64 (x_9+1)))
  else
    some (.done (.inl (c_8)))
def slices_IndexFunc_api_Identity_api_Identity_at77 (F:Nat) (s_1:(List T_Identity)) (c_2:T_Address):Option (Int×T_Address):=
  (iter (fun s=>slices_IndexFunc_api_Identity_api_Identity_at77_l1 F s_1 s.1 s.2) F (c_2,0)).bind fun o=>
  match o with
  | .inl u=>slices_IndexFunc_api_Identity_api_Identity_at77_j1 F u
  | .inr u=>some u
def privacy_Find (F:Nat) (list_1:(List T_Identity)) (a_2:T_Address):Option (Int):=
  (address_Check F a_2).bind fun x_3=>
  if (x_3 != 0)=true then
    some (-1)
  else
    (slices_IndexFunc_api_Identity_api_Identity_at77 F list_1 a_2).bind fun x_4=>
    some x_4.1
def bonds_Find_j1 (F:Nat) (a_2:T_Address) (l_3:(List T_Identity)):Option (Int):=
  (privacy_Find F l_3 a_2).bind fun x_4=>
  some x_4
def bonds_Find_l1 (_:Nat) (l_1:(List T_Bond)) (l_5:(List T_Identity)) (x_6:Int):Option (Out ((List T_Identity)×Int) ((List T_Identity))):=
  if (decide (x_6<(len l_1)))=true then
    (idx l_1 x_6).bind fun x_7=>
    (app 24 l_5 [x_7.Peer]).bind fun l_8=>
    some (.next (l_8,w64 (x_6+1)))
  else
    some (.done (l_5))
def bonds_Find (F:Nat) (l_1:(List T_Bond)) (a_2:T_Address):Option (Int):=
  (iter (fun s=>bonds_Find_l1 F l_1 s.1 s.2) F ([],0)).bind fun o=>
  bonds_Find_j1 F a_2 o
def wirelesslaw40_lives_j1 (_:Nat) (z_10:Bool):Option (Bool):=
  some z_10
def wirelesslaw40_lives (F:Nat):Option (Bool):=
  (wirelesslaw40_one F 3).bind fun x_1=>
  (bonds_Encode F x_1).bind fun x_2=>
  (app 1 ([]:(List Int)) x_2.1).bind fun l_3=>
  (bonds_Decode F l_3).bind fun x_4=>
  (wirelesslaw40_one F 3).bind fun x_5=>
  (wirelesslaw40_one F 7).bind fun x_6=>
  (wirelesslaw40_one F 5).bind fun x_7=>
  (bonds_Add F [x_5,x_6] x_7).bind fun x_8=>
  (bonds_Remove F x_8.1 3).bind fun x_9=>
  if (((x_2.2 == 0)&&((len x_2.1) == 45))&&(x_4.2 == 0))=true then
    (wirelesslaw40_one F 3).bind fun x_14=>
    (wirelessref40_SameBond F x_4.1 x_14).bind fun x_15=>
    if (((x_15&&(x_8.2.2 == 0))&&(x_8.2.1 == 2))&&((len x_8.1) == 3))=true then
      (idx x_8.1 2).bind fun x_17=>
      if ((x_17.Used == 8)&&(x_9.2 == 5))=true then
        (wirelesslaw40_one F 7).bind fun x_19=>
        (bonds_Find F x_8.1 x_19.Peer.Address).bind fun x_20=>
        wirelesslaw40_lives_j1 F (x_20 == 1)
      else
        wirelesslaw40_lives_j1 F false
    else
      if (false&&(x_9.2 == 5))=true then
        (wirelesslaw40_one F 7).bind fun x_22=>
        (bonds_Find F x_8.1 x_22.Peer.Address).bind fun x_23=>
        wirelesslaw40_lives_j1 F (x_23 == 1)
      else
        wirelesslaw40_lives_j1 F false
  else
    if (((false&&(x_8.2.2 == 0))&&(x_8.2.1 == 2))&&((len x_8.1) == 3))=true then
      (idx x_8.1 2).bind fun x_25=>
      if ((x_25.Used == 8)&&(x_9.2 == 5))=true then
        (wirelesslaw40_one F 7).bind fun x_27=>
        (bonds_Find F x_8.1 x_27.Peer.Address).bind fun x_28=>
        wirelesslaw40_lives_j1 F (x_28 == 1)
      else
        wirelesslaw40_lives_j1 F false
    else
      if (false&&(x_9.2 == 5))=true then
        (wirelesslaw40_one F 7).bind fun x_30=>
        (bonds_Find F x_8.1 x_30.Peer.Address).bind fun x_31=>
        wirelesslaw40_lives_j1 F (x_31 == 1)
      else
        wirelesslaw40_lives_j1 F false
def flash_fits (_:Nat) (size_1:Int):Option (Bool):=
  some ((decide (size_1≥64))&&(decide (size_1≤65536)))
def flash_erased_j1 (_:Nat) (l_3:(List Int)):Option ((List Int)):=
  some l_3
def flash_erased_l1 (_:Nat) (l_2:(List Int)) (l_4:(List Int)) (x_5:Int):Option (Out ((List Int)×Int) ((List Int))):=
  if (decide (x_5<(len l_2)))=true then
    (idx l_4 x_5).bind fun _=>
    (upd l_4 x_5 255).bind fun l_7=>
    some (.next (l_7,w64 (x_5+1)))
  else
    some (.done (l_4))
def flash_erased (F:Nat) (size_1:Int):Option ((List Int)):=
  (mk 1 0 size_1).bind fun l_2=>
  (iter (fun s=>flash_erased_l1 F l_2 s.1 s.2) F (l_2,0)).bind fun o=>
  flash_erased_j1 F o
def flash_Blank (F:Nat) (size_1:Int):Option (T_Flash×Int):=
  (flash_fits F size_1).bind fun x_2=>
  if (!x_2)=true then
    some ((T_Flash.mk ([],[])),5)
  else
    (flash_erased F size_1).bind fun x_3=>
    (flash_erased F size_1).bind fun x_4=>
    some ((T_Flash.mk (x_3,x_4)),0)
def wirelessref39_Copy_j1 (_:Nat) (c_4:T_Flash):Option (T_Flash):=
  some c_4
def wirelessref39_Copy (F:Nat) (f_1:T_Flash):Option (T_Flash):=
  (app 1 ([]:(List Int)) f_1.Banks.1).bind fun l_327=>
  (app 1 ([]:(List Int)) f_1.Banks.2).bind fun l_727=>
  wirelessref39_Copy_j1 F (T_Flash.mk (l_327,l_727))
def flash_copied_j1 (_:Nat) (c_4:T_Flash):Option (T_Flash):=
  some c_4
def flash_copied (F:Nat) (f_1:T_Flash):Option (T_Flash):=
  (octets_Join F [f_1.Banks.1]).bind fun x_327=>
  (octets_Join F [f_1.Banks.2]).bind fun x_727=>
  flash_copied_j1 F (T_Flash.mk (x_327,x_727))
def flash_value_j1 (_:Nat) (x_2:Int):Option (Int):=
  some x_2
def flash_value_l1 (_:Nat) (b_1:(List Int)) (x_3:Int) (x_4:Int):Option (Out (Int×Int) (Int)):=
  if (decide (x_4≥0))=true then
    (idx b_1 x_4).bind fun x_5=>
    some (.next (ior .i64 (shlp .i64 x_3 8) (w64 x_5),w64 (x_4 - 1)))
  else
    some (.done (x_3))
def flash_value (F:Nat) (b_1:(List Int)):Option (Int):=
  (iter (fun s=>flash_value_l1 F b_1 s.1 s.2) F (0,w64 ((len b_1) - 1))).bind fun o=>
  flash_value_j1 F o
def flash_number (F:Nat) (size_1:Int) (n_2:Int):Option ((List Int)):=
  (octets_Put F [(T_Field.mk size_1 n_2)]).bind fun x_3=>
  some x_3.1
def crc_feed (_:Nat) (register_1:Int) (x_2:Int):Option (Int):=
  (idx [0,1788928,3577856,3003392,7155712,7764992,6006784,4252672,14311424,12659712,15529984,16233472,12013568,11279360,8505344,10126336] (iand .u32 (ixor .u32 register_1 (wu32 x_2)) 15)).bind fun x_3=>
  (idx [0,1788928,3577856,3003392,7155712,7764992,6006784,4252672,14311424,12659712,15529984,16233472,12013568,11279360,8505344,10126336] (iand .u32 (ixor .u32 (ixor .u32 (shrp register_1 4) x_3) (wu32 (shrp x_2 4))) 15)).bind fun x_4=>
  some (ixor .u32 (shrp (ixor .u32 (shrp register_1 4) x_3) 4) x_4)
def crc_Sum_j1 (_:Nat) (x_3:Int):Option (Int):=
  some x_3
def crc_Sum_l1 (F:Nat) (b_2:(List Int)) (x_4:Int) (x_5:Int):Option (Out (Int×Int) (Int)):=
  if (decide (x_5<(len b_2)))=true then
    (idx b_2 x_5).bind fun x_6=>
    (crc_feed F x_4 x_6).bind fun x_7=>
    some (.next (x_7,w64 (x_5+1)))
  else
    some (.done (x_4))
def crc_Sum (F:Nat) (init_1:Int) (b_2:(List Int)):Option (Int):=
  (iter (fun s=>crc_Sum_l1 F b_2 s.1 s.2) F (iand .u32 init_1 16777215,0)).bind fun o=>
  crc_Sum_j1 F o
def slices_Clone_byte_byte (_:Nat) (s_1:(List Int)):Option ((List Int)):=
  (app 1 ([]:(List Int)) s_1).bind fun l_2=>
  some l_2
def crc_Append (F:Nat) (init_1:Int) (b_2:(List Int)):Option ((List Int)):=
  (crc_Sum F init_1 b_2).bind fun x_3=>
  (slices_Clone_byte_byte F b_2).bind fun x_4=>
  (app 1 x_4 [wu8 x_3,wu8 (shrp x_3 8),wu8 (shrp x_3 16)]).bind fun l_5=>
  some l_5
def flash_sealed (F:Nat) (b_1:(List Int)):Option ((List Int)):=
  (crc_Append F 0 b_1).bind fun x_2=>
  (octets_Join F [x_2,[0]]).bind fun x_3=>
  some x_3
def flash_header (F:Nat) (count_1:Int):Option ((List Int)):=
  (flash_number F 4 (wu64 count_1)).bind fun x_2=>
  (octets_Join F [[66,75],x_2]).bind fun x_3=>
  (flash_sealed F x_3).bind fun x_4=>
  some x_4
def slices_Equal_byte_byte_j1 (_:Nat):Option (Bool):=
  some true
def slices_Equal_byte_byte_j2 (_:Nat) (x_3:Int) (z_4:Bool):Option (Out (Int) (Sum (Unit) (Bool))):=
  if z_4=true then
    some (.done (.inr false))
  else
    some (.next (w64 (x_3+1)))
def slices_Equal_byte_byte_l1 (F:Nat) (s_1:(List Int)) (s_2:(List Int)) (x_3:Int):Option (Out (Int) (Sum (Unit) (Bool))):=
  if (decide (x_3<(len s_1)))=true then
    (idx s_1 x_3).bind fun x_5=>
    (idx s_2 x_3).bind fun x_6=>
    slices_Equal_byte_byte_j2 F x_3 (x_5 != x_6)
  else
    some (.done (.inl ()))
def slices_Equal_byte_byte (F:Nat) (s_1:(List Int)) (s_2:(List Int)):Option (Bool):=
  if ((len s_1) != (len s_2))=true then
    some false
  else
    (iter (fun s=>slices_Equal_byte_byte_l1 F s_1 s_2 s) F (0)).bind fun o=>
    match o with
    | .inl _=>slices_Equal_byte_byte_j1 F
    | .inr u=>some u
def flash_count_j1 (_:Nat) (x_3:Int) (z_4:Bool):Option (Int):=
  if z_4=true then
    some (-1)
  else
    some x_3
def flash_count (F:Nat) (bank_1:(List Int)):Option (Int):=
  if (decide ((len bank_1)<10))=true then
    some (-1)
  else
    (sub bank_1 2 6).bind fun l_2=>
    (flash_value F l_2).bind fun x_3=>
    (sub bank_1 0 10).bind fun l_7=>
    (flash_header F x_3).bind fun x_8=>
    (slices_Equal_byte_byte F x_8 l_7).bind fun x_9=>
    flash_count_j1 F x_3 (!x_9)
def flash_need (_:Nat) (ok_1:Bool):Option (Unit):=
  if (!ok_1)=true then
    none
  else
    some ()
def flash_record (F:Nat) (key_1:Int) (value_2:(List Int)):Option ((List Int)):=
  (flash_number F 2 (wu64 (len value_2))).bind fun x_3=>
  (flash_number F 2 (wu64 key_1)).bind fun x_4=>
  (octets_Join F [x_3,x_4,value_2]).bind fun x_5=>
  (flash_sealed F x_5).bind fun x_6=>
  some x_6
def flash_read_j2 (_:Nat) (at_2:Int) (x_5:Int) (c_9:T_Item):Option (T_Item×Int):=
  some (c_9,w64 ((w64 (at_2+8))+x_5))
def flash_read_j1 (F:Nat) (bank_1:(List Int)) (at_2:Int) (x_5:Int) (c_9:T_Item):Option (T_Item×Int):=
  (sub bank_1 at_2 (w64 ((w64 (at_2+8))+x_5))).bind fun l_12=>
  (flash_record F c_9.Key c_9.Value).bind fun x_13=>
  (slices_Equal_byte_byte F x_13 l_12).bind fun x_14=>
  (flash_need F x_14).bind fun _=>
  flash_read_j2 F at_2 x_5 c_9
def flash_read (F:Nat) (bank_1:(List Int)) (at_2:Int):Option (T_Item×Int):=
  (flash_need F (decide ((w64 (at_2+8))≤(len bank_1)))).bind fun _=>
  (sub bank_1 at_2 (w64 (at_2+2))).bind fun l_4=>
  (flash_value F l_4).bind fun x_5=>
  (flash_need F ((decide (x_5≤1024))&&(decide ((w64 ((w64 (at_2+8))+x_5))≤(len bank_1))))).bind fun _=>
  (sub bank_1 (w64 (at_2+2)) (w64 (at_2+4))).bind fun l_18=>
  (sub bank_1 (w64 (at_2+4)) (w64 ((w64 (at_2+4))+x_5))).bind fun l_19=>
  (flash_value F l_18).bind fun x_500=>
  (octets_Join F [l_19]).bind fun x_1380=>
  flash_read_j1 F bank_1 at_2 x_5 (T_Item.mk (wu16 x_500) x_1380)
def flash_readP_j2 (_:Nat) (at_2:Int) (x_6:Int) (c_11:T_Item):Option (Option (T_Item×Int)):=
  some (some (c_11,w64 ((w64 (at_2+8))+x_6)))
def flash_readP_j1 (F:Nat) (bank_1:(List Int)) (at_2:Int) (x_6:Int) (c_11:T_Item):Option (Option (T_Item×Int)):=
  (sub bank_1 at_2 (w64 ((w64 (at_2+8))+x_6))).bind fun l_14=>
  (flash_record F c_11.Key c_11.Value).bind fun x_15=>
  (slices_Equal_byte_byte F x_15 l_14).bind fun x_16=>
  if x_16=true then
    (flash_need F x_16).bind fun _=>
    flash_readP_j2 F at_2 x_6 c_11
  else
    some none
def flash_readP (F:Nat) (bank_1:(List Int)) (at_2:Int):Option (Option (T_Item×Int)):=
  if (decide ((w64 (at_2+8))≤(len bank_1)))=true then
    (flash_need F (decide ((w64 (at_2+8))≤(len bank_1)))).bind fun _=>
    (sub bank_1 at_2 (w64 (at_2+2))).bind fun l_5=>
    (flash_value F l_5).bind fun x_6=>
    if ((decide (x_6≤1024))&&(decide ((w64 ((w64 (at_2+8))+x_6))≤(len bank_1))))=true then
      (flash_need F ((decide (x_6≤1024))&&(decide ((w64 ((w64 (at_2+8))+x_6))≤(len bank_1))))).bind fun _=>
      (sub bank_1 (w64 (at_2+2)) (w64 (at_2+4))).bind fun l_21=>
      (sub bank_1 (w64 (at_2+4)) (w64 ((w64 (at_2+4))+x_6))).bind fun l_22=>
      (flash_value F l_21).bind fun x_503=>
      (octets_Join F [l_22]).bind fun x_1383=>
      flash_readP_j1 F bank_1 at_2 x_6 (T_Item.mk (wu16 x_503) x_1383)
    else
      some none
  else
    some none
def cmp_isNaN_uint16 (_:Nat) (x_1:Int):Option (Bool):=
  some (x_1 != x_1)
def cmp_Compare_uint16 (F:Nat) (x_1:Int) (y_2:Int):Option (Int):=
  (cmp_isNaN_uint16 F x_1).bind fun x_3=>
  (cmp_isNaN_uint16 F y_2).bind fun x_4=>
  if x_3=true then
    if x_4=true then
      some 0
    else
      some (-1)
  else
    if x_4=true then
      some 1
    else
      if (decide (x_1<y_2))=true then
        some (-1)
      else
        if (decide (x_1 > y_2))=true then
          some 1
        else
          some 0
def flash_place_1 (F:Nat) (i_1:T_Item) (k_2:Int):Option (Int):=
  (cmp_Compare_uint16 F i_1.Key k_2).bind fun x_3=>
  some x_3
def slices_BinarySearchFunc_api_Item_api_Item_uint16_at100_j1 (F:Nat) (x_1:(List T_Item)) (target_2:Int) (x_3:Int):Option (Int×Bool):=
  (if (decide (x_3<(len x_1)))=true then
    (idx x_1 x_3).bind fun x_7=>
    (flash_place_1 F x_7 target_2).bind fun x_8=>
    some ((x_8 == 0))
  else
    some (false)).bind fun z_5=>
  some (x_3,z_5)
def slices_BinarySearchFunc_api_Item_api_Item_uint16_at100_l1 (F:Nat) (x_1:(List T_Item)) (target_2:Int) (x_9:Int) (x_10:Int):Option (Out (Int×Int) (Int)):=
  if (decide (x_9<x_10))=true then
    (idx x_1 (w64 (shrp (wu64 (w64 (x_9+x_10))) 1))).bind fun x_11=>
    (flash_place_1 F x_11 target_2).bind fun x_12=>
    if (decide (x_12<0))=true then
      some (.next (w64 ((w64 (shrp (wu64 (w64 (x_9+x_10))) 1))+1),x_10))
    else
      some (.next (x_9,w64 (shrp (wu64 (w64 (x_9+x_10))) 1)))
  else
    some (.done (x_9))
def slices_BinarySearchFunc_api_Item_api_Item_uint16_at100 (F:Nat) (x_1:(List T_Item)) (target_2:Int):Option (Int×Bool):=
  (iter (fun s=>slices_BinarySearchFunc_api_Item_api_Item_uint16_at100_l1 F x_1 target_2 s.1 s.2) F (0,len x_1)).bind fun o=>
  slices_BinarySearchFunc_api_Item_api_Item_uint16_at100_j1 F x_1 target_2 o
def flash_place (F:Nat) (l_1:(List T_Item)) (key_2:Int):Option (Int×Bool):=
  (slices_BinarySearchFunc_api_Item_api_Item_uint16_at100 F l_1 key_2).bind fun x_3=>
  some (x_3.1,x_3.2)
def slices_Delete_api_Item_api_Item (_:Nat) (s_1:(List T_Item)) (i_2:Int) (j_3:Int):Option ((List T_Item)):=
  if 0≤i_2∧i_2≤j_3∧j_3≤(s_1.length:Int) then
    some (s_1.take i_2.toNat++s_1.drop j_3.toNat)
  else
    none
def slices_Insert_api_Item_api_Item (_:Nat) (s_1:(List T_Item)) (i_2:Int) (v_3:(List T_Item)):Option ((List T_Item)):=
  if 0≤i_2∧i_2≤(s_1.length:Int)∧v_3.length=1∧(s_1.length+1) * 32≤140737488355328 then
    some (s_1.take i_2.toNat++v_3++s_1.drop i_2.toNat)
  else
    none
def flash_set (F:Nat) (l_1:(List T_Item)) (r_2:T_Item):Option ((List T_Item)):=
  (flash_place F l_1 r_2.Key).bind fun x_3=>
  if (((len r_2.Value) == 0)&&x_3.2)=true then
    (slices_Delete_api_Item_api_Item F l_1 x_3.1 (w64 (x_3.1+1))).bind fun x_4=>
    some x_4
  else
    if ((len r_2.Value) == 0)=true then
      some l_1
    else
      if x_3.2=true then
        (idx l_1 x_3.1).bind fun _=>
        (upd l_1 x_3.1 r_2).bind fun l_6=>
        some l_6
      else
        (slices_Insert_api_Item_api_Item F l_1 x_3.1 [r_2]).bind fun x_7=>
        some x_7
def flash_contents_l1 (F:Nat) (bank_1:List Int) (l:List T_Item) (e:Int):Option (Out ((List T_Item)×Int) ((List T_Item)×Int)):=
  (flash_readP F bank_1 e).bind fun q=>
  match q with
  | none=>some (.done (l,e))
  | some x=>(flash_set F l x.1).bind fun l2=>some (.next (l2,x.2))
def flash_contents (F:Nat) (bank_1:List Int):Option ((List T_Item)×Int):=
  iter (fun s=>flash_contents_l1 F bank_1 s.1 s.2) F ([],10)
def flash_Mount_j4 (_:Nat) (x_4:T_Flash) (x_5:Int) (x_7:Int) (x_9:(List T_Item)×Int) (x_10:Int):Option (T_Store×Int):=
  some ((T_Store.mk x_4 x_7 x_5 x_10 x_9.1),0)
def flash_Mount_l1 (_:Nat) (f_1:T_Flash) (x_9:(List T_Item)×Int) (l_11:(List Int)) (x_12:Int):Option (Out (Int) (Int)):=
  if (decide (x_12<(len l_11)))=true then
    (idx l_11 x_12).bind fun x_13=>
    if (x_13 != 255)=true then
      some (.done (len f_1.Banks.1))
    else
      some (.next (w64 (x_12+1)))
  else
    some (.done (x_9.2))
def flash_Mount_j5 (_:Nat) (x_4:T_Flash) (x_6:Int) (x_7:Int) (x_15:(List T_Item)×Int) (x_16:Int):Option (T_Store×Int):=
  some ((T_Store.mk x_4 x_7 x_6 x_16 x_15.1),0)
def flash_Mount_l2 (_:Nat) (f_1:T_Flash) (x_15:(List T_Item)×Int) (l_17:(List Int)) (x_18:Int):Option (Out (Int) (Int)):=
  if (decide (x_18<(len l_17)))=true then
    (idx l_17 x_18).bind fun x_19=>
    if (x_19 != 255)=true then
      some (.done (len f_1.Banks.1))
    else
      some (.next (w64 (x_18+1)))
  else
    some (.done (x_15.2))
def flash_Mount_j3 (F:Nat) (f_1:T_Flash) (x_4:T_Flash) (x_5:Int) (x_6:Int) (x_7:Int):Option (T_Store×Int):=
  if (x_7 == 0)=true then
    (flash_contents F x_4.Banks.1).bind fun x_9=>
    (sub x_4.Banks.1 x_9.2 (len x_4.Banks.1)).bind fun l_11=>
    (iter (fun s=>flash_Mount_l1 F f_1 x_9 l_11 s) F (0)).bind fun o=>
    flash_Mount_j4 F x_4 x_5 x_7 x_9 o
  else
    if (x_7 == 1)=true then
      (flash_contents F x_4.Banks.2).bind fun x_15=>
      (sub x_4.Banks.2 x_15.2 (len x_4.Banks.2)).bind fun l_17=>
      (iter (fun s=>flash_Mount_l2 F f_1 x_15 l_17 s) F (0)).bind fun o=>
      flash_Mount_j5 F x_4 x_6 x_7 x_15 o
    else
      none
def flash_Mount_j2 (F:Nat) (f_1:T_Flash) (x_4:T_Flash) (x_5:Int) (x_6:Int) (x_7:Int):Option (T_Store×Int):=
  if (x_7 == 0)=true then
    if (decide (x_5<0))=true then
      some ((T_Store.mk x_4 x_7 0 (len f_1.Banks.1) []),0)
    else
      flash_Mount_j3 F f_1 x_4 x_5 x_6 x_7
  else
    if (x_7 == 1)=true then
      if (decide (x_6<0))=true then
        some ((T_Store.mk x_4 x_7 0 (len f_1.Banks.1) []),0)
      else
        flash_Mount_j3 F f_1 x_4 x_5 x_6 x_7
    else
      none
def flash_Mount_j1 (F:Nat) (f_1:T_Flash) (x_4:T_Flash) (x_5:Int) (x_6:Int):Option (T_Store×Int):=
  if (decide (x_6 > x_5))=true then
    flash_Mount_j2 F f_1 x_4 x_5 x_6 1
  else
    flash_Mount_j2 F f_1 x_4 x_5 x_6 0
def flash_Mount (F:Nat) (f_1:T_Flash):Option (T_Store×Int):=
  (if ((len f_1.Banks.2) != (len f_1.Banks.1))=true then
    some (true)
  else
    (flash_fits F (len f_1.Banks.1)).bind fun x_985=>
    some ((!x_985))).bind fun z_3=>
  if z_3=true then
    some ((T_Store.mk (T_Flash.mk ([],[])) 0 0 0 []),5)
  else
    (flash_copied F f_1).bind fun x_4=>
    (flash_count F f_1.Banks.1).bind fun x_264=>
    (flash_count F f_1.Banks.2).bind fun x_584=>
    flash_Mount_j1 F f_1 x_4 x_264 x_584
def flash_Get (F:Nat) (s_1:T_Store) (key_2:Int):Option ((List Int)×Bool):=
  (flash_place F s_1.Items key_2).bind fun x_3=>
  if (!x_3.2)=true then
    some ([],false)
  else
    (idx s_1.Items x_3.1).bind fun x_4=>
    (octets_Join F [x_4.Value]).bind fun x_5=>
    some (x_5,true)
def bonds_Load_1 (_:Nat) (x_1:T_Bond) (p_2:T_Bond):Option (Bool):=
  some ((x_1.Peer.Address.Kind == p_2.Peer.Address.Kind)&&(x_1.Peer.Address.Bits == p_2.Peer.Address.Bits))
def bonds_index_api_Bond_at68_j1 (_:Nat):Option (Int):=
  some (-1)
def bonds_index_api_Bond_at68_l1 (F:Nat) (l_1:(List T_Bond)) (c_2:T_Bond) (x_3:Int):Option (Out (Int) (Sum (Unit) (Int))):=
  if (decide (x_3<(len l_1)))=true then
    (idx l_1 x_3).bind fun x_4=>
    (bonds_Load_1 F x_4 c_2).bind fun x_5=>
    if x_5=true then
      some (.done (.inr x_3))
    else
      some (.next (w64 (x_3+1)))
  else
    some (.done (.inl ()))
def bonds_index_api_Bond_at68 (F:Nat) (l_1:(List T_Bond)) (c_2:T_Bond):Option (Int):=
  (iter (fun s=>bonds_index_api_Bond_at68_l1 F l_1 c_2 s) F (0)).bind fun o=>
  match o with
  | .inl _=>bonds_index_api_Bond_at68_j1 F
  | .inr u=>some u
def bonds_Load_j1 (_:Nat) (l_2:(List T_Bond)):Option ((List T_Bond)):=
  some l_2
def bonds_Load_j2 (_:Nat) (x_4:Int) (l_5:(List T_Bond)):Option (Out ((List T_Bond)×Int) ((List T_Bond))):=
  some (.next (l_5,wu16 (x_4+1)))
def bonds_Load_l1 (F:Nat) (s_1:T_Store) (l_3:(List T_Bond)) (x_4:Int):Option (Out ((List T_Bond)×Int) ((List T_Bond))):=
  if (decide (x_4<16))=true then
    (flash_Get F s_1 x_4).bind fun x_6=>
    if (!x_6.2)=true then
      bonds_Load_j2 F x_4 l_3
    else
      (bonds_Decode F x_6.1).bind fun x_7=>
      if (x_7.2 != 0)=true then
        bonds_Load_j2 F x_4 l_3
      else
        (bonds_index_api_Bond_at68 F l_3 x_7.1).bind fun x_8=>
        if (decide (x_8<0))=true then
          (app 96 l_3 [x_7.1]).bind fun l_9=>
          bonds_Load_j2 F x_4 l_9
        else
          bonds_Load_j2 F x_4 l_3
  else
    some (.done (l_3))
def bonds_Load (F:Nat) (s_1:T_Store):Option ((List T_Bond)):=
  (iter (fun s=>bonds_Load_l1 F s_1 s.1 s.2) F ([],0)).bind fun o=>
  bonds_Load_j1 F o
def wirelessref40_Copy_j1 (_:Nat) (l_2:(List T_Bond)):Option ((List T_Bond)):=
  some l_2
def wirelessref40_Copy_l1 (_:Nat) (l_1:(List T_Bond)) (l_3:(List T_Bond)) (x_4:Int):Option (Out ((List T_Bond)×Int) ((List T_Bond))):=
  if (decide (x_4<(len l_1)))=true then
    (idx l_1 x_4).bind fun x_5=>
    (app 16 ([]:(List T_Subscription)) x_5.Subs).bind fun l_6=>
    (app 96 l_3 [{ x_5 with Subs:=l_6 }]).bind fun l_7=>
    some (.next (l_7,w64 (x_4+1)))
  else
    some (.done (l_3))
def wirelessref40_Copy (F:Nat) (l_1:(List T_Bond)):Option ((List T_Bond)):=
  (iter (fun s=>wirelessref40_Copy_l1 F l_1 s.1 s.2) F (([]:(List T_Bond)),0)).bind fun o=>
  wirelessref40_Copy_j1 F o
def bonds_Touch (F:Nat) (l_1:(List T_Bond)) (i_2:Int):Option ((List T_Bond)):=
  if ((decide (i_2<0))||(decide (i_2≥(len l_1))))=true then
    (bonds_clone F l_1).bind fun x_3=>
    some x_3
  else
    (bonds_next F l_1).bind fun x_4=>
    (idx x_4.1 i_2).bind fun x_5=>
    (upd x_4.1 i_2 ({ x_5 with Used:=x_4.2 })).bind fun l_6=>
    some l_6
def bonds_records_j1 (_:Nat) (m_2:(List (Int×(List Int)))):Option ((List (Int×(List Int)))×Int):=
  some (m_2,0)
def bonds_records_l1 (F:Nat) (l_1:(List T_Bond)) (m_3:(List (Int×(List Int)))) (x_4:Int):Option (Out ((List (Int×(List Int)))×Int) (Sum ((List (Int×(List Int)))) ((List (Int×(List Int)))×Int))):=
  if (decide (x_4<(len l_1)))=true then
    (idx l_1 x_4).bind fun x_5=>
    (bonds_Encode F x_5).bind fun x_6=>
    if (x_6.2 != 0)=true then
      some (.done (.inr ([],x_6.2)))
    else
      some (.next ((mput m_3 (wu16 x_4) x_6.1),w64 (x_4+1)))
  else
    some (.done (.inl (m_3)))
def bonds_records (F:Nat) (l_1:(List T_Bond)):Option ((List (Int×(List Int)))×Int):=
  (iter (fun s=>bonds_records_l1 F l_1 s.1 s.2) F (([]:(List (Int×(List Int)))),0)).bind fun o=>
  match o with
  | .inl u=>bonds_records_j1 F u
  | .inr u=>some u
def flash_size (_:Nat) (s_1:T_Store):Option (Int):=
  some (len s_1.Flash.Banks.1)
def flash_Free_j1 (_:Nat) (x_2:Int):Option (Int):=
  some x_2
def flash_Free (F:Nat) (s_1:T_Store):Option (Int):=
  (flash_size F s_1).bind fun x_5=>
  flash_Free_j1 F (w64 (x_5 - s_1.End))
def slices_Clone_api_Item_api_Item (_:Nat) (s_1:(List T_Item)):Option ((List T_Item)):=
  (app 32 ([]:(List T_Item)) s_1).bind fun l_2=>
  some l_2
def flash_Plan_j1 (F:Nat) (s_1:T_Store) (l_9:(List Int)):Option ((List T_Write)×Int):=
  (flash_size F s_1).bind fun x_10=>
  if ((decide ((w64 (10+(len l_9))) > x_10))||(decide (s_1.Count≥4294967295)))=true then
    some ([],8)
  else
    (flash_header F (w64 (s_1.Count+1))).bind fun x_11=>
    some ([(T_Write.mk (w64 (1 - s_1.Bank)) true 0 []),(T_Write.mk (w64 (1 - s_1.Bank)) false 10 l_9),(T_Write.mk (w64 (1 - s_1.Bank)) false 0 x_11)],0)
def flash_Plan_l1 (F:Nat) (x_13:(List T_Item)) (l_14:(List Int)) (x_15:Int):Option (Out ((List Int)×Int) ((List Int))):=
  if (decide (x_15<(len x_13)))=true then
    (idx x_13 x_15).bind fun x_16=>
    (flash_record F x_16.Key x_16.Value).bind fun x_17=>
    (app 1 l_14 x_17).bind fun l_18=>
    some (.next (l_18,w64 (x_15+1)))
  else
    some (.done (l_14))
def flash_Plan (F:Nat) (s_1:T_Store) (key_2:Int) (value_3:(List Int)):Option ((List T_Write)×Int):=
  if (decide ((len value_3) > 1024))=true then
    some ([],4)
  else
    (flash_Get F s_1 key_2).bind fun x_4=>
    (if (x_4.2 == (decide ((len value_3) > 0)))=true then
      (slices_Equal_byte_byte F x_4.1 value_3).bind fun x_20=>
      some (x_20)
    else
      some (false)).bind fun z_6=>
    if z_6=true then
      some ([],0)
    else
      (flash_record F key_2 value_3).bind fun x_7=>
      (flash_Free F s_1).bind fun x_8=>
      if (decide ((len x_7)≤x_8))=true then
        some ([(T_Write.mk s_1.Bank false s_1.End x_7)],0)
      else
        (slices_Clone_api_Item_api_Item F s_1.Items).bind fun x_12=>
        (flash_set F x_12 (T_Item.mk key_2 value_3)).bind fun x_13=>
        (iter (fun s=>flash_Plan_l1 F x_13 s.1 s.2) F ([],0)).bind fun o=>
        flash_Plan_j1 F s_1 o
def flash_kept_j1 (_:Nat) (s_1:T_Store) (x_2:T_Flash) (l_3:(List T_Item)):Option (T_Store):=
  some ({ s_1 with Flash:=x_2,Items:=l_3 })
def flash_kept_l1 (F:Nat) (s_1:T_Store) (l_4:(List T_Item)) (x_5:Int):Option (Out ((List T_Item)×Int) ((List T_Item))):=
  if (decide (x_5<(len s_1.Items)))=true then
    (idx s_1.Items x_5).bind fun x_6=>
    (octets_Join F [x_6.Value]).bind fun x_9=>
    (app 32 l_4 [{ x_6 with Value:=x_9 }]).bind fun l_10=>
    some (.next (l_10,w64 (x_5+1)))
  else
    some (.done (l_4))
def flash_kept (F:Nat) (s_1:T_Store):Option (T_Store):=
  (flash_copied F s_1.Flash).bind fun x_2=>
  (iter (fun s=>flash_kept_l1 F s_1 s.1 s.2) F ([],0)).bind fun o=>
  flash_kept_j1 F s_1 x_2 o
def flash_Apply_j3 (_:Nat) (x_4:T_Flash) (l_8:(List Int)):Option (T_Flash):=
  some (T_Flash.mk (l_8,x_4.Banks.2))
def flash_Apply_j4 (_:Nat) (x_10:Int) (l_11:(List Int)):Option (Out ((List Int)×Int) ((List Int))):=
  some (.next (l_11,w64 (x_10+1)))
def flash_Apply_l1 (F:Nat) (w_2:T_Write) (x_7:Int) (l_9:(List Int)) (x_10:Int):Option (Out ((List Int)×Int) ((List Int))):=
  if (decide (x_10<x_7))=true then
    if w_2.Erase=true then
      (idx l_9 x_10).bind fun _=>
      (upd l_9 x_10 255).bind fun l_13=>
      flash_Apply_j4 F x_10 l_13
    else
      if (((decide (w_2.Offset<(len l_9)))&&(decide ((w64 (w_2.Offset+x_10))≥0)))&&(decide ((w64 (w_2.Offset+x_10))<(len l_9))))=true then
        (idx w_2.Bytes x_10).bind fun x_14=>
        (idx l_9 (w64 (w_2.Offset+x_10))).bind fun _=>
        (idx l_9 (w64 (w_2.Offset+x_10))).bind fun x_18=>
        (idx l_9 (w64 (w_2.Offset+x_10))).bind fun _=>
        (upd l_9 (w64 (w_2.Offset+x_10)) (iand .u8 x_18 x_14)).bind fun l_20=>
        flash_Apply_j4 F x_10 l_20
      else
        flash_Apply_j4 F x_10 l_9
  else
    some (.done (l_9))
def flash_Apply_j2 (F:Nat) (w_2:T_Write) (x_4:T_Flash) (x_7:Int):Option (T_Flash):=
  (iter (fun s=>flash_Apply_l1 F w_2 x_7 s.1 s.2) F (x_4.Banks.1,0)).bind fun o=>
  flash_Apply_j3 F x_4 o
def flash_Apply_j1 (F:Nat) (w_2:T_Write) (n_3:Int) (x_4:T_Flash) (x_6:Int):Option (T_Flash):=
  if ((decide (n_3<0))||(decide (n_3 > x_6)))=true then
    flash_Apply_j2 F w_2 x_4 x_6
  else
    flash_Apply_j2 F w_2 x_4 n_3
def flash_Apply_j7 (_:Nat) (x_4:T_Flash) (l_24:(List Int)):Option (T_Flash):=
  some (T_Flash.mk (x_4.Banks.1,l_24))
def flash_Apply_j8 (_:Nat) (x_26:Int) (l_27:(List Int)):Option (Out ((List Int)×Int) ((List Int))):=
  some (.next (l_27,w64 (x_26+1)))
def flash_Apply_l2 (F:Nat) (w_2:T_Write) (x_23:Int) (l_25:(List Int)) (x_26:Int):Option (Out ((List Int)×Int) ((List Int))):=
  if (decide (x_26<x_23))=true then
    if w_2.Erase=true then
      (idx l_25 x_26).bind fun _=>
      (upd l_25 x_26 255).bind fun l_29=>
      flash_Apply_j8 F x_26 l_29
    else
      if (((decide (w_2.Offset<(len l_25)))&&(decide ((w64 (w_2.Offset+x_26))≥0)))&&(decide ((w64 (w_2.Offset+x_26))<(len l_25))))=true then
        (idx w_2.Bytes x_26).bind fun x_30=>
        (idx l_25 (w64 (w_2.Offset+x_26))).bind fun _=>
        (idx l_25 (w64 (w_2.Offset+x_26))).bind fun x_34=>
        (idx l_25 (w64 (w_2.Offset+x_26))).bind fun _=>
        (upd l_25 (w64 (w_2.Offset+x_26)) (iand .u8 x_34 x_30)).bind fun l_36=>
        flash_Apply_j8 F x_26 l_36
      else
        flash_Apply_j8 F x_26 l_25
  else
    some (.done (l_25))
def flash_Apply_j6 (F:Nat) (w_2:T_Write) (x_4:T_Flash) (x_23:Int):Option (T_Flash):=
  (iter (fun s=>flash_Apply_l2 F w_2 x_23 s.1 s.2) F (x_4.Banks.2,0)).bind fun o=>
  flash_Apply_j7 F x_4 o
def flash_Apply_j5 (F:Nat) (w_2:T_Write) (n_3:Int) (x_4:T_Flash) (x_22:Int):Option (T_Flash):=
  if ((decide (n_3<0))||(decide (n_3 > x_22)))=true then
    flash_Apply_j6 F w_2 x_4 x_22
  else
    flash_Apply_j6 F w_2 x_4 n_3
def flash_Apply (F:Nat) (f_1:T_Flash) (w_2:T_Write) (n_3:Int):Option (T_Flash):=
  (flash_copied F f_1).bind fun x_4=>
  if ((w_2.Bank != 0)&&(w_2.Bank != 1))=true then
    some x_4
  else
    if (w_2.Bank == 0)=true then
      if w_2.Erase=true then
        flash_Apply_j1 F w_2 n_3 x_4 (len x_4.Banks.1)
      else
        flash_Apply_j1 F w_2 n_3 x_4 (len w_2.Bytes)
    else
      if (w_2.Bank == 1)=true then
        if w_2.Erase=true then
          flash_Apply_j5 F w_2 n_3 x_4 (len x_4.Banks.2)
        else
          flash_Apply_j5 F w_2 n_3 x_4 (len w_2.Bytes)
      else
        none
def flash_Put_j1 (F:Nat) (c_8:T_Flash):Option (T_Store×Int):=
  (flash_Mount F c_8).bind fun x_9=>
  some (x_9.1,x_9.2)
def flash_Put_l1 (F:Nat) (x_4:(List T_Write)×Int) (c_12:T_Flash) (x_13:Int):Option (Out (T_Flash×Int) (T_Flash)):=
  if (decide (x_13<(len x_4.1)))=true then
    (idx x_4.1 x_13).bind fun x_14=>
    (flash_Apply F c_12 x_14 (-1)).bind fun x_15=>
    some (.next (x_15,w64 (x_13+1)))
  else
    some (.done (c_12))
def flash_Put (F:Nat) (s_1:T_Store) (key_2:Int) (value_3:(List Int)):Option (T_Store×Int):=
  (flash_Plan F s_1 key_2 value_3).bind fun x_4=>
  if ((x_4.2 != 0)||((len x_4.1) == 0))=true then
    (flash_kept F s_1).bind fun x_5=>
    some (x_5,x_4.2)
  else
    (iter (fun s=>flash_Put_l1 F x_4 s.1 s.2) F (s_1.Flash,0)).bind fun o=>
    flash_Put_j1 F o
def bonds_Plan_j1 (_:Nat) (l_4:(List T_Write)):Option ((List T_Write)×Int):=
  some (l_4,0)
def bonds_Plan_l1 (F:Nat) (x_3:(List (Int×(List Int)))×Int) (c_11:T_Store) (l_12:(List T_Write)) (x_13:Int):Option (Out (T_Store×(List T_Write)×Int) (Sum ((List T_Write)) ((List T_Write)×Int))):=
  if (decide (x_13<16))=true then
    (flash_Plan F c_11 x_13 (mval [] x_3.1 x_13)).bind fun x_14=>
    if (x_14.2 != 0)=true then
      some (.done (.inr ([],x_14.2)))
    else
      (flash_Put F c_11 x_13 (mval [] x_3.1 x_13)).bind fun x_15=>
      if (x_15.2 != 0)=true then
        some (.done (.inr ([],x_15.2)))
      else
        (app 48 l_12 x_14.1).bind fun l_16=>
        some (.next (x_15.1,l_16,wu16 (x_13+1)))
  else
    some (.done (.inl (l_12)))
def bonds_Plan (F:Nat) (s_1:T_Store) (l_2:(List T_Bond)):Option ((List T_Write)×Int):=
  if (decide ((len l_2) > 16))=true then
    some ([],4)
  else
    (bonds_records F l_2).bind fun x_3=>
    if (x_3.2 != 0)=true then
      some ([],x_3.2)
    else
      (iter (fun s=>bonds_Plan_l1 F x_3 s.1 s.2.1 s.2.2) F (s_1,[],0)).bind fun o=>
      match o with
      | .inl u=>bonds_Plan_j1 F u
      | .inr u=>some u
def wirelessref39_Size_j1 (_:Nat) (x_3:Int):Option (Int):=
  some x_3
def wirelessref39_Size_j2 (_:Nat) (x_5:Int) (x_6:Int):Option (Out (Int×Int) (Int)):=
  some (.next (x_6,w64 (x_5+1)))
def wirelessref39_Size_l1 (F:Nat) (l_1:(List T_Write)) (size_2:Int) (x_4:Int) (x_5:Int):Option (Out (Int×Int) (Int)):=
  if (decide (x_5<(len l_1)))=true then
    (idx l_1 x_5).bind fun x_7=>
    if x_7.Erase=true then
      wirelessref39_Size_j2 F x_5 (w64 (x_4+size_2))
    else
      (idx l_1 x_5).bind fun x_8=>
      wirelessref39_Size_j2 F x_5 (w64 (x_4+(len x_8.Bytes)))
  else
    some (.done (x_4))
def wirelessref39_Size (F:Nat) (l_1:(List T_Write)) (size_2:Int):Option (Int):=
  (iter (fun s=>wirelessref39_Size_l1 F l_1 size_2 s.1 s.2) F (0,0)).bind fun o=>
  wirelessref39_Size_j1 F o
def wirelesslaw40_key_j1 (_:Nat):Option (Bool×Bool):=
  some (false,false)
def wirelesslaw40_key_j3 (_:Nat) (z_6:Bool):Option (Out (Int) (Sum (Unit) (Bool×Bool))):=
  some (.done (.inr (true,z_6)))
def wirelesslaw40_key_j2 (F:Nat) (l_1:(List T_Bond)) (k_3:Int) (x_4:Int) (z_5:Bool):Option (Out (Int) (Sum (Unit) (Bool×Bool))):=
  if z_5=true then
    (idx l_1 x_4).bind fun x_7=>
    wirelesslaw40_key_j3 F (x_7.LTK == k_3)
  else
    some (.next (w64 (x_4+1)))
def wirelesslaw40_key_l1 (F:Nat) (l_1:(List T_Bond)) (a_2:T_Address) (k_3:Int) (x_4:Int):Option (Out (Int) (Sum (Unit) (Bool×Bool))):=
  if (decide (x_4<(len l_1)))=true then
    (idx l_1 x_4).bind fun x_10=>
    wirelesslaw40_key_j2 F l_1 k_3 x_4 ((x_10.Peer.Address.Kind == a_2.Kind)&&(x_10.Peer.Address.Bits == a_2.Bits))
  else
    some (.done (.inl ()))
def wirelesslaw40_key (F:Nat) (l_1:(List T_Bond)) (a_2:T_Address) (k_3:Int):Option (Bool×Bool):=
  (iter (fun s=>wirelesslaw40_key_l1 F l_1 a_2 k_3 s) F (0)).bind fun o=>
  match o with
  | .inl _=>wirelesslaw40_key_j1 F
  | .inr u=>some u
def wirelesslaw40_kept_j2 (_:Nat):Option (Bool):=
  some true
def wirelesslaw40_kept_l1 (F:Nat) (was_1:(List T_Bond)) (now_2:(List T_Bond)) (got_3:(List T_Bond)) (x_4:Int):Option (Out (Int) (Sum (Unit) (Bool))):=
  if (decide (x_4<(len was_1)))=true then
    (idx was_1 x_4).bind fun x_5=>
    (wirelesslaw40_key F now_2 x_5.Peer.Address 0).bind fun x_6=>
    (wirelesslaw40_key F got_3 x_5.Peer.Address 0).bind fun x_7=>
    if (x_6.1&&(!x_7.1))=true then
      some (.done (.inr false))
    else
      some (.next (w64 (x_4+1)))
  else
    some (.done (.inl ()))
def wirelesslaw40_kept_j1 (F:Nat) (was_1:(List T_Bond)) (now_2:(List T_Bond)) (got_3:(List T_Bond)):Option (Bool):=
  (iter (fun s=>wirelesslaw40_kept_l1 F was_1 now_2 got_3 s) F (0)).bind fun o=>
  match o with
  | .inl _=>wirelesslaw40_kept_j2 F
  | .inr u=>some u
def wirelesslaw40_kept_j4 (_:Nat) (x_8:Int) (z_9:Bool) (z_10:Bool) (z_11:Bool) (z_12:Bool):Option (Out (Int) (Sum (Unit) (Bool))):=
  if (((!z_9)&&(!z_11))||(((z_9&&z_11)&&(!z_10))&&(!z_12)))=true then
    some (.done (.inr false))
  else
    some (.next (w64 (x_8+1)))
def wirelesslaw40_kept_j3 (F:Nat) (now_2:(List T_Bond)) (got_3:(List T_Bond)) (x_8:Int) (z_9:Bool) (z_10:Bool):Option (Out (Int) (Sum (Unit) (Bool))):=
  (idx got_3 x_8).bind fun x_13=>
  (idx got_3 x_8).bind fun x_14=>
  (wirelesslaw40_key F now_2 x_13.Peer.Address x_14.LTK).bind fun x_17=>
  wirelesslaw40_kept_j4 F x_8 z_9 z_10 x_17.1 x_17.2
def wirelesslaw40_kept_l2 (F:Nat) (was_1:(List T_Bond)) (now_2:(List T_Bond)) (got_3:(List T_Bond)) (x_8:Int):Option (Out (Int) (Sum (Unit) (Bool))):=
  if (decide (x_8<(len got_3)))=true then
    (idx got_3 x_8).bind fun x_18=>
    (idx got_3 x_8).bind fun x_19=>
    (wirelesslaw40_key F was_1 x_18.Peer.Address x_19.LTK).bind fun x_22=>
    wirelesslaw40_kept_j3 F now_2 got_3 x_8 x_22.1 x_22.2
  else
    some (.done (.inl ()))
def wirelesslaw40_kept (F:Nat) (was_1:(List T_Bond)) (now_2:(List T_Bond)) (got_3:(List T_Bond)):Option (Bool):=
  (iter (fun s=>wirelesslaw40_kept_l2 F was_1 now_2 got_3 s) F (0)).bind fun o=>
  match o with
  | .inl _=>wirelesslaw40_kept_j1 F was_1 now_2 got_3
  | .inr u=>some u
def wirelessref40_Same_j1 (_:Nat):Option (Bool):=
  some true
def wirelessref40_Same_j2 (_:Nat) (x_3:Int) (z_4:Bool):Option (Out (Int) (Sum (Unit) (Bool))):=
  if z_4=true then
    some (.done (.inr false))
  else
    some (.next (w64 (x_3+1)))
def wirelessref40_Same_l1 (F:Nat) (a_1:(List T_Bond)) (b_2:(List T_Bond)) (x_3:Int):Option (Out (Int) (Sum (Unit) (Bool))):=
  if (decide (x_3<(len a_1)))=true then
    (idx a_1 x_3).bind fun x_5=>
    (idx b_2 x_3).bind fun x_6=>
    (wirelessref40_SameBond F x_5 x_6).bind fun x_9=>
    wirelessref40_Same_j2 F x_3 (!x_9)
  else
    some (.done (.inl ()))
def wirelessref40_Same (F:Nat) (a_1:(List T_Bond)) (b_2:(List T_Bond)):Option (Bool):=
  if ((len a_1) != (len b_2))=true then
    some false
  else
    (iter (fun s=>wirelessref40_Same_l1 F a_1 b_2 s) F (0)).bind fun o=>
    match o with
    | .inl _=>wirelessref40_Same_j1 F
    | .inr u=>some u
def wirelesslaw40_BondsPersist_j1 (_:Nat):Option (Bool):=
  some true
def wirelesslaw40_BondsPersist_j2 (_:Nat) (x_8:Int) (c_11:T_Flash):Option (Out (T_Flash×Int) (Sum (Unit) (Bool))):=
  some (.next (c_11,w64 (x_8+1)))
def wirelesslaw40_BondsPersist_j6 (F:Nat) (x_8:Int) (x_14:(List T_Bond)) (l_17:(List T_Bond)) (x_20:Int) (x_21:Int) (c_24:T_Flash):Option (Out (T_Flash×Int) (Sum (Unit) (Bool))):=
  (wirelessref39_Copy F c_24).bind fun x_25=>
  (flash_Mount F x_25).bind fun x_26=>
  (bonds_Load F x_26.1).bind fun x_27=>
  (if (x_26.2 != 0)=true then
    some (true)
  else
    (wirelesslaw40_kept F x_14 l_17 x_27).bind fun x_36=>
    some ((!x_36))).bind fun z_29=>
  (if z_29=true then
    some (true)
  else
    if (x_21 == x_20)=true then
      (wirelessref40_Same F x_27 l_17).bind fun x_34=>
      some ((!x_34))
    else
      some (false)).bind fun z_31=>
  if z_31=true then
    some (.done (.inr false))
  else
    wirelesslaw40_BondsPersist_j2 F x_8 c_24
def wirelesslaw40_BondsPersist_j7 (F:Nat) (size_1:Int) (l_18:(List T_Write)) (x_40:Int) (x_41:Int) (c_44:T_Flash):Option (Out (T_Flash×Int×Int) (T_Flash)):=
  (sub l_18 x_40 (w64 (x_40+1))).bind fun l_45=>
  (wirelessref39_Size F l_45 size_1).bind fun x_46=>
  some (.next (c_44,w64 (x_40+1),w64 (x_41 - x_46)))
def wirelesslaw40_BondsPersist_l2 (F:Nat) (size_1:Int) (l_18:(List T_Write)) (c_39:T_Flash) (x_40:Int) (x_41:Int):Option (Out (T_Flash×Int×Int) (T_Flash)):=
  if ((decide (x_40<(len l_18)))&&(decide (x_41 > 0)))=true then
    (idx l_18 x_40).bind fun x_47=>
    (flash_Apply F c_39 x_47 x_41).bind fun x_50=>
    wirelesslaw40_BondsPersist_j7 F size_1 l_18 x_40 x_41 x_50
  else
    some (.done (c_39))
def wirelesslaw40_BondsPersist_j5 (F:Nat) (size_1:Int) (c_7:T_Flash) (x_8:Int) (x_14:(List T_Bond)) (l_17:(List T_Bond)) (l_18:(List T_Write)) (x_20:Int) (x_21:Int):Option (Out (T_Flash×Int) (Sum (Unit) (Bool))):=
  (iter (fun s=>wirelesslaw40_BondsPersist_l2 F size_1 l_18 s.1 s.2.1 s.2.2) F (c_7,0,x_21)).bind fun o=>
  wirelesslaw40_BondsPersist_j6 F x_8 x_14 l_17 x_20 x_21 o
def wirelesslaw40_BondsPersist_j4 (F:Nat) (size_1:Int) (c_7:T_Flash) (x_8:Int) (x_14:(List T_Bond)) (x_16:T_wirelesslaw40_Step) (l_17:(List T_Bond)) (l_18:(List T_Write)) (x_19:Int):Option (Out (T_Flash×Int) (Sum (Unit) (Bool))):=
  if (x_19 != 0)=true then
    wirelesslaw40_BondsPersist_j2 F x_8 c_7
  else
    (wirelessref39_Size F l_18 size_1).bind fun x_20=>
    if ((decide (x_16.Cut<0))||(decide (x_16.Cut > x_20)))=true then
      wirelesslaw40_BondsPersist_j5 F size_1 c_7 x_8 x_14 l_17 l_18 x_20 x_20
    else
      wirelesslaw40_BondsPersist_j5 F size_1 c_7 x_8 x_14 l_17 l_18 x_20 x_16.Cut
def wirelesslaw40_BondsPersist_j3 (F:Nat) (size_1:Int) (c_7:T_Flash) (x_8:Int) (x_13:T_Store×Int) (x_14:(List T_Bond)) (x_16:T_wirelesslaw40_Step) (l_17:(List T_Bond)):Option (Out (T_Flash×Int) (Sum (Unit) (Bool))):=
  (wirelessref40_Copy F l_17).bind fun x_53=>
  (bonds_Plan F x_13.1 x_53).bind fun x_54=>
  wirelesslaw40_BondsPersist_j4 F size_1 c_7 x_8 x_14 x_16 l_17 x_54.1 x_54.2
def wirelesslaw40_BondsPersist_l1 (F:Nat) (size_1:Int) (l_2:(List T_wirelesslaw40_Step)) (c_7:T_Flash) (x_8:Int):Option (Out (T_Flash×Int) (Sum (Unit) (Bool))):=
  if (decide (x_8<(len l_2)))=true then
    (wirelessref39_Copy F c_7).bind fun x_12=>
    (flash_Mount F x_12).bind fun x_13=>
    (bonds_Load F x_13.1).bind fun x_14=>
    (wirelessref40_Copy F x_14).bind fun _=>
    (idx l_2 x_8).bind fun x_16=>
    if (x_16.Kind == 0)=true then
      (wirelessref40_Copy F x_14).bind fun x_137=>
      (wirelessref40_Copy F [x_16.Bond]).bind fun x_457=>
      (idx x_457 0).bind fun x_537=>
      (bonds_Add F x_137 x_537).bind fun x_697=>
      wirelesslaw40_BondsPersist_j3 F size_1 c_7 x_8 x_13 x_14 x_16 x_697.1
    else
      if (x_16.Kind == 1)=true then
        (wirelessref40_Copy F x_14).bind fun x_1259=>
        (bonds_Remove F x_1259 x_16.Index).bind fun x_1260=>
        wirelesslaw40_BondsPersist_j3 F size_1 c_7 x_8 x_13 x_14 x_16 x_1260.1
      else
        (wirelessref40_Copy F x_14).bind fun x_1263=>
        (bonds_Touch F x_1263 x_16.Index).bind fun x_1264=>
        wirelesslaw40_BondsPersist_j3 F size_1 c_7 x_8 x_13 x_14 x_16 x_1264
  else
    some (.done (.inl ()))
def wirelesslaw40_BondsPersist (F:Nat) (size_1:Int) (l_2:(List T_wirelesslaw40_Step)):Option (Bool):=
  (wirelesslaw40_lives F).bind fun x_3=>
  if (!x_3)=true then
    some false
  else
    if (((decide (size_1<64))||(decide (size_1 > 4096)))||(decide ((len l_2) > 20)))=true then
      some true
    else
      (flash_Blank F size_1).bind fun x_4=>
      (iter (fun s=>wirelesslaw40_BondsPersist_l1 F size_1 l_2 s.1 s.2) F (x_4.1,0)).bind fun o=>
      match o with
      | .inl _=>wirelesslaw40_BondsPersist_j1 F
      | .inr u=>some u
end V
end Go.Proofs.YtbdhonofhlpdoaaDoor
