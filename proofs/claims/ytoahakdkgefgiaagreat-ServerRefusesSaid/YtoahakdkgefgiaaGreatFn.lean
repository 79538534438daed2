/- Pure twins of the Go functions, written by program. -/
import Derived.Test.YtoahakdkgefgiaaGreatPure
namespace Go.Proofs.YtoahakdkgefgiaaGreat
namespace V
structure T_UUID where
  High:Int
  Low:Int
structure T_Attribute where
  Handle:Int
  f_Type:T_UUID
  Perms:Int
  Value:(List Int)
structure T_Subscription where
  Handle:Int
  Bits:Int
structure T_AttItem where
  Handle:Int
  Last:Int
  f_Type:T_UUID
  Value:(List Int)
structure T_AttPDU where
  Kind:Int
  Asked:Int
  Handle:Int
  Last:Int
  f_Type:T_UUID
  Offset:Int
  MTU:Int
  Code:Int
  Commit:Bool
  Value:(List Int)
  List:(List T_AttItem)
structure T_Char where
  f_Type:T_UUID
  Props:Int
  Perms:Int
  Value:(List Int)
  More:(List T_Attribute)
structure T_Service where
  f_Type:T_UUID
  Primary:Bool
  Chars:(List T_Char)
structure T_Prepared where
  Handle:Int
  Offset:Int
  Value:(List Int)
structure T_Server where
  DB:(List T_Attribute)
  MTU:Int
  Max:Int
  Level:Int
  Queue:(List T_Prepared)
  Aware:Int
  Robust:Bool
  Subs:(List T_Subscription)
  Out:(List T_AttPDU)
  Wait:Bool
  Since:Int
structure T_database_place where
  char:Bool
  config:Bool
structure T_server_side where
  Server:T_Server
  written:(List Int)
structure T_Field where
  Size:Int
  Value:Int
structure T_wirelessref42_Uses where
  Known:Bool
  Asked:Bool
  Handle:Bool
  Last:Bool
  f_Type:Bool
  Offset:Bool
  MTU:Bool
  Code:Bool
  Commit:Bool
  Value:Bool
  List:Bool
def wirelesslaw45_light_j1 (_:Nat) (db_1:(List T_Attribute)) (x_2:Int):Option (Bool):=
  some ((decide ((len db_1)≤80))&&(decide (x_2≤4096)))
def wirelesslaw45_light_l1 (_:Nat) (db_1:(List T_Attribute)) (x_3:Int) (x_4:Int):Option (Out (Int×Int) (Sum (Int) (Bool))):=
  if ((decide (x_4<(len db_1)))&&(decide (x_4<80)))=true then
    (idx db_1 x_4).bind fun x_5=>
    if (decide ((len x_5.Value) > 4096))=true then
      some (.done (.inr false))
    else
      (idx db_1 x_4).bind fun x_6=>
      some (.next (w64 (x_3+(len x_6.Value)),w64 (x_4+1)))
  else
    some (.done (.inl (x_3)))
def wirelesslaw45_light (F:Nat) (db_1:(List T_Attribute)):Option (Bool):=
  (iter (fun s=>wirelesslaw45_light_l1 F db_1 s.1 s.2) F (0,0)).bind fun o=>
  match o with
  | .inl u=>wirelesslaw45_light_j1 F db_1 u
  | .inr u=>some u
def wirelessref41_Short (_:Nat) (n_1:Int):Option (T_UUID):=
  some (T_UUID.mk (wu64 ((wu64 ((wu64 n_1) * 4294967296))+4096)) 9223372588214596859)
def wirelessref43_Is_j1 (_:Nat) (z_3:Bool):Option (Bool):=
  some z_3
def wirelessref43_Is (F:Nat) (t_1:T_UUID) (n_2:Int):Option (Bool):=
  (wirelessref41_Short F n_2).bind fun x_6=>
  wirelessref43_Is_j1 F ((t_1.High == x_6.High)&&(t_1.Low == x_6.Low))
def wirelessref43_declares (F:Nat) (t_1:T_UUID):Option (Bool):=
  (wirelessref43_Is F t_1 10240).bind fun x_2=>
  (if x_2=true then
    some (true)
  else
    (wirelessref43_Is F t_1 10241).bind fun x_14=>
    some (x_14)).bind fun z_4=>
  (if z_4=true then
    some (true)
  else
    (wirelessref43_Is F t_1 10242).bind fun x_12=>
    some (x_12)).bind fun z_6=>
  (if z_6=true then
    some (true)
  else
    (wirelessref43_Is F t_1 10243).bind fun x_10=>
    some (x_10)).bind fun z_8=>
  some z_8
def wirelessref43_kept (F:Nat) (t_1:T_UUID):Option (Bool):=
  (wirelessref43_declares F t_1).bind fun x_2=>
  (if x_2=true then
    some (true)
  else
    (wirelessref43_Is F t_1 10498).bind fun x_6=>
    some (x_6)).bind fun z_4=>
  some z_4
def wirelessref43_part (F:Nat) (t_1:T_UUID) (props_2:Int) (perms_3:Int) (value_4:(List Int)):Option (Int):=
  (wirelessref43_kept F t_1).bind fun x_5=>
  if x_5=true then
    some 1
  else
    if ((((decide (props_2<0))||(decide (props_2 > 255)))||(decide (perms_3<0)))||(decide (perms_3 > 15)))=true then
      some 5
    else
      if (decide ((len value_4) > 512))=true then
        some 4
      else
        some 0
def wirelessref43_checkServices_j1 (_:Nat) (x_2:Int):Option (Int×Int):=
  some (x_2,0)
def wirelessref43_checkServices_j2 (_:Nat) (x_4:Int) (x_5:Int):Option (Out (Int×Int) (Sum (Int) (Int×Int))):=
  some (.next (x_5,w64 (x_4+1)))
def wirelessref43_checkServices_j3 (_:Nat) (x_7:Int) (x_9:Int):Option (Out (Int×Int) (Sum (Int) (Int×Int))):=
  some (.next (x_9,w64 (x_7+1)))
def wirelessref43_checkServices_j5 (_:Nat) (x_14:Int) (x_15:Int):Option (Out (Int) (Sum (Int) (Int×Int))):=
  if (x_15 != 0)=true then
    some (.done (.inr (0,x_15)))
  else
    some (.next (w64 (x_14+1)))
def wirelessref43_checkServices_l3 (F:Nat) (x_11:T_Char) (x_13:Int) (x_14:Int):Option (Out (Int) (Sum (Int) (Int×Int))):=
  if (decide (x_14<(len x_11.More)))=true then
    (idx x_11.More x_14).bind fun x_16=>
    (idx x_11.More x_14).bind fun x_17=>
    (idx x_11.More x_14).bind fun x_18=>
    (wirelessref43_part F x_16.f_Type 0 x_17.Perms x_18.Value).bind fun x_21=>
    wirelessref43_checkServices_j5 F x_14 x_21
  else
    some (.done (.inl (x_13)))
def wirelessref43_checkServices_j4 (F:Nat) (x_7:Int) (x_11:T_Char) (x_13:Int):Option (Out (Int×Int) (Sum (Int) (Int×Int))):=
  (iter (fun s=>wirelessref43_checkServices_l3 F x_11 x_13 s) F (0)).bind fun o=>
  match o with
  | .inl u=>wirelessref43_checkServices_j3 F x_7 u
  | .inr u=>some (.done (.inr u))
def wirelessref43_checkServices_l2 (F:Nat) (l_1:(List T_Service)) (x_4:Int) (x_6:Int) (x_7:Int):Option (Out (Int×Int) (Sum (Int) (Int×Int))):=
  (idx l_1 x_4).bind fun x_8=>
  if (decide (x_7<(len x_8.Chars)))=true then
    (idx l_1 x_4).bind fun x_10=>
    (idx x_10.Chars x_7).bind fun x_11=>
    (wirelessref43_part F x_11.f_Type x_11.Props x_11.Perms x_11.Value).bind fun x_12=>
    if (x_12 != 0)=true then
      some (.done (.inr (0,x_12)))
    else
      if ((iand .i64 x_11.Props 48) != 0)=true then
        wirelessref43_checkServices_j4 F x_7 x_11 (w64 ((w64 ((w64 (x_6+2))+(len x_11.More)))+1))
      else
        wirelessref43_checkServices_j4 F x_7 x_11 (w64 ((w64 (x_6+2))+(len x_11.More)))
  else
    some (.done (.inl (x_6)))
def wirelessref43_checkServices_l1 (F:Nat) (l_1:(List T_Service)) (x_3:Int) (x_4:Int):Option (Out (Int×Int) (Sum (Int) (Int×Int))):=
  if (decide (x_4<(len l_1)))=true then
    (iter (fun s=>wirelessref43_checkServices_l2 F l_1 x_4 s.1 s.2) F (w64 (x_3+1),0)).bind fun o=>
    match o with
    | .inl u=>wirelessref43_checkServices_j2 F x_4 u
    | .inr u=>some (.done (.inr u))
  else
    some (.done (.inl (x_3)))
def wirelessref43_checkServices (F:Nat) (l_1:(List T_Service)):Option (Int×Int):=
  (iter (fun s=>wirelessref43_checkServices_l1 F l_1 s.1 s.2) F (0,0)).bind fun o=>
  match o with
  | .inl u=>wirelessref43_checkServices_j1 F u
  | .inr u=>some u
def wirelessref41_Number_j1 (_:Nat) (u_1:T_UUID) (z_2:Bool):Option (Int×Bool):=
  if z_2=true then
    some (0,false)
  else
    some (wu16 (quop .u64 u_1.High 4294967296),true)
def wirelessref41_Number (F:Nat) (u_1:T_UUID):Option (Int×Bool):=
  if (decide ((quop .u64 u_1.High 4294967296) > 65535))=true then
    wirelessref41_Number_j1 F u_1 true
  else
    (wirelessref41_Short F (wu16 (quop .u64 u_1.High 4294967296))).bind fun x_6=>
    wirelessref41_Number_j1 F u_1 (!((x_6.High == u_1.High)&&(x_6.Low == u_1.Low)))
def wirelessref23_Put_j1 (_:Nat) (l_3:(List Int)):Option ((List Int)):=
  some l_3
def wirelessref23_Put_l1 (_:Nat) (size_2:Int) (x_4:Int) (l_5:(List Int)) (x_6:Int):Option (Out (Int×(List Int)×Int) ((List Int))):=
  if (decide (x_6<size_2))=true then
    (app 1 l_5 [wu8 (remp x_4 256)]).bind fun l_7=>
    some (.next ((quop .u64 x_4 256),l_7,w64 (x_6+1)))
  else
    some (.done (l_5))
def wirelessref23_Put (F:Nat) (n_1:Int) (size_2:Int):Option ((List Int)):=
  (iter (fun s=>wirelessref23_Put_l1 F size_2 s.1 s.2.1 s.2.2) F (n_1,[],0)).bind fun o=>
  wirelessref23_Put_j1 F o
def wirelessref41_Encode_j1 (_:Nat) (l_4:(List Int)):Option ((List Int)):=
  some l_4
def wirelessref41_Encode (F:Nat) (u_1:T_UUID):Option ((List Int)):=
  (wirelessref41_Number F u_1).bind fun x_2=>
  if x_2.2=true then
    (wirelessref23_Put F (wu64 x_2.1) 2).bind fun x_3=>
    some x_3
  else
    (wirelessref23_Put F u_1.Low 8).bind fun x_7=>
    (wirelessref23_Put F u_1.High 8).bind fun x_8=>
    (app 1 x_7 x_8).bind fun l_9=>
    wirelessref41_Encode_j1 F l_9
def wirelessref43_add_j1 (_:Nat) (l_6:(List T_Attribute)):Option ((List T_Attribute)):=
  some l_6
def wirelessref43_add (F:Nat) (db_1:(List T_Attribute)) (first_2:Int) (t_3:T_UUID) (perms_4:Int) (value_5:(List Int)):Option ((List T_Attribute)):=
  (app 1 ([]:(List Int)) value_5).bind fun l_809=>
  (app 56 db_1 [(T_Attribute.mk (wu16 (first_2+(wu16 (len db_1)))) t_3 perms_4 l_809)]).bind fun l_1049=>
  wirelessref43_add_j1 F l_1049
def wirelessref43_addChar_j4 (_:Nat) (l_8:(List T_Attribute)):Option ((List T_Attribute)):=
  some l_8
def wirelessref43_addChar_l1 (F:Nat) (first_2:Int) (c_3:T_Char) (l_9:(List T_Attribute)) (x_10:Int):Option (Out ((List T_Attribute)×Int) ((List T_Attribute))):=
  if (decide (x_10<(len c_3.More)))=true then
    (idx c_3.More x_10).bind fun x_11=>
    (idx c_3.More x_10).bind fun x_12=>
    (idx c_3.More x_10).bind fun x_13=>
    (wirelessref43_add F l_9 first_2 x_11.f_Type x_12.Perms x_13.Value).bind fun x_16=>
    some (.next (x_16,w64 (x_10+1)))
  else
    some (.done (l_9))
def wirelessref43_addChar_j3 (F:Nat) (first_2:Int) (c_3:T_Char) (l_7:(List T_Attribute)):Option ((List T_Attribute)):=
  (iter (fun s=>wirelessref43_addChar_l1 F first_2 c_3 s.1 s.2) F (l_7,0)).bind fun o=>
  wirelessref43_addChar_j4 F o
def wirelessref43_addChar_j2 (F:Nat) (first_2:Int) (c_3:T_Char) (l_5:(List T_Attribute)):Option ((List T_Attribute)):=
  (wirelessref43_add F l_5 first_2 c_3.f_Type c_3.Perms c_3.Value).bind fun x_6=>
  if ((iand .i64 c_3.Props 48) != 0)=true then
    (wirelessref41_Short F 10498).bind fun x_17=>
    (wirelessref43_add F x_6 first_2 x_17 3 [0,0]).bind fun x_18=>
    wirelessref43_addChar_j3 F first_2 c_3 x_18
  else
    wirelessref43_addChar_j3 F first_2 c_3 x_6
def wirelessref43_addChar_j1 (F:Nat) (db_1:(List T_Attribute)) (first_2:Int) (c_3:T_Char) (l_4:(List Int)):Option ((List T_Attribute)):=
  (wirelessref41_Short F 10243).bind fun x_21=>
  (wirelessref41_Encode F c_3.f_Type).bind fun x_22=>
  (app 1 l_4 x_22).bind fun l_23=>
  (wirelessref43_add F db_1 first_2 x_21 1 l_23).bind fun x_24=>
  wirelessref43_addChar_j2 F first_2 c_3 x_24
def wirelessref43_addChar (F:Nat) (db_1:(List T_Attribute)) (first_2:Int) (c_3:T_Char):Option ((List T_Attribute)):=
  (wirelessref23_Put F (wu64 (w64 ((w64 ((w64 first_2)+(len db_1)))+1))) 2).bind fun x_907=>
  (app 1 [wu8 c_3.Props] x_907).bind fun l_987=>
  wirelessref43_addChar_j1 F db_1 first_2 c_3 l_987
def wirelessref43_Build_j1 (_:Nat) (l_4:(List T_Attribute)):Option ((List T_Attribute)×Int):=
  some (l_4,0)
def wirelessref43_Build_j2 (_:Nat) (x_6:Int) (l_7:(List T_Attribute)):Option (Out ((List T_Attribute)×Int) ((List T_Attribute))):=
  some (.next (l_7,w64 (x_6+1)))
def wirelessref43_Build_l2 (F:Nat) (l_1:(List T_Service)) (first_2:Int) (x_6:Int) (l_10:(List T_Attribute)) (x_11:Int):Option (Out ((List T_Attribute)×Int) ((List T_Attribute))):=
  (idx l_1 x_6).bind fun x_12=>
  if (decide (x_11<(len x_12.Chars)))=true then
    (idx l_1 x_6).bind fun x_13=>
    (idx x_13.Chars x_11).bind fun x_14=>
    (wirelessref43_addChar F l_10 first_2 x_14).bind fun x_15=>
    some (.next (x_15,w64 (x_11+1)))
  else
    some (.done (l_10))
def wirelessref43_Build_j4 (F:Nat) (l_1:(List T_Service)) (first_2:Int) (x_6:Int) (l_9:(List T_Attribute)):Option (Out ((List T_Attribute)×Int) ((List T_Attribute))):=
  (iter (fun s=>wirelessref43_Build_l2 F l_1 first_2 x_6 s.1 s.2) F (l_9,0)).bind fun o=>
  wirelessref43_Build_j2 F x_6 o
def wirelessref43_Build_j3 (F:Nat) (l_1:(List T_Service)) (first_2:Int) (l_5:(List T_Attribute)) (x_6:Int) (x_8:Int):Option (Out ((List T_Attribute)×Int) ((List T_Attribute))):=
  (idx l_1 x_6).bind fun x_16=>
  (wirelessref41_Short F x_8).bind fun x_19=>
  (wirelessref41_Encode F x_16.f_Type).bind fun x_20=>
  (wirelessref43_add F l_5 first_2 x_19 1 x_20).bind fun x_21=>
  wirelessref43_Build_j4 F l_1 first_2 x_6 x_21
def wirelessref43_Build_l1 (F:Nat) (l_1:(List T_Service)) (first_2:Int) (l_5:(List T_Attribute)) (x_6:Int):Option (Out ((List T_Attribute)×Int) ((List T_Attribute))):=
  if (decide (x_6<(len l_1)))=true then
    (idx l_1 x_6).bind fun x_22=>
    if x_22.Primary=true then
      wirelessref43_Build_j3 F l_1 first_2 l_5 x_6 10240
    else
      wirelessref43_Build_j3 F l_1 first_2 l_5 x_6 10241
  else
    some (.done (l_5))
def wirelessref43_Build (F:Nat) (l_1:(List T_Service)) (first_2:Int):Option ((List T_Attribute)×Int):=
  if (first_2 == 0)=true then
    some ([],5)
  else
    (wirelessref43_checkServices F l_1).bind fun x_3=>
    if (x_3.2 != 0)=true then
      some ([],x_3.2)
    else
      if (decide (x_3.1 > 1000))=true then
        some ([],4)
      else
        if (decide ((w64 ((w64 ((w64 first_2)+x_3.1)) - 1)) > 65535))=true then
          some ([],8)
        else
          (iter (fun s=>wirelessref43_Build_l1 F l_1 first_2 s.1 s.2) F ([],0)).bind fun o=>
          wirelessref43_Build_j1 F o
def wirelesslaw45_sample (F:Nat) (t_1:Int):Option ((List T_Attribute)):=
  (wirelessref41_Short F 6159).bind fun x_2=>
  (wirelessref41_Short F t_1).bind fun x_3=>
  (wirelessref43_Build F [(T_Service.mk x_2 true [(T_Char.mk x_3 2 1 [50] [])])] 1).bind fun x_4=>
  some x_4.1
def uuid_bytes_j1 (_:Nat) (u_1:T_UUID):Option ((Int×Int×Int×Int×Int×Int×Int×Int×Int×Int×Int×Int×Int×Int×Int×Int)):=
  some (wu8 (shrp u_1.Low 0),wu8 (shrp u_1.Low 8),wu8 (shrp u_1.Low 16),wu8 (shrp u_1.Low 24),wu8 (shrp u_1.Low 32),wu8 (shrp u_1.Low 40),wu8 (shrp u_1.Low 48),wu8 (shrp u_1.Low 56),wu8 (shrp u_1.High 0),wu8 (shrp u_1.High 8),wu8 (shrp u_1.High 16),wu8 (shrp u_1.High 24),wu8 (shrp u_1.High 32),wu8 (shrp u_1.High 40),wu8 (shrp u_1.High 48),wu8 (shrp u_1.High 56))
def uuid_bytes_u4_8 (F:Nat) (u_1:T_UUID):Option ((Int×Int×Int×Int×Int×Int×Int×Int×Int×Int×Int×Int×Int×Int×Int×Int)):=
  uuid_bytes_j1 F u_1
def uuid_bytes_u4_7 (F:Nat) (u_1:T_UUID):Option ((Int×Int×Int×Int×Int×Int×Int×Int×Int×Int×Int×Int×Int×Int×Int×Int)):=
  uuid_bytes_u4_8 F u_1
def uuid_bytes_u4_6 (F:Nat) (u_1:T_UUID):Option ((Int×Int×Int×Int×Int×Int×Int×Int×Int×Int×Int×Int×Int×Int×Int×Int)):=
  uuid_bytes_u4_7 F u_1
def uuid_bytes_u4_5 (F:Nat) (u_1:T_UUID):Option ((Int×Int×Int×Int×Int×Int×Int×Int×Int×Int×Int×Int×Int×Int×Int×Int)):=
  uuid_bytes_u4_6 F u_1
def uuid_bytes_u4_4 (F:Nat) (u_1:T_UUID):Option ((Int×Int×Int×Int×Int×Int×Int×Int×Int×Int×Int×Int×Int×Int×Int×Int)):=
  uuid_bytes_u4_5 F u_1
def uuid_bytes_u4_3 (F:Nat) (u_1:T_UUID):Option ((Int×Int×Int×Int×Int×Int×Int×Int×Int×Int×Int×Int×Int×Int×Int×Int)):=
  uuid_bytes_u4_4 F u_1
def uuid_bytes_u4_2 (F:Nat) (u_1:T_UUID):Option ((Int×Int×Int×Int×Int×Int×Int×Int×Int×Int×Int×Int×Int×Int×Int×Int)):=
  uuid_bytes_u4_3 F u_1
def uuid_bytes_u4_1 (F:Nat) (u_1:T_UUID):Option ((Int×Int×Int×Int×Int×Int×Int×Int×Int×Int×Int×Int×Int×Int×Int×Int)):=
  uuid_bytes_u4_2 F u_1
def uuid_bytes (F:Nat) (u_1:T_UUID):Option ((Int×Int×Int×Int×Int×Int×Int×Int×Int×Int×Int×Int×Int×Int×Int×Int)):=
  uuid_bytes_u4_1 F u_1
def uuid_Number_j1 (_:Nat) (x_2:(Int×Int×Int×Int×Int×Int×Int×Int×Int×Int×Int×Int×Int×Int×Int×Int)) (z_3:Bool):Option (Int×Bool):=
  if z_3=true then
    some (0,false)
  else
    some (ior .u16 (wu16 x_2.2.2.2.2.2.2.2.2.2.2.2.2.1) (shlp .u16 (wu16 x_2.2.2.2.2.2.2.2.2.2.2.2.2.2.1) 8),true)
def uuid_Number (F:Nat) (u_1:T_UUID):Option (Int×Bool):=
  (uuid_bytes F u_1).bind fun x_2=>
  (uuid_bytes F (T_UUID.mk 4096 9223372588214596859)).bind fun x_6=>
  uuid_Number_j1 F x_2 (!((x_2.1 == x_6.1)&&((x_2.2.1 == x_6.2.1)&&((x_2.2.2.1 == x_6.2.2.1)&&((x_2.2.2.2.1 == x_6.2.2.2.1)&&((x_2.2.2.2.2.1 == x_6.2.2.2.2.1)&&((x_2.2.2.2.2.2.1 == x_6.2.2.2.2.2.1)&&((x_2.2.2.2.2.2.2.1 == x_6.2.2.2.2.2.2.1)&&((x_2.2.2.2.2.2.2.2.1 == x_6.2.2.2.2.2.2.2.1)&&((x_2.2.2.2.2.2.2.2.2.1 == x_6.2.2.2.2.2.2.2.2.1)&&((x_2.2.2.2.2.2.2.2.2.2.1 == x_6.2.2.2.2.2.2.2.2.2.1)&&((x_2.2.2.2.2.2.2.2.2.2.2.1 == x_6.2.2.2.2.2.2.2.2.2.2.1)&&((x_2.2.2.2.2.2.2.2.2.2.2.2.1 == x_6.2.2.2.2.2.2.2.2.2.2.2.1)&&((0 == x_6.2.2.2.2.2.2.2.2.2.2.2.2.1)&&((0 == x_6.2.2.2.2.2.2.2.2.2.2.2.2.2.1)&&((x_2.2.2.2.2.2.2.2.2.2.2.2.2.2.2.1 == x_6.2.2.2.2.2.2.2.2.2.2.2.2.2.2.1)&&(x_2.2.2.2.2.2.2.2.2.2.2.2.2.2.2.2 == x_6.2.2.2.2.2.2.2.2.2.2.2.2.2.2.2)))))))))))))))))
def slices_Index_uint16_uint16_j1 (_:Nat):Option (Int):=
  some (-1)
def slices_Index_uint16_uint16_l1 (_:Nat) (s_1:(List Int)) (v_2:Int) (x_3:Int):Option (Out (Int) (Sum (Unit) (Int))):=
  if (decide (x_3<(len s_1)))=true then
    (idx s_1 x_3).bind fun x_4=>
    if (v_2 == x_4)=true then
      some (.done (.inr x_3))
    else
      some (.next (w64 (x_3+1)))
  else
    some (.done (.inl ()))
def slices_Index_uint16_uint16 (F:Nat) (s_1:(List Int)) (v_2:Int):Option (Int):=
  (iter (fun s=>slices_Index_uint16_uint16_l1 F s_1 v_2 s) F (0)).bind fun o=>
  match o with
  | .inl _=>slices_Index_uint16_uint16_j1 F
  | .inr u=>some u
def slices_Contains_uint16_uint16 (F:Nat) (s_1:(List Int)) (v_2:Int):Option (Bool):=
  (slices_Index_uint16_uint16 F s_1 v_2).bind fun x_3=>
  some (decide (x_3≥0))
def database_is (F:Nat) (u_1:T_UUID) (numbers_2:(List Int)):Option (Bool):=
  (uuid_Number F u_1).bind fun x_3=>
  (if x_3.2=true then
    (slices_Contains_uint16_uint16 F numbers_2 x_3.1).bind fun x_7=>
    some (x_7)
  else
    some (false)).bind fun z_5=>
  some z_5
def database_service (F:Nat) (u_1:T_UUID):Option (Bool):=
  (database_is F u_1 [10240,10241]).bind fun x_2=>
  some x_2
def database_declaration (F:Nat) (u_1:T_UUID):Option (Bool):=
  (database_service F u_1).bind fun x_2=>
  (if x_2=true then
    some (true)
  else
    (database_is F u_1 [10242,10243]).bind fun x_6=>
    some (x_6)).bind fun z_4=>
  some z_4
def uuid_Short (_:Nat) (n_1:Int):Option (T_UUID):=
  some (T_UUID.mk (ior .u64 (shlp .u64 (wu64 n_1) 32) 4096) 9223372588214596859)
def uuid_Decode_j1 (_:Nat) (c_4:T_UUID):Option (T_UUID×Int):=
  some (c_4,0)
def uuid_Decode_j2 (F:Nat) (c_12:T_UUID):Option (T_UUID×Int):=
  (uuid_Number F c_12).bind fun x_13=>
  if x_13.2=true then
    some ((T_UUID.mk 0 0),2)
  else
    some (c_12,0)
def uuid_Decode_j3 (_:Nat) (b_1:(List Int)) (c_16:T_UUID) (x_17:Int) (x_18:Int):Option (Out (T_UUID×Int) (T_UUID)):=
  (idx b_1 (w64 (8+x_17))).bind fun x_19=>
  (ishl .u64 (wu64 x_19) (w64 (8 * x_17))).bind fun x_22=>
  some (.next ((T_UUID.mk (ior .u64 c_16.High x_22) x_18),w64 (x_17+1)))
def uuid_Decode_l1 (F:Nat) (b_1:(List Int)) (c_16:T_UUID) (x_17:Int):Option (Out (T_UUID×Int) (T_UUID)):=
  if (decide (x_17<8))=true then
    (idx b_1 x_17).bind fun x_23=>
    (ishl .u64 (wu64 x_23) (w64 (8 * x_17))).bind fun x_26=>
    uuid_Decode_j3 F b_1 c_16 x_17 (ior .u64 c_16.Low x_26)
  else
    some (.done (c_16))
def uuid_Decode (F:Nat) (b_1:(List Int)):Option (T_UUID×Int):=
  if ((len b_1) == 2)=true then
    (idx b_1 0).bind fun x_5=>
    (idx b_1 1).bind fun x_6=>
    (uuid_Short F (ior .u16 (wu16 x_5) (shlp .u16 (wu16 x_6) 8))).bind fun x_9=>
    uuid_Decode_j1 F x_9
  else
    if (decide ((len b_1)<16))=true then
      some ((T_UUID.mk 0 0),3)
    else
      if (decide ((len b_1) > 16))=true then
        some ((T_UUID.mk 0 0),2)
      else
        (iter (fun s=>uuid_Decode_l1 F b_1 s.1 s.2) F ((T_UUID.mk 0 0),0)).bind fun o=>
        uuid_Decode_j2 F o
def database_described_j1 (_:Nat) (x_3:T_UUID×Int) (x_4:Int) (x_5:Int):Option (Int×Int×T_UUID×Bool):=
  some (x_4,x_5,x_3.1,true)
def database_described (F:Nat) (b_1:(List Int)):Option (Int×Int×T_UUID×Bool):=
  if (decide ((len b_1)<3))=true then
    some (0,0,(T_UUID.mk 0 0),false)
  else
    (sub b_1 3 (len b_1)).bind fun l_2=>
    (uuid_Decode F l_2).bind fun x_3=>
    if (x_3.2 != 0)=true then
      some (0,0,(T_UUID.mk 0 0),false)
    else
      (idx b_1 0).bind fun x_6=>
      (idx b_1 1).bind fun x_7=>
      (idx b_1 2).bind fun x_8=>
      database_described_j1 F x_3 (w64 x_6) (ior .u16 (wu16 x_7) (shlp .u16 (wu16 x_8) 8))
def database_reserved (F:Nat) (u_1:T_UUID):Option (Bool):=
  (database_declaration F u_1).bind fun x_2=>
  (if x_2=true then
    some (true)
  else
    (database_is F u_1 [10498]).bind fun x_6=>
    some (x_6)).bind fun z_4=>
  some z_4
def database_wrong_j2 (_:Nat) (z_10:Bool):Option (Bool):=
  some z_10
def database_wrong_j1 (F:Nat) (db_1:(List T_Attribute)) (i_2:Int) (at_3:T_database_place) (x_4:T_Attribute) (z_5:Bool):Option (Bool):=
  if z_5=true then
    some true
  else
    (database_service F x_4.f_Type).bind fun x_6=>
    if x_6=true then
      (uuid_Decode F x_4.Value).bind fun x_7=>
      some (x_7.2 != 0)
    else
      (database_is F x_4.f_Type [10243]).bind fun x_8=>
      if x_8=true then
        (database_described F x_4.Value).bind fun x_9=>
        if (!x_9.2.2.2)=true then
          if (true||(decide ((w64 (i_2+1))≥(len db_1))))=true then
            database_wrong_j2 F true
          else
            (idx db_1 (w64 (i_2+1))).bind fun x_15=>
            if (x_15.Handle != x_9.2.1)=true then
              database_wrong_j2 F true
            else
              (idx db_1 (w64 (i_2+1))).bind fun x_17=>
              database_wrong_j2 F (!((x_17.f_Type.High == x_9.2.2.1.High)&&(x_17.f_Type.Low == x_9.2.2.1.Low)))
        else
          (database_reserved F x_9.2.2.1).bind fun x_18=>
          if (x_18||(decide ((w64 (i_2+1))≥(len db_1))))=true then
            database_wrong_j2 F true
          else
            (idx db_1 (w64 (i_2+1))).bind fun x_20=>
            if (x_20.Handle != x_9.2.1)=true then
              database_wrong_j2 F true
            else
              (idx db_1 (w64 (i_2+1))).bind fun x_22=>
              database_wrong_j2 F (!((x_22.f_Type.High == x_9.2.2.1.High)&&(x_22.f_Type.Low == x_9.2.2.1.Low)))
      else
        (database_is F x_4.f_Type [10498]).bind fun x_23=>
        if x_23=true then
          some ((((len x_4.Value) != 2)||(!at_3.char))||at_3.config)
        else
          some false
def database_wrong (F:Nat) (db_1:(List T_Attribute)) (i_2:Int) (at_3:T_database_place):Option (Bool):=
  (idx db_1 i_2).bind fun x_4=>
  (if (i_2 == 0)=true then
    (database_service F x_4.f_Type).bind fun x_28=>
    some ((!x_28))
  else
    some (false)).bind fun z_25=>
  if z_25=true then
    database_wrong_j1 F db_1 i_2 at_3 x_4 z_25
  else
    (database_declaration F x_4.f_Type).bind fun x_26=>
    database_wrong_j1 F db_1 i_2 at_3 x_4 (x_26&&((iand .i64 x_4.Perms 2) != 0))
def database_Check_j1 (_:Nat):Option (Int):=
  some 0
def database_Check_j2 (_:Nat) (x_6:Int) (x_7:Int) (c_10:T_database_place):Option (Out (Int×T_database_place×Int) (Sum (Unit) (Int))):=
  some (.next (x_7,c_10,w64 (x_6+1)))
def database_Check_l1 (F:Nat) (db_1:(List T_Attribute)) (x_2:Int) (c_5:T_database_place) (x_6:Int):Option (Out (Int×T_database_place×Int) (Sum (Unit) (Int))):=
  if (decide (x_6<(len db_1)))=true then
    (idx db_1 x_6).bind fun x_11=>
    if (decide (x_11.Handle≤x_2))=true then
      some (.done (.inr 13))
    else
      if ((decide (x_11.Perms<0))||(decide (x_11.Perms > 15)))=true then
        some (.done (.inr 5))
      else
        if (decide ((len x_11.Value) > 512))=true then
          some (.done (.inr 4))
        else
          (database_wrong F db_1 x_6 c_5).bind fun x_12=>
          if x_12=true then
            some (.done (.inr 1))
          else
            (database_service F x_11.f_Type).bind fun x_13=>
            if x_13=true then
              database_Check_j2 F x_6 x_11.Handle (T_database_place.mk false false)
            else
              (database_is F x_11.f_Type [10243]).bind fun x_14=>
              if x_14=true then
                database_Check_j2 F x_6 x_11.Handle (T_database_place.mk true false)
              else
                (database_is F x_11.f_Type [10498]).bind fun x_15=>
                if x_15=true then
                  database_Check_j2 F x_6 x_11.Handle ({ c_5 with config:=true })
                else
                  database_Check_j2 F x_6 x_11.Handle c_5
  else
    some (.done (.inl ()))
def database_Check (F:Nat) (db_1:(List T_Attribute)):Option (Int):=
  if (decide ((len db_1) > 1000))=true then
    some 4
  else
    (iter (fun s=>database_Check_l1 F db_1 s.1 s.2.1 s.2.2) F (0,(T_database_place.mk false false),0)).bind fun o=>
    match o with
    | .inl _=>database_Check_j1 F
    | .inr u=>some u
def server_is_j1 (_:Nat) (z_3:Bool):Option (Bool):=
  some z_3
def server_is (F:Nat) (u_1:T_UUID) (n_2:Int):Option (Bool):=
  (uuid_Short F n_2).bind fun x_6=>
  server_is_j1 F ((u_1.High == x_6.High)&&(u_1.Low == x_6.Low))
def server_owner_j1 (_:Nat):Option (Int×Int×Bool):=
  some (0,0,false)
def server_owner_j2 (_:Nat) (x_11:Int) (x_12:Int):Option (Out (Int) (Sum (Unit) (Int×Int×Bool))):=
  some (.done (.inr (x_11,x_12,true)))
def server_owner_l1 (F:Nat) (db_1:(List T_Attribute)) (x_3:Int):Option (Out (Int) (Sum (Unit) (Int×Int×Bool))):=
  (if (decide (x_3≥0))=true then
    (idx db_1 x_3).bind fun x_22=>
    (server_is F x_22.f_Type 10240).bind fun x_23=>
    some ((!x_23))
  else
    some (false)).bind fun z_5=>
  (if z_5=true then
    (idx db_1 x_3).bind fun x_19=>
    (server_is F x_19.f_Type 10241).bind fun x_20=>
    some ((!x_20))
  else
    some (false)).bind fun z_7=>
  if z_7=true then
    (idx db_1 x_3).bind fun x_8=>
    (idx db_1 x_3).bind fun x_9=>
    (server_is F x_9.f_Type 10243).bind fun x_10=>
    if (x_10&&(decide ((len x_8.Value) > 2)))=true then
      (idx x_8.Value 0).bind fun x_13=>
      (idx x_8.Value 1).bind fun x_14=>
      (idx x_8.Value 2).bind fun x_15=>
      server_owner_j2 F (w64 x_13) (ior .u16 (wu16 x_14) (shlp .u16 (wu16 x_15) 8))
    else
      some (.next (w64 (x_3 - 1)))
  else
    some (.done (.inl ()))
def server_owner (F:Nat) (db_1:(List T_Attribute)) (i_2:Int):Option (Int×Int×Bool):=
  (iter (fun s=>server_owner_l1 F db_1 s) F (i_2)).bind fun o=>
  match o with
  | .inl _=>server_owner_j1 F
  | .inr u=>some u
def server_bits_j2 (_:Nat) (x_3:Int):Option (Int):=
  some x_3
def server_bits_j1 (F:Nat) (props_1:Int) (x_2:Int):Option (Int):=
  if ((iand .i64 props_1 32) != 0)=true then
    server_bits_j2 F (ior .i64 x_2 2)
  else
    server_bits_j2 F x_2
def server_bits (F:Nat) (props_1:Int):Option (Int):=
  if ((iand .i64 props_1 16) != 0)=true then
    server_bits_j1 F props_1 (ior .i64 0 1)
  else
    server_bits_j1 F props_1 0
def server_subscribable_j1 (_:Nat):Option (Int×Bool):=
  some (0,false)
def server_subscribable_j2 (_:Nat) (x_3:Int):Option (Out (Int) (Sum (Unit) (Int×Bool))):=
  some (.next (w64 (x_3+1)))
def server_subscribable_l1 (F:Nat) (db_1:(List T_Attribute)) (handle_2:Int) (x_3:Int):Option (Out (Int) (Sum (Unit) (Int×Bool))):=
  if (decide (x_3<(len db_1)))=true then
    (idx db_1 x_3).bind fun x_4=>
    (server_is F x_4.f_Type 10498).bind fun x_5=>
    if (!x_5)=true then
      server_subscribable_j2 F x_3
    else
      (server_owner F db_1 x_3).bind fun x_6=>
      if (x_6.2.2&&(x_6.2.1 == handle_2))=true then
        (server_bits F x_6.1).bind fun x_7=>
        some (.done (.inr (x_7,true)))
      else
        server_subscribable_j2 F x_3
  else
    some (.done (.inl ()))
def server_subscribable (F:Nat) (db_1:(List T_Attribute)) (handle_2:Int):Option (Int×Bool):=
  (iter (fun s=>server_subscribable_l1 F db_1 handle_2 s) F (0)).bind fun o=>
  match o with
  | .inl _=>server_subscribable_j1 F
  | .inr u=>some u
def octets_Join_j1 (_:Nat) (l_2:(List Int)):Option ((List Int)):=
  some l_2
def octets_Join_l1 (_:Nat) (parts_1:(List (List Int))) (l_3:(List Int)) (x_4:Int):Option (Out ((List Int)×Int) ((List Int))):=
  if (decide (x_4<(len parts_1)))=true then
    (idx parts_1 x_4).bind fun x_5=>
    (app 1 l_3 x_5).bind fun l_6=>
    some (.next (l_6,w64 (x_4+1)))
  else
    some (.done (l_3))
def octets_Join (F:Nat) (parts_1:(List (List Int))):Option ((List Int)):=
  (iter (fun s=>octets_Join_l1 F parts_1 s.1 s.2) F ([],0)).bind fun o=>
  octets_Join_j1 F o
def server_attributes_j1 (_:Nat) (l_2:(List T_Attribute)):Option ((List T_Attribute)):=
  some l_2
def server_attributes_l1 (F:Nat) (db_1:(List T_Attribute)) (l_3:(List T_Attribute)) (x_4:Int):Option (Out ((List T_Attribute)×Int) ((List T_Attribute))):=
  if (decide (x_4<(len db_1)))=true then
    (idx db_1 x_4).bind fun x_5=>
    (octets_Join F [x_5.Value]).bind fun x_6=>
    (app 56 l_3 [{ x_5 with Value:=x_6 }]).bind fun l_7=>
    some (.next (l_7,w64 (x_4+1)))
  else
    some (.done (l_3))
def server_attributes (F:Nat) (db_1:(List T_Attribute)):Option ((List T_Attribute)):=
  (iter (fun s=>server_attributes_l1 F db_1 s.1 s.2) F ([],0)).bind fun o=>
  server_attributes_j1 F o
def slices_Clone_api_Subscription_api_Subscription (_:Nat) (s_1:(List T_Subscription)):Option ((List T_Subscription)):=
  (app 16 ([]:(List T_Subscription)) s_1).bind fun l_2=>
  some l_2
def server_New_j1 (F:Nat) (db_1:(List T_Attribute)) (max_2:Int) (level_3:Int) (robust_4:Bool) (aware_5:Int) (subs_6:(List T_Subscription)):Option (T_Server×Int):=
  (server_attributes F db_1).bind fun x_8=>
  (slices_Clone_api_Subscription_api_Subscription F subs_6).bind fun x_9=>
  some ((T_Server.mk x_8 23 max_2 level_3 [] aware_5 robust_4 x_9 [] false 0),0)
def server_New_l1 (F:Nat) (db_1:(List T_Attribute)) (subs_6:(List T_Subscription)) (x_10:Int) (x_11:Int):Option (Out (Int×Int) (Sum (Unit) (T_Server×Int))):=
  if (decide (x_11<(len subs_6)))=true then
    (idx subs_6 x_11).bind fun x_12=>
    (server_subscribable F db_1 x_12.Handle).bind fun x_13=>
    if ((decide (x_11 > 0))&&(decide (x_12.Handle≤x_10)))=true then
      some (.done (.inr ((T_Server.mk [] 0 0 0 [] 0 false [] [] false 0),13)))
    else
      if (!x_13.2)=true then
        some (.done (.inr ((T_Server.mk [] 0 0 0 [] 0 false [] [] false 0),6)))
      else
        if ((x_12.Bits == 0)||((iandnot .i64 x_12.Bits x_13.1) != 0))=true then
          some (.done (.inr ((T_Server.mk [] 0 0 0 [] 0 false [] [] false 0),5)))
        else
          some (.next (x_12.Handle,w64 (x_11+1)))
  else
    some (.done (.inl ()))
def server_New (F:Nat) (db_1:(List T_Attribute)) (max_2:Int) (level_3:Int) (robust_4:Bool) (aware_5:Int) (subs_6:(List T_Subscription)):Option (T_Server×Int):=
  (database_Check F db_1).bind fun x_7=>
  if (x_7 != 0)=true then
    some ((T_Server.mk [] 0 0 0 [] 0 false [] [] false 0),x_7)
  else
    if ((((((decide (max_2<23))||(decide (max_2 > 517)))||(decide (level_3<0)))||(decide (level_3 > 2)))||(decide (aware_5<0)))||(decide (aware_5 > 2)))=true then
      some ((T_Server.mk [] 0 0 0 [] 0 false [] [] false 0),5)
    else
      (iter (fun s=>server_New_l1 F db_1 subs_6 s.1 s.2) F (0,0)).bind fun o=>
      match o with
      | .inl _=>server_New_j1 F db_1 max_2 level_3 robust_4 aware_5 subs_6
      | .inr u=>some u
def slices_Clone_api_Prepared_api_Prepared (_:Nat) (s_1:(List T_Prepared)):Option ((List T_Prepared)):=
  (app 40 ([]:(List T_Prepared)) s_1).bind fun l_2=>
  some l_2
def slices_Clone_api_AttPDU_api_AttPDU (_:Nat) (s_1:(List T_AttPDU)):Option ((List T_AttPDU)):=
  (app 120 ([]:(List T_AttPDU)) s_1).bind fun l_2=>
  some l_2
def server_of_j3 (_:Nat) (s_1:T_Server) (c_6:T_Server) (l_7:(List T_Prepared)) (l_8:(List T_AttPDU)):Option (T_server_side):=
  some (T_server_side.mk ({ s_1 with DB:=c_6.DB,Queue:=l_7,Subs:=c_6.Subs,Out:=l_8 }) [])
def server_of_l1 (F:Nat) (c_6:T_Server) (l_9:(List T_AttPDU)) (x_10:Int):Option (Out ((List T_AttPDU)×Int) ((List T_AttPDU))):=
  if (decide (x_10<(len c_6.Out)))=true then
    (idx l_9 x_10).bind fun x_11=>
    (octets_Join F [x_11.Value]).bind fun x_494=>
    (idx l_9 x_10).bind fun _=>
    (idx l_9 x_10).bind fun x_734=>
    (upd l_9 x_10 ({ x_734 with Value:=x_494 })).bind fun l_735=>
    some (.next (l_735,w64 (x_10+1)))
  else
    some (.done (l_9))
def server_of_j2 (F:Nat) (s_1:T_Server) (c_6:T_Server) (l_7:(List T_Prepared)):Option (T_server_side):=
  (iter (fun s=>server_of_l1 F c_6 s.1 s.2) F (c_6.Out,0)).bind fun o=>
  server_of_j3 F s_1 c_6 l_7 o
def server_of_l2 (F:Nat) (c_6:T_Server) (l_894:(List T_Prepared)) (x_895:Int):Option (Out ((List T_Prepared)×Int) ((List T_Prepared))):=
  if (decide (x_895<(len c_6.Queue)))=true then
    (idx l_894 x_895).bind fun x_896=>
    (octets_Join F [x_896.Value]).bind fun x_1379=>
    (idx l_894 x_895).bind fun _=>
    (idx l_894 x_895).bind fun x_1619=>
    (upd l_894 x_895 ({ x_1619 with Value:=x_1379 })).bind fun l_1620=>
    some (.next (l_1620,w64 (x_895+1)))
  else
    some (.done (l_894))
def server_of_j1 (F:Nat) (s_1:T_Server) (c_6:T_Server):Option (T_server_side):=
  (iter (fun s=>server_of_l2 F c_6 s.1 s.2) F (c_6.Queue,0)).bind fun o=>
  server_of_j2 F s_1 c_6 o
def server_of (F:Nat) (s_1:T_Server):Option (T_server_side):=
  (server_attributes F s_1.DB).bind fun x_1941=>
  (slices_Clone_api_Subscription_api_Subscription F s_1.Subs).bind fun x_2181=>
  (slices_Clone_api_Prepared_api_Prepared F s_1.Queue).bind fun x_2421=>
  (slices_Clone_api_AttPDU_api_AttPDU F s_1.Out).bind fun x_2661=>
  server_of_j1 F s_1 ({ s_1 with DB:=x_1941,Queue:=x_2421,Subs:=x_2181,Out:=x_2661 })
def server_side_handlers (F:Nat) (_:T_server_side):Option (Unit):=
  some ()
def cache_Aware (_:Nat) (phase_1:Int) (hashRead_2:Bool):Option (Int×Bool):=
  if ((phase_1 == 0)&&(!hashRead_2))=true then
    some (1,true)
  else
    some (2,false)
def server_wrong (_:Nat) (p_1:T_AttPDU) (handle_2:Int) (code_3:Int):Option (T_AttPDU):=
  some (T_AttPDU.mk 1 p_1.Kind handle_2 0 (T_UUID.mk 0 0) 0 0 code_3 false [] [])
def database_Find_1 (_:Nat) (a_1:T_Attribute) (p_2:Int):Option (Bool×Int):=
  some ((a_1.Handle == p_2),p_2)
def slices_IndexFunc_api_Attribute_api_Attribute_at87_j1 (_:Nat) (x_3:Int):Option (Int×Int):=
  some ((-1),x_3)
def slices_IndexFunc_api_Attribute_api_Attribute_at87_l1 (F:Nat) (s_1:(List T_Attribute)) (x_4:Int) (x_5:Int):Option (Out (Int×Int) (Sum (Int) (Int×Int))):=
  if (decide (x_5<(len s_1)))=true then
    (idx s_1 x_5).bind fun x_6=>
    (database_Find_1 F x_6 x_4).bind fun x_7=>
    if x_7.1=true then
      some (.done (.inr (x_5,x_7.2)))
    else
      some (.next (x_7.2,w64 (x_5+1)))
  else
    some (.done (.inl (x_4)))
def slices_IndexFunc_api_Attribute_api_Attribute_at87 (F:Nat) (s_1:(List T_Attribute)) (c_2:Int):Option (Int×Int):=
  (iter (fun s=>slices_IndexFunc_api_Attribute_api_Attribute_at87_l1 F s_1 s.1 s.2) F (c_2,0)).bind fun o=>
  match o with
  | .inl u=>slices_IndexFunc_api_Attribute_api_Attribute_at87_j1 F u
  | .inr u=>some u
def database_Find (F:Nat) (db_1:(List T_Attribute)) (handle_2:Int):Option (Int):=
  (slices_IndexFunc_api_Attribute_api_Attribute_at87 F db_1 handle_2).bind fun x_3=>
  some x_3.1
def server_side_access (_:Nat) (x_1:T_server_side) (a_2:T_Attribute) (perm_3:Int) (code_4:Int):Option (Int):=
  if ((iand .i64 a_2.Perms perm_3) == 0)=true then
    some code_4
  else
    if (((iand .i64 a_2.Perms 8) != 0)&&(decide (x_1.Server.Level<2)))=true then
      some 5
    else
      if (((iand .i64 a_2.Perms 4) != 0)&&(decide (x_1.Server.Level<1)))=true then
        some 15
      else
        some 0
def server_side_readable (F:Nat) (x_1:T_server_side) (a_2:T_Attribute):Option (Int):=
  (server_side_access F x_1 a_2 1 2).bind fun x_3=>
  some x_3
def octets_sized (_:Nat) (n_1:Int):Option (Bool):=
  some ((decide (n_1≥1))&&(decide (n_1≤8)))
def octets_Put_j1 (_:Nat) (l_2:(List Int)):Option ((List Int)×Int):=
  some (l_2,0)
def octets_Put_j2 (_:Nat) (x_4:Int) (l_5:(List Int)):Option (Out ((List Int)×Int) (Sum ((List Int)) ((List Int)×Int))):=
  some (.next (l_5,w64 (x_4+1)))
def octets_Put_l2 (_:Nat) (x_6:T_Field) (l_10:(List Int)) (x_11:Int):Option (Out ((List Int)×Int) ((List Int))):=
  if (decide (x_11<x_6.Size))=true then
    (ishr .u64 x_6.Value (w64 (8 * x_11))).bind fun x_12=>
    (app 1 l_10 [wu8 x_12]).bind fun l_13=>
    some (.next (l_13,w64 (x_11+1)))
  else
    some (.done (l_10))
def octets_Put_l1 (F:Nat) (fields_1:(List T_Field)) (l_3:(List Int)) (x_4:Int):Option (Out ((List Int)×Int) (Sum ((List Int)) ((List Int)×Int))):=
  if (decide (x_4<(len fields_1)))=true then
    (idx fields_1 x_4).bind fun x_6=>
    (octets_sized F x_6.Size).bind fun x_7=>
    (if (!x_7)=true then
      some (true)
    else
      if (decide (x_6.Size<8))=true then
        (ishr .u64 x_6.Value (w64 (8 * x_6.Size))).bind fun x_16=>
        some ((x_16 != 0))
      else
        some (false)).bind fun z_9=>
    if z_9=true then
      some (.done (.inr ([],5)))
    else
      (iter (fun s=>octets_Put_l2 F x_6 s.1 s.2) F (l_3,0)).bind fun o=>
      octets_Put_j2 F x_4 o
  else
    some (.done (.inl (l_3)))
def octets_Put (F:Nat) (fields_1:(List T_Field)):Option ((List Int)×Int):=
  (iter (fun s=>octets_Put_l1 F fields_1 s.1 s.2) F ([],0)).bind fun o=>
  match o with
  | .inl u=>octets_Put_j1 F u
  | .inr u=>some u
def database_number (F:Nat) (size_1:Int) (n_2:Int):Option ((List Int)):=
  (octets_Put F [(T_Field.mk size_1 n_2)]).bind fun x_3=>
  some x_3.1
def serial_Low (_:Nat) (n_1:Int) (bits_2:Int):Option (Int):=
  if (decide (bits_2≤0))=true then
    some 0
  else
    if (decide (bits_2≥64))=true then
      some n_1
    else
      (ishl .u64 1 bits_2).bind fun x_3=>
      some (iand .u64 n_1 (wu64 (x_3 - 1)))
def block_split (F:Nat) (x_1:Int):Option ((Int×Int)):=
  (serial_Low F x_1 32).bind fun x_2=>
  some (wu32 (shrp x_1 32),wu32 x_2)
def math_bits_RotateLeft64 (_:Nat) (x_1:Int) (k_2:Int):Option (Int):=
  (ishl .u64 x_1 (iand .u64 (wu64 k_2) 63)).bind fun x_3=>
  (ishr .u64 x_1 (wu64 (64 - (iand .u64 (wu64 k_2) 63)))).bind fun x_4=>
  some (ior .u64 x_3 x_4)
def math_bits_RotateLeft32 (_:Nat) (x_1:Int) (k_2:Int):Option (Int):=
  (ishl .u32 x_1 (iand .u64 (wu64 k_2) 31)).bind fun x_3=>
  (ishr .u32 x_1 (wu64 (32 - (iand .u64 (wu64 k_2) 31)))).bind fun x_4=>
  some (ior .u32 x_3 x_4)
def block_Round (F:Nat) (k_1:Int) (i_2:Int) (half_3:Int):Option (Int):=
  (math_bits_RotateLeft64 F k_1 (remp (w64 (11 * (remp i_2 64))) 64)).bind fun x_4=>
  (serial_Low F x_4 32).bind fun x_5=>
  (math_bits_RotateLeft32 F (wu32 (half_3+(wu32 x_5))) 7).bind fun x_6=>
  (math_bits_RotateLeft32 F (wu32 x_5) 16).bind fun x_7=>
  some (ixor .u32 (wu32 (x_6 * 2654435761)) x_7)
def block_halves_join (_:Nat) (h_1:(Int×Int)):Option (Int):=
  some (ior .u64 (shlp .u64 (wu64 h_1.1) 32) (wu64 h_1.2))
def block_Mix_j1 (F:Nat) (x_4:Int) (x_5:Int):Option (Int):=
  (block_halves_join F (x_4,x_5)).bind fun x_6=>
  some x_6
def block_Mix_l1 (F:Nat) (k_1:Int) (x_7:Int) (x_8:Int) (x_9:Int):Option (Out (Int×Int×Int) (Int×Int)):=
  if (decide (x_9<8))=true then
    (block_Round F k_1 x_9 x_8).bind fun x_652=>
    some (.next (x_8,ixor .u32 x_7 x_652,w64 (x_9+1)))
  else
    some (.done (x_7,x_8))
def block_Mix (F:Nat) (k_1:Int) (x_2:Int):Option (Int):=
  (block_split F x_2).bind fun x_3=>
  (iter (fun s=>block_Mix_l1 F k_1 s.1 s.2.1 s.2.2) F (x_3.1,x_3.2,0)).bind fun o=>
  block_Mix_j1 F o.1 o.2
def mac_Tag_it_j1 (_:Nat) (x_7:Int) (x_8:Int):Option (Out (Int×Int) (Int)):=
  some (.next (x_8,w64 (x_7+8)))
def mac_Tag_b (F:Nat) (k_1:Int) (x_6:Int) (x_9:Int):Option (Int):=
  (block_Mix F k_1 (ixor .u64 x_6 x_9)).bind fun x_11=>
  some x_11
def mac_Tag_it_j2 (F:Nat) (k_1:Int) (x_6:Int) (x_7:Int) (x_9:Int):Option (Out (Int×Int) (Int)):=
  (mac_Tag_b F k_1 x_6 x_9).bind fun o_10=>
  mac_Tag_it_j1 F x_7 o_10
def mac_Tag_it_l2 (_:Nat) (l_12:(List Int)) (x_13:Int) (x_14:Int):Option (Out (Int×Int) (Int)):=
  if (decide (x_14<(len l_12)))=true then
    (idx l_12 x_14).bind fun x_15=>
    (ishl .u64 (wu64 x_15) (w64 (8 * x_14))).bind fun x_16=>
    some (.next (ior .u64 x_13 x_16,w64 (x_14+1)))
  else
    some (.done (x_13))
def mac_Tag_it_l1 (F:Nat) (k_1:Int) (b_2:(List Int)) (x_6:Int) (x_7:Int):Option (Out (Int×Int) (Int)):=
  if (decide (x_7<(len b_2)))=true then
    (sub b_2 x_7 (imin (w64 (x_7+8)) (len b_2))).bind fun l_12=>
    (iter (fun s=>mac_Tag_it_l2 F l_12 s.1 s.2) F (0,0)).bind fun o=>
    mac_Tag_it_j2 F k_1 x_6 x_7 o
  else
    some (.done (x_6))
def mac_Tag_it (F:Nat) (k_1:Int) (b_2:(List Int)) (x_3:Int):Option (Int):=
  (iter (fun s=>mac_Tag_it_l1 F k_1 b_2 s.1 s.2) F (x_3,0)).bind fun o=>
  some o
def mac_Tag (F:Nat) (k_1:Int) (b_2:(List Int)):Option (Int):=
  (block_Mix F k_1 (wu64 (len b_2))).bind fun x_3=>
  (mac_Tag_it F k_1 b_2 x_3).bind fun o_4=>
  some o_4
def mac_bytes_j1 (F:Nat) (l_2:(List T_Field)):Option ((List Int)):=
  (octets_Put F l_2).bind fun x_3=>
  some x_3.1
def mac_bytes_l1 (_:Nat) (numbers_1:(List Int)) (l_4:(List T_Field)) (x_5:Int):Option (Out ((List T_Field)×Int) ((List T_Field))):=
  if (decide (x_5<(len numbers_1)))=true then
    (idx numbers_1 x_5).bind fun x_6=>
    (app 16 l_4 [(T_Field.mk 8 x_6)]).bind fun l_7=>
    some (.next (l_7,w64 (x_5+1)))
  else
    some (.done (l_4))
def mac_bytes (F:Nat) (numbers_1:(List Int)):Option ((List Int)):=
  (iter (fun s=>mac_bytes_l1 F numbers_1 s.1 s.2) F ([],0)).bind fun o=>
  mac_bytes_j1 F o
def mac_Derive (F:Nat) (k_1:Int) (label_2:List Int) (parts_3:(List Int)):Option (Int):=
  (app 1 ([]:List Int) label_2).bind fun l_4=>
  (mac_bytes F parts_3).bind fun x_5=>
  (octets_Join F [l_4,[0],x_5]).bind fun x_6=>
  (mac_Tag F k_1 x_6).bind fun x_7=>
  some x_7
def database_Hash_j1 (F:Nat) (l_2:(List Int)):Option (Int):=
  (mac_Tag F 0 l_2).bind fun x_3=>
  (mac_Derive F 0 [104,97,115,104] [x_3]).bind fun x_4=>
  some (imax 1 x_4)
def database_Hash_j2 (_:Nat) (x_6:Int) (l_7:(List Int)):Option (Out ((List Int)×Int) ((List Int))):=
  some (.next (l_7,w64 (x_6+1)))
def database_Hash_j3 (F:Nat) (x_6:Int) (x_8:T_Attribute) (l_9:(List Int)):Option (Out ((List Int)×Int) ((List Int))):=
  (database_declaration F x_8.f_Type).bind fun x_10=>
  if x_10=true then
    (database_number F 2 (wu64 (len x_8.Value))).bind fun x_13=>
    (octets_Join F [x_13,x_8.Value]).bind fun x_14=>
    (app 1 l_9 x_14).bind fun l_15=>
    database_Hash_j2 F x_6 l_15
  else
    database_Hash_j2 F x_6 l_9
def database_Hash_l1 (F:Nat) (db_1:(List T_Attribute)) (l_5:(List Int)) (x_6:Int):Option (Out ((List Int)×Int) ((List Int))):=
  if (decide (x_6<(len db_1)))=true then
    (idx db_1 x_6).bind fun x_8=>
    (database_number F 2 (wu64 x_8.Handle)).bind fun x_18=>
    (database_number F 8 x_8.f_Type.Low).bind fun x_19=>
    (database_number F 8 x_8.f_Type.High).bind fun x_20=>
    (octets_Join F [x_18,x_19,x_20]).bind fun x_21=>
    (app 1 l_5 x_21).bind fun l_22=>
    database_Hash_j3 F x_6 x_8 l_22
  else
    some (.done (l_5))
def database_Hash (F:Nat) (db_1:(List T_Attribute)):Option (Int):=
  (iter (fun s=>database_Hash_l1 F db_1 s.1 s.2) F ([],0)).bind fun o=>
  database_Hash_j1 F o
def server_side_subscription_1 (_:Nat) (s_1:T_Subscription) (p_2:Int):Option (Bool×Int):=
  some ((s_1.Handle == p_2),p_2)
def slices_IndexFunc_api_Subscription_api_Subscription_at107_j1 (_:Nat) (x_3:Int):Option (Int×Int):=
  some ((-1),x_3)
def slices_IndexFunc_api_Subscription_api_Subscription_at107_l1 (F:Nat) (s_1:(List T_Subscription)) (x_4:Int) (x_5:Int):Option (Out (Int×Int) (Sum (Int) (Int×Int))):=
  if (decide (x_5<(len s_1)))=true then
    (idx s_1 x_5).bind fun x_6=>
    (server_side_subscription_1 F x_6 x_4).bind fun x_7=>
    if x_7.1=true then
      some (.done (.inr (x_5,x_7.2)))
    else
      some (.next (x_7.2,w64 (x_5+1)))
  else
    some (.done (.inl (x_4)))
def slices_IndexFunc_api_Subscription_api_Subscription_at107 (F:Nat) (s_1:(List T_Subscription)) (c_2:Int):Option (Int×Int):=
  (iter (fun s=>slices_IndexFunc_api_Subscription_api_Subscription_at107_l1 F s_1 s.1 s.2) F (c_2,0)).bind fun o=>
  match o with
  | .inl u=>slices_IndexFunc_api_Subscription_api_Subscription_at107_j1 F u
  | .inr u=>some u
def server_side_subscription (F:Nat) (x_1:T_server_side) (handle_2:Int):Option (Int):=
  (slices_IndexFunc_api_Subscription_api_Subscription_at107 F x_1.Server.Subs handle_2).bind fun x_3=>
  some x_3.1
def server_side_shown_j1 (_:Nat) (x_8:Int):Option ((List Int)):=
  some [wu8 x_8,wu8 (shrp x_8 8)]
def server_side_shown (F:Nat) (x_1:T_server_side) (i_2:Int):Option ((List Int)):=
  (idx x_1.Server.DB i_2).bind fun x_3=>
  (server_is F x_3.f_Type 11050).bind fun x_4=>
  if x_4=true then
    (database_Hash F x_1.Server.DB).bind fun x_5=>
    (octets_Put F [(T_Field.mk 8 x_5)]).bind fun x_6=>
    some x_6.1
  else
    (server_is F x_3.f_Type 10498).bind fun x_7=>
    if x_7=true then
      (server_owner F x_1.Server.DB i_2).bind fun x_9=>
      (if x_9.2.2=true then
        (server_side_subscription F x_1 x_9.2.1).bind fun x_17=>
        some (decide (x_17≥0))
      else
        some (false)).bind fun z_11=>
      if z_11=true then
        (server_side_subscription F x_1 x_9.2.1).bind fun x_14=>
        (idx x_1.Server.Subs x_14).bind fun x_15=>
        server_side_shown_j1 F x_15.Bits
      else
        server_side_shown_j1 F 0
    else
      (octets_Join F [x_3.Value]).bind fun x_18=>
      some x_18
def attpdu_Answer (_:Nat) (kind_1:Int):Option (Int):=
  if (kind_1 == 2)=true then
    some 3
  else
    if (kind_1 == 4)=true then
      some 5
    else
      if (kind_1 == 8)=true then
        some 9
      else
        if (kind_1 == 10)=true then
          some 11
        else
          if (kind_1 == 12)=true then
            some 13
          else
            if (kind_1 == 16)=true then
              some 17
            else
              if (kind_1 == 18)=true then
                some 19
              else
                if (kind_1 == 22)=true then
                  some 23
                else
                  if (kind_1 == 24)=true then
                    some 25
                  else
                    if (kind_1 == 29)=true then
                      some 30
                    else
                      some (-1)
def attpdu_Room_j4 (_:Nat) (mtu_2:Int) (z_6:Bool):Option (Int):=
  if z_6=true then
    some (w64 ((imax 23 (imin mtu_2 517)) - 2))
  else
    some 0
def attpdu_Room_j3 (F:Nat) (kind_1:Int) (mtu_2:Int) (z_5:Bool):Option (Int):=
  if z_5=true then
    some (imin 512 (w64 ((imax 23 (imin mtu_2 517)) - 5)))
  else
    if (kind_1 == 5)=true then
      attpdu_Room_j4 F mtu_2 (kind_1 == 5)
    else
      if (kind_1 == 9)=true then
        attpdu_Room_j4 F mtu_2 (kind_1 == 9)
      else
        attpdu_Room_j4 F mtu_2 (kind_1 == 17)
def attpdu_Room_j2 (F:Nat) (kind_1:Int) (mtu_2:Int) (z_4:Bool):Option (Int):=
  if z_4=true then
    some (imin 512 (w64 ((imax 23 (imin mtu_2 517)) - 3)))
  else
    if (kind_1 == 22)=true then
      attpdu_Room_j3 F kind_1 mtu_2 (kind_1 == 22)
    else
      attpdu_Room_j3 F kind_1 mtu_2 (kind_1 == 23)
def attpdu_Room_j1 (F:Nat) (kind_1:Int) (mtu_2:Int) (z_3:Bool):Option (Int):=
  if z_3=true then
    some (imin 512 (w64 ((imax 23 (imin mtu_2 517)) - 1)))
  else
    if (kind_1 == 18)=true then
      attpdu_Room_j2 F kind_1 mtu_2 (kind_1 == 18)
    else
      if (kind_1 == 82)=true then
        attpdu_Room_j2 F kind_1 mtu_2 (kind_1 == 82)
      else
        if (kind_1 == 27)=true then
          attpdu_Room_j2 F kind_1 mtu_2 (kind_1 == 27)
        else
          attpdu_Room_j2 F kind_1 mtu_2 (kind_1 == 29)
def attpdu_Room (F:Nat) (kind_1:Int) (mtu_2:Int):Option (Int):=
  if (kind_1 == 11)=true then
    attpdu_Room_j1 F kind_1 mtu_2 (kind_1 == 11)
  else
    attpdu_Room_j1 F kind_1 mtu_2 (kind_1 == 13)
def server_cut (F:Nat) (b_1:(List Int)) (n_2:Int):Option ((List Int)):=
  (sub b_1 0 (imax 0 (imin n_2 (len b_1)))).bind fun l_3=>
  (octets_Join F [l_3]).bind fun x_4=>
  some x_4
def server_side_read_j3 (_:Nat) (x_9:Int) (l_11:(List Int)):Option (T_AttPDU):=
  some (T_AttPDU.mk x_9 0 0 0 (T_UUID.mk 0 0) 0 0 0 false l_11 [])
def server_side_read_j2 (F:Nat) (x_1:T_server_side) (x_9:Int) (l_10:(List Int)):Option (T_AttPDU):=
  (attpdu_Room F x_9 x_1.Server.MTU).bind fun x_14=>
  (server_cut F l_10 x_14).bind fun x_15=>
  server_side_read_j3 F x_9 x_15
def server_side_read_j1 (F:Nat) (x_1:T_server_side) (p_2:T_AttPDU) (x_3:Int):Option (T_AttPDU):=
  if (decide (x_3<0))=true then
    (server_wrong F p_2 p_2.Handle 1).bind fun x_4=>
    some x_4
  else
    (idx x_1.Server.DB x_3).bind fun x_5=>
    (server_side_readable F x_1 x_5).bind fun x_6=>
    if (x_6 != 0)=true then
      (server_wrong F p_2 p_2.Handle x_6).bind fun x_7=>
      some x_7
    else
      (server_side_shown F x_1 x_3).bind fun x_8=>
      (attpdu_Answer F p_2.Kind).bind fun x_9=>
      if (p_2.Kind == 12)=true then
        if ((decide (p_2.Offset<0))||(decide (p_2.Offset > (len x_8))))=true then
          (server_wrong F p_2 p_2.Handle 7).bind fun x_16=>
          some x_16
        else
          (sub x_8 p_2.Offset (len x_8)).bind fun l_17=>
          server_side_read_j2 F x_1 x_9 l_17
      else
        server_side_read_j2 F x_1 x_9 x_8
def server_side_read (F:Nat) (x_1:T_server_side) (p_2:T_AttPDU):Option (T_AttPDU):=
  (database_Find F x_1.Server.DB p_2.Handle).bind fun x_20=>
  server_side_read_j1 F x_1 p_2 x_20
def server_Handle_j1 (F:Nat) (_:Int):Option (T_Server×(List T_AttPDU)×(List Int)):=
  none
def server_Handle_j3 (_:Nat) (x_4:T_server_side) (x_11:Int) (l_13:(List T_AttPDU)):Option (T_Server×(List T_AttPDU)×(List Int)):=
  some ({ x_4.Server with Aware:=x_11 },l_13,[])
def server_Handle_j2 (F:Nat) (p_2:T_AttPDU) (x_4:T_server_side) (x_11:Int) (z_12:Bool):Option (T_Server×(List T_AttPDU)×(List Int)):=
  if z_12=true then
    (server_wrong F p_2 p_2.Handle 18).bind fun x_16=>
    server_Handle_j3 F x_4 x_11 [x_16]
  else
    server_Handle_j1 F x_11
def server_Handle_j5 (_:Nat) (x_4:T_server_side) (x_1067:Int) (x_1068:T_AttPDU):Option (T_Server×(List T_AttPDU)×(List Int)):=
  some ({ x_4.Server with Aware:=x_1067 },[x_1068],x_4.written)
def server_Handle_j4 (F:Nat) (p_2:T_AttPDU) (x_4:T_server_side) (x_1067:Int):Option (T_Server×(List T_AttPDU)×(List Int)):=
  (server_side_read F ({ x_4 with Server:={ x_4.Server with Aware:=x_1067 } }) p_2).bind fun x_1068=>
  server_Handle_j5 F x_4 x_1067 x_1068
def server_Handle_j7 (_:Nat) (x_4:T_server_side) (x_2191:Int) (l_2193:(List T_AttPDU)):Option (T_Server×(List T_AttPDU)×(List Int)):=
  some ({ x_4.Server with Aware:=x_2191 },l_2193,[])
def server_Handle_j6 (F:Nat) (p_2:T_AttPDU) (x_4:T_server_side) (x_2191:Int) (z_2192:Bool):Option (T_Server×(List T_AttPDU)×(List Int)):=
  if z_2192=true then
    (server_wrong F p_2 p_2.Handle 18).bind fun x_2196=>
    server_Handle_j7 F x_4 x_2191 [x_2196]
  else
    server_Handle_j4 F p_2 x_4 x_2191
def server_Handle_j8 (F:Nat) (_:Int):Option (T_Server×(List T_AttPDU)×(List Int)):=
  none
def server_Handle_j10 (_:Nat) (x_4:T_server_side) (x_3247:Int) (l_3249:(List T_AttPDU)):Option (T_Server×(List T_AttPDU)×(List Int)):=
  some ({ x_4.Server with Aware:=x_3247 },l_3249,[])
def server_Handle_j9 (F:Nat) (p_2:T_AttPDU) (x_4:T_server_side) (x_3247:Int) (z_3248:Bool):Option (T_Server×(List T_AttPDU)×(List Int)):=
  if z_3248=true then
    (server_wrong F p_2 p_2.Handle 18).bind fun x_3252=>
    server_Handle_j10 F x_4 x_3247 [x_3252]
  else
    server_Handle_j8 F x_3247
def server_Handle (F:Nat) (s_1:T_Server) (p_2:T_AttPDU) (_:Int):Option (T_Server×(List T_AttPDU)×(List Int)):=
  (server_of F s_1).bind fun x_4=>
  if ((p_2.Kind == 2)||((p_2.Kind == 4)||((p_2.Kind == 8)||((p_2.Kind == 16)||((p_2.Kind == 18)||((p_2.Kind == 22)||(p_2.Kind == 24)))))))=true then
    (server_side_handlers F x_4).bind fun _=>
    if (p_2.Kind == 30)=true then
      some ({ x_4.Server with Wait:=false },[],[])
    else
      if ((p_2.Kind == 82)&&((!x_4.Server.Robust)||(x_4.Server.Aware == 2)))=true then
        none
      else
        if (!true)=true then
          some (x_4.Server,[],[])
        else
          if x_4.Server.Robust=true then
            if (p_2.Kind == 8)=true then
              (server_is F p_2.f_Type 11050).bind fun x_1060=>
              (cache_Aware F x_4.Server.Aware x_1060).bind fun x_1061=>
              server_Handle_j2 F p_2 x_4 x_1061.1 x_1061.2
            else
              (cache_Aware F x_4.Server.Aware false).bind fun x_1062=>
              server_Handle_j2 F p_2 x_4 x_1062.1 x_1062.2
          else
            server_Handle_j1 F x_4.Server.Aware
  else
    if ((p_2.Kind == 10)||(p_2.Kind == 12))=true then
      (server_side_handlers F x_4).bind fun _=>
      if (p_2.Kind == 30)=true then
        some ({ x_4.Server with Wait:=false },[],[])
      else
        if ((p_2.Kind == 82)&&((!x_4.Server.Robust)||(x_4.Server.Aware == 2)))=true then
          none
        else
          if (!true)=true then
            some (x_4.Server,[],[])
          else
            if x_4.Server.Robust=true then
              if (p_2.Kind == 8)=true then
                (server_is F p_2.f_Type 11050).bind fun x_3240=>
                (cache_Aware F x_4.Server.Aware x_3240).bind fun x_3241=>
                server_Handle_j6 F p_2 x_4 x_3241.1 x_3241.2
              else
                (cache_Aware F x_4.Server.Aware false).bind fun x_3242=>
                server_Handle_j6 F p_2 x_4 x_3242.1 x_3242.2
            else
              server_Handle_j4 F p_2 x_4 x_4.Server.Aware
    else
      (server_side_handlers F x_4).bind fun _=>
      if (p_2.Kind == 30)=true then
        some ({ x_4.Server with Wait:=false },[],[])
      else
        if ((p_2.Kind == 82)&&((!x_4.Server.Robust)||(x_4.Server.Aware == 2)))=true then
          none
        else
          if (!false)=true then
            some (x_4.Server,[],[])
          else
            if x_4.Server.Robust=true then
              if (p_2.Kind == 8)=true then
                (server_is F p_2.f_Type 11050).bind fun x_4296=>
                (cache_Aware F x_4.Server.Aware x_4296).bind fun x_4297=>
                server_Handle_j9 F p_2 x_4 x_4297.1 x_4297.2
              else
                (cache_Aware F x_4.Server.Aware false).bind fun x_4298=>
                server_Handle_j9 F p_2 x_4 x_4298.1 x_4298.2
            else
              server_Handle_j8 F x_4.Server.Aware
def server_Replace_j3 (_:Nat) (x_3:T_server_side) (x_6:(List T_Attribute)) (l_7:(List T_Subscription)) (l_8:(List T_AttPDU)):Option (T_Server×Int):=
  some ({ x_3.Server with DB:=x_6,Queue:=[],Aware:=0,Subs:=l_7,Out:=l_8 },0)
def server_Replace_j4 (F:Nat) (x_6:(List T_Attribute)) (x_9:Int) (x_10:T_Subscription) (x_11:Int):Option (Out (Int) ((List T_AttPDU))):=
  (if (((iand .i64 x_10.Bits 2) != 0)&&(decide (x_11≥0)))=true then
    (idx x_6 x_11).bind fun x_15=>
    (server_is F x_15.f_Type 10757).bind fun x_16=>
    some (x_16)
  else
    some (false)).bind fun z_13=>
  if z_13=true then
    some (.done ([(T_AttPDU.mk 29 0 x_10.Handle 0 (T_UUID.mk 0 0) 0 0 0 false [1,0,255,255] [])]))
  else
    some (.next (w64 (x_9+1)))
def server_Replace_l1 (F:Nat) (x_6:(List T_Attribute)) (l_7:(List T_Subscription)) (x_9:Int):Option (Out (Int) ((List T_AttPDU))):=
  if (decide (x_9<(len l_7)))=true then
    (idx l_7 x_9).bind fun x_10=>
    (database_Find F x_6 x_10.Handle).bind fun x_19=>
    server_Replace_j4 F x_6 x_9 x_10 x_19
  else
    some (.done ([]))
def server_Replace_j2 (F:Nat) (x_3:T_server_side) (x_6:(List T_Attribute)) (l_7:(List T_Subscription)):Option (T_Server×Int):=
  (iter (fun s=>server_Replace_l1 F x_6 l_7 s) F (0)).bind fun o=>
  server_Replace_j3 F x_3 x_6 l_7 o
def server_Replace_j5 (_:Nat) (x_21:Int) (l_22:(List T_Subscription)):Option (Out ((List T_Subscription)×Int) ((List T_Subscription))):=
  some (.next (l_22,w64 (x_21+1)))
def server_Replace_l2 (F:Nat) (db_2:(List T_Attribute)) (x_3:T_server_side) (l_20:(List T_Subscription)) (x_21:Int):Option (Out ((List T_Subscription)×Int) ((List T_Subscription))):=
  if (decide (x_21<(len x_3.Server.Subs)))=true then
    (idx x_3.Server.Subs x_21).bind fun x_23=>
    (server_subscribable F db_2 x_23.Handle).bind fun x_24=>
    if ((iand .i64 x_23.Bits x_24.1) != 0)=true then
      (app 16 l_20 [{ x_23 with Bits:=iand .i64 x_23.Bits x_24.1 }]).bind fun l_25=>
      server_Replace_j5 F x_21 l_25
    else
      server_Replace_j5 F x_21 l_20
  else
    some (.done (l_20))
def server_Replace_j1 (F:Nat) (db_2:(List T_Attribute)) (x_3:T_server_side) (z_5:Bool):Option (T_Server×Int):=
  (server_attributes F db_2).bind fun x_6=>
  if z_5=true then
    some ({ x_3.Server with DB:=x_6 },0)
  else
    (iter (fun s=>server_Replace_l2 F db_2 x_3 s.1 s.2) F ([],0)).bind fun o=>
    server_Replace_j2 F x_3 x_6 o
def server_Replace (F:Nat) (s_1:T_Server) (db_2:(List T_Attribute)):Option (T_Server×Int):=
  (server_of F s_1).bind fun x_3=>
  (database_Check F db_2).bind fun x_4=>
  if (x_4 != 0)=true then
    some (x_3.Server,x_4)
  else
    (database_Hash F db_2).bind fun x_28=>
    (database_Hash F x_3.Server.DB).bind fun x_29=>
    server_Replace_j1 F db_2 x_3 (x_28 == x_29)
def wirelessref23_Same (_:Nat) (a_1:(List Int)) (b_2:(List Int)):Option (Bool):=
  some ((str a_1) == (str b_2))
def wirelesslaw45_exampleHolds_j1 (F:Nat) (x_2:T_Server×Int) (x_3:T_Server×(List T_AttPDU)×(List Int)) (x_4:T_Server×(List T_AttPDU)×(List Int)) (c_16:T_Server) (x_17:Int):Option (Bool):=
  (server_Handle F c_16 (T_AttPDU.mk 10 0 3 0 (T_UUID.mk 0 0) 0 0 0 false [] []) 0).bind fun x_18=>
  (server_Handle F x_18.1 (T_AttPDU.mk 10 0 3 0 (T_UUID.mk 0 0) 0 0 0 false [] []) 0).bind fun x_19=>
  if ((((((x_2.2 != 0)||(x_17 != 0))||((len x_3.2.1) != 1))||((len x_4.2.1) != 1))||((len x_18.2.1) != 1))||((len x_19.2.1) != 1))=true then
    some false
  else
    (idx x_3.2.1 0).bind fun x_20=>
    (if (x_20.Kind == 11)=true then
      (idx x_3.2.1 0).bind fun x_40=>
      (wirelessref23_Same F x_40.Value [50]).bind fun x_41=>
      some (x_41)
    else
      some (false)).bind fun z_22=>
    (if z_22=true then
      (idx x_4.2.1 0).bind fun x_38=>
      some ((x_38.Kind == 1))
    else
      some (false)).bind fun z_24=>
    (if z_24=true then
      (idx x_4.2.1 0).bind fun x_36=>
      some ((x_36.Code == 1))
    else
      some (false)).bind fun z_26=>
    (if z_26=true then
      (idx x_18.2.1 0).bind fun x_34=>
      some ((x_34.Code == 18))
    else
      some (false)).bind fun z_28=>
    (if z_28=true then
      (idx x_19.2.1 0).bind fun x_32=>
      some ((x_32.Kind == 11))
    else
      some (false)).bind fun z_30=>
    some z_30
def wirelesslaw45_exampleHolds (F:Nat):Option (Bool):=
  (wirelesslaw45_sample F 10777).bind fun x_1=>
  (server_New F x_1 100 0 true 2 []).bind fun x_2=>
  (server_Handle F x_2.1 (T_AttPDU.mk 10 0 3 0 (T_UUID.mk 0 0) 0 0 0 false [] []) 0).bind fun x_3=>
  (server_Handle F x_3.1 (T_AttPDU.mk 10 0 9 0 (T_UUID.mk 0 0) 0 0 0 false [] []) 0).bind fun x_4=>
  (wirelesslaw45_sample F 10778).bind fun x_124=>
  (server_Replace F x_4.1 x_124).bind fun x_204=>
  wirelesslaw45_exampleHolds_j1 F x_2 x_3 x_4 x_204.1 x_204.2
def wirelessref43_IsService (F:Nat) (a_1:T_Attribute):Option (Bool):=
  (wirelessref43_Is F a_1.f_Type 10240).bind fun x_2=>
  (if x_2=true then
    some (true)
  else
    (wirelessref43_Is F a_1.f_Type 10241).bind fun x_6=>
    some (x_6)).bind fun z_4=>
  some z_4
def wirelessref23_Num_j1 (_:Nat) (x_4:Int):Option (Int):=
  some x_4
def wirelessref23_Num_l1 (_:Nat) (b_1:(List Int)) (at_2:Int) (x_5:Int) (x_6:Int):Option (Out (Int×Int) (Int)):=
  if (decide (x_6≥0))=true then
    (idx b_1 (w64 (at_2+x_6))).bind fun x_7=>
    some (.next (wu64 ((wu64 (x_5 * 256))+(wu64 x_7)),w64 (x_6 - 1)))
  else
    some (.done (x_5))
def wirelessref23_Num (F:Nat) (b_1:(List Int)) (at_2:Int) (size_3:Int):Option (Int):=
  (iter (fun s=>wirelessref23_Num_l1 F b_1 at_2 s.1 s.2) F (0,w64 (size_3 - 1))).bind fun o=>
  wirelessref23_Num_j1 F o
def wirelessref41_Decode (F:Nat) (b_1:(List Int)):Option (T_UUID×Int):=
  if ((len b_1) == 2)=true then
    (wirelessref23_Num F b_1 0 2).bind fun x_2=>
    (wirelessref41_Short F (wu16 x_2)).bind fun x_3=>
    some (x_3,0)
  else
    if (decide ((len b_1)<16))=true then
      some ((T_UUID.mk 0 0),3)
    else
      if (decide ((len b_1) > 16))=true then
        some ((T_UUID.mk 0 0),2)
      else
        (wirelessref23_Num F b_1 0 8).bind fun x_4=>
        (wirelessref23_Num F b_1 8 8).bind fun x_5=>
        (wirelessref41_Number F (T_UUID.mk x_5 x_4)).bind fun x_6=>
        if x_6.2=true then
          some ((T_UUID.mk 0 0),2)
        else
          some ((T_UUID.mk x_5 x_4),0)
def wirelessref43_IsChar (F:Nat) (a_1:T_Attribute):Option (Bool):=
  (wirelessref43_Is F a_1.f_Type 10243).bind fun x_2=>
  some x_2
def wirelessref43_CharParts_j1 (_:Nat) (x_3:T_UUID×Int) (x_4:Int) (x_5:Int):Option (Int×Int×T_UUID×Bool):=
  some (x_4,x_5,x_3.1,(x_3.2 == 0))
def wirelessref43_CharParts (F:Nat) (b_1:(List Int)):Option (Int×Int×T_UUID×Bool):=
  if (decide ((len b_1)<3))=true then
    some (0,0,(T_UUID.mk 0 0),false)
  else
    (sub b_1 3 (len b_1)).bind fun l_2=>
    (wirelessref41_Decode F l_2).bind fun x_3=>
    (idx b_1 0).bind fun x_6=>
    (wirelessref23_Num F b_1 1 2).bind fun x_9=>
    wirelessref43_CharParts_j1 F x_3 (w64 x_6) (wu16 x_9)
def wirelessref43_charWrong_j1 (_:Nat) (z_7:Bool):Option (Bool):=
  some z_7
def wirelessref43_charWrong (F:Nat) (db_1:(List T_Attribute)) (i_2:Int):Option (Bool):=
  (idx db_1 i_2).bind fun x_3=>
  (wirelessref43_CharParts F x_3.Value).bind fun x_4=>
  (if (!x_4.2.2.2)=true then
    some (true)
  else
    (wirelessref43_kept F x_4.2.2.1).bind fun x_13=>
    some (x_13)).bind fun z_6=>
  if (z_6||(decide ((w64 (i_2+1))≥(len db_1))))=true then
    some true
  else
    (idx db_1 (w64 (i_2+1))).bind fun x_8=>
    if (x_8.Handle != x_4.2.1)=true then
      wirelessref43_charWrong_j1 F true
    else
      wirelessref43_charWrong_j1 F (!((x_8.f_Type.High == x_4.2.2.1.High)&&(x_8.f_Type.Low == x_4.2.2.1.Low)))
def wirelessref43_charOf_j1 (_:Nat):Option (Int):=
  some (-1)
def wirelessref43_charOf_l1 (F:Nat) (db_1:(List T_Attribute)) (x_3:Int):Option (Out (Int) (Sum (Unit) (Int))):=
  if (decide (x_3≥0))=true then
    (idx db_1 x_3).bind fun x_4=>
    (wirelessref43_IsChar F x_4).bind fun x_5=>
    if x_5=true then
      some (.done (.inr x_3))
    else
      (idx db_1 x_3).bind fun x_6=>
      (wirelessref43_IsService F x_6).bind fun x_7=>
      if x_7=true then
        some (.done (.inr (-1)))
      else
        some (.next (w64 (x_3 - 1)))
  else
    some (.done (.inl ()))
def wirelessref43_charOf (F:Nat) (db_1:(List T_Attribute)) (i_2:Int):Option (Int):=
  (iter (fun s=>wirelessref43_charOf_l1 F db_1 s) F (i_2)).bind fun o=>
  match o with
  | .inl _=>wirelessref43_charOf_j1 F
  | .inr u=>some u
def wirelessref43_configWrong_j1 (_:Nat):Option (Bool):=
  some false
def wirelessref43_configWrong_l1 (F:Nat) (db_1:(List T_Attribute)) (i_2:Int) (x_5:Int):Option (Out (Int) (Sum (Unit) (Bool))):=
  if (decide (x_5<i_2))=true then
    (idx db_1 x_5).bind fun x_6=>
    (wirelessref43_Is F x_6.f_Type 10498).bind fun x_7=>
    if x_7=true then
      some (.done (.inr true))
    else
      some (.next (w64 (x_5+1)))
  else
    some (.done (.inl ()))
def wirelessref43_configWrong (F:Nat) (db_1:(List T_Attribute)) (i_2:Int):Option (Bool):=
  (wirelessref43_charOf F db_1 i_2).bind fun x_3=>
  (idx db_1 i_2).bind fun x_4=>
  if (((len x_4.Value) != 2)||(decide (x_3<0)))=true then
    some true
  else
    (iter (fun s=>wirelessref43_configWrong_l1 F db_1 i_2 s) F (x_3)).bind fun o=>
    match o with
    | .inl _=>wirelessref43_configWrong_j1 F
    | .inr u=>some u
def wirelessref43_wrong (F:Nat) (db_1:(List T_Attribute)) (i_2:Int):Option (Bool):=
  (idx db_1 i_2).bind fun x_3=>
  (if (i_2 == 0)=true then
    (wirelessref43_IsService F x_3).bind fun x_25=>
    some ((!x_25))
  else
    some (false)).bind fun z_5=>
  (if z_5=true then
    some (true)
  else
    (wirelessref43_declares F x_3.f_Type).bind fun x_22=>
    if x_22=true then
      some (((iand .i64 x_3.Perms 2) != 0))
    else
      some (false)).bind fun z_7=>
  if z_7=true then
    some true
  else
    (wirelessref43_IsService F x_3).bind fun x_8=>
    if x_8=true then
      (wirelessref41_Decode F x_3.Value).bind fun x_9=>
      some (x_9.2 != 0)
    else
      (wirelessref43_IsChar F x_3).bind fun x_10=>
      (if x_10=true then
        (wirelessref43_charWrong F db_1 i_2).bind fun x_20=>
        some (x_20)
      else
        some (false)).bind fun z_12=>
      (if z_12=true then
        some (true)
      else
        (wirelessref43_Is F x_3.f_Type 10498).bind fun x_16=>
        if x_16=true then
          (wirelessref43_configWrong F db_1 i_2).bind fun x_18=>
          some (x_18)
        else
          some (false)).bind fun z_14=>
      some z_14
def wirelessref43_Check_j1 (_:Nat):Option (Int):=
  some 0
def wirelessref43_Check_l1 (F:Nat) (db_1:(List T_Attribute)) (x_2:Int) (x_3:Int):Option (Out (Int×Int) (Sum (Unit) (Int))):=
  if (decide (x_3<(len db_1)))=true then
    (idx db_1 x_3).bind fun x_4=>
    if (decide (x_4.Handle≤x_2))=true then
      some (.done (.inr 13))
    else
      (idx db_1 x_3).bind fun x_5=>
      (if (decide (x_5.Perms<0))=true then
        some (true)
      else
        (idx db_1 x_3).bind fun x_12=>
        some (decide (x_12.Perms > 15))).bind fun z_7=>
      if z_7=true then
        some (.done (.inr 5))
      else
        (idx db_1 x_3).bind fun x_8=>
        if (decide ((len x_8.Value) > 512))=true then
          some (.done (.inr 4))
        else
          (wirelessref43_wrong F db_1 x_3).bind fun x_9=>
          if x_9=true then
            some (.done (.inr 1))
          else
            (idx db_1 x_3).bind fun x_10=>
            some (.next (x_10.Handle,w64 (x_3+1)))
  else
    some (.done (.inl ()))
def wirelessref43_Check (F:Nat) (db_1:(List T_Attribute)):Option (Int):=
  if (decide ((len db_1) > 1000))=true then
    some 4
  else
    (iter (fun s=>wirelessref43_Check_l1 F db_1 s.1 s.2) F (0,0)).bind fun o=>
    match o with
    | .inl _=>wirelessref43_Check_j1 F
    | .inr u=>some u
def wirelessref05_Low_j1 (_:Nat) (x_3:Int):Option (Int):=
  some (wu32 (remp x_3 4294967296))
def wirelessref05_Low (F:Nat) (k_1:Int) (i_2:Int):Option (Int):=
  if (decide ((remp (w64 ((w64 ((remp i_2 64)+64)) * 11)) 64) > 0))=true then
    (ishl .u64 k_1 (remp (w64 ((w64 ((remp i_2 64)+64)) * 11)) 64)).bind fun x_6=>
    (ishr .u64 k_1 (w64 (64 - (remp (w64 ((w64 ((remp i_2 64)+64)) * 11)) 64)))).bind fun x_7=>
    wirelessref05_Low_j1 F (ior .u64 x_6 x_7)
  else
    wirelessref05_Low_j1 F k_1
def wirelessref05_Turn_j1 (_:Nat) (x_3:Int):Option (Int):=
  some x_3
def wirelessref05_Turn (F:Nat) (x_1:Int) (n_2:Int):Option (Int):=
  (ishl .u32 x_1 n_2).bind fun x_6=>
  (ishr .u32 x_1 (w64 (32 - n_2))).bind fun x_7=>
  wirelessref05_Turn_j1 F (ior .u32 x_6 x_7)
def wirelessref05_Round (F:Nat) (k_1:Int) (i_2:Int) (half_3:Int):Option (Int):=
  (wirelessref05_Low F k_1 i_2).bind fun x_4=>
  (wirelessref05_Turn F (wu32 (half_3+x_4)) 7).bind fun x_5=>
  (wirelessref05_Turn F x_4 16).bind fun x_6=>
  some (ixor .u32 (wu32 (x_5 * 2654435761)) x_6)
def wirelessref05_Mix_j1 (_:Nat) (x_3:Int) (x_4:Int):Option (Int):=
  some (wu64 ((wu64 ((wu64 x_3) * 4294967296))+(wu64 x_4)))
def wirelessref05_Mix_l1 (F:Nat) (k_1:Int) (x_5:Int) (x_6:Int) (x_7:Int):Option (Out (Int×Int×Int) (Int×Int)):=
  if (decide (x_7<8))=true then
    (wirelessref05_Round F k_1 x_7 x_6).bind fun x_8=>
    some (.next (x_6,ixor .u32 x_5 x_8,w64 (x_7+1)))
  else
    some (.done (x_5,x_6))
def wirelessref05_Mix (F:Nat) (k_1:Int) (x_2:Int):Option (Int):=
  (iter (fun s=>wirelessref05_Mix_l1 F k_1 s.1 s.2.1 s.2.2) F (wu32 (quop .u64 x_2 4294967296),wu32 (remp x_2 4294967296),0)).bind fun o=>
  wirelessref05_Mix_j1 F o.1 o.2
def wirelessref02_Value_j1 (_:Nat) (x_2:Int):Option (Int):=
  some x_2
def wirelessref02_Value_l1 (_:Nat) (b_1:(List Int)) (x_3:Int) (x_4:Int):Option (Out (Int×Int) (Int)):=
  if (decide (x_4≥0))=true then
    (idx b_1 x_4).bind fun x_5=>
    some (.next (wu64 ((wu64 (x_3 * 256))+(wu64 x_5)),w64 (x_4 - 1)))
  else
    some (.done (x_3))
def wirelessref02_Value (F:Nat) (b_1:(List Int)):Option (Int):=
  (iter (fun s=>wirelessref02_Value_l1 F b_1 s.1 s.2) F (0,w64 ((len b_1) - 1))).bind fun o=>
  wirelessref02_Value_j1 F o
def wirelessref06_Tag_j1 (_:Nat) (x_4:Int):Option (Int):=
  some x_4
def wirelessref06_Tag_l1 (F:Nat) (k_1:Int) (b_2:(List Int)) (x_5:Int) (x_6:Int):Option (Out (Int×Int) (Int)):=
  if (decide (x_6<(len b_2)))=true then
    (sub b_2 x_6 (imin (w64 (x_6+8)) (len b_2))).bind fun l_7=>
    (wirelessref02_Value F l_7).bind fun x_8=>
    (wirelessref05_Mix F k_1 (ixor .u64 x_5 x_8)).bind fun x_9=>
    some (.next (x_9,w64 (x_6+8)))
  else
    some (.done (x_5))
def wirelessref06_Tag (F:Nat) (k_1:Int) (b_2:(List Int)):Option (Int):=
  (wirelessref05_Mix F k_1 (wu64 (len b_2))).bind fun x_3=>
  (iter (fun s=>wirelessref06_Tag_l1 F k_1 b_2 s.1 s.2) F (x_3,0)).bind fun o=>
  wirelessref06_Tag_j1 F o
def wirelessref02_Num_j1 (_:Nat) (l_3:(List Int)):Option ((List Int)):=
  some l_3
def wirelessref02_Num_l1 (_:Nat) (size_1:Int) (x_4:Int) (l_5:(List Int)) (x_6:Int):Option (Out (Int×(List Int)×Int) ((List Int))):=
  if (decide (x_6<size_1))=true then
    (app 1 l_5 [wu8 (remp x_4 256)]).bind fun l_7=>
    some (.next ((quop .u64 x_4 256),l_7,w64 (x_6+1)))
  else
    some (.done (l_5))
def wirelessref02_Num (F:Nat) (size_1:Int) (v_2:Int):Option ((List Int)):=
  (iter (fun s=>wirelessref02_Num_l1 F size_1 s.1 s.2.1 s.2.2) F (v_2,([]:(List Int)),0)).bind fun o=>
  wirelessref02_Num_j1 F o
def wirelessref06_Derive_j1 (F:Nat) (k_1:Int) (l_6:(List Int)):Option (Int):=
  (wirelessref06_Tag F k_1 l_6).bind fun x_7=>
  some x_7
def wirelessref06_Derive_l1 (F:Nat) (parts_3:(List Int)) (l_8:(List Int)) (x_9:Int):Option (Out ((List Int)×Int) ((List Int))):=
  if (decide (x_9<(len parts_3)))=true then
    (idx parts_3 x_9).bind fun x_10=>
    (wirelessref02_Num F 8 x_10).bind fun x_11=>
    (app 1 l_8 x_11).bind fun l_12=>
    some (.next (l_12,w64 (x_9+1)))
  else
    some (.done (l_8))
def wirelessref06_Derive (F:Nat) (k_1:Int) (label_2:List Int) (parts_3:(List Int)):Option (Int):=
  (app 1 ([]:List Int) label_2).bind fun l_4=>
  (app 1 l_4 [0]).bind fun l_5=>
  (iter (fun s=>wirelessref06_Derive_l1 F parts_3 s.1 s.2) F (l_5,0)).bind fun o=>
  wirelessref06_Derive_j1 F k_1 o
def wirelessref43_Hash_j1 (F:Nat) (l_2:(List Int)):Option (Int):=
  (wirelessref06_Tag F 0 l_2).bind fun x_3=>
  (wirelessref06_Derive F 0 [104,97,115,104] [x_3]).bind fun x_4=>
  some (imax 1 x_4)
def wirelessref43_Hash_j2 (_:Nat) (x_6:Int) (l_7:(List Int)):Option (Out ((List Int)×Int) ((List Int))):=
  some (.next (l_7,w64 (x_6+1)))
def wirelessref43_Hash_l1 (F:Nat) (db_1:(List T_Attribute)) (l_5:(List Int)) (x_6:Int):Option (Out ((List Int)×Int) ((List Int))):=
  if (decide (x_6<(len db_1)))=true then
    (idx db_1 x_6).bind fun x_8=>
    (wirelessref23_Put F (wu64 x_8.Handle) 2).bind fun x_9=>
    (app 1 l_5 x_9).bind fun l_10=>
    (idx db_1 x_6).bind fun x_11=>
    (wirelessref23_Put F x_11.f_Type.Low 8).bind fun x_12=>
    (app 1 l_10 x_12).bind fun l_13=>
    (idx db_1 x_6).bind fun x_14=>
    (wirelessref23_Put F x_14.f_Type.High 8).bind fun x_15=>
    (app 1 l_13 x_15).bind fun l_16=>
    (idx db_1 x_6).bind fun x_17=>
    (wirelessref43_declares F x_17.f_Type).bind fun x_18=>
    if x_18=true then
      (idx db_1 x_6).bind fun x_19=>
      (wirelessref23_Put F (wu64 (len x_19.Value)) 2).bind fun x_20=>
      (app 1 l_16 x_20).bind fun l_21=>
      (idx db_1 x_6).bind fun x_22=>
      (app 1 l_21 x_22.Value).bind fun l_23=>
      wirelessref43_Hash_j2 F x_6 l_23
    else
      wirelessref43_Hash_j2 F x_6 l_16
  else
    some (.done (l_5))
def wirelessref43_Hash (F:Nat) (db_1:(List T_Attribute)):Option (Int):=
  (iter (fun s=>wirelessref43_Hash_l1 F db_1 s.1 s.2) F ([],0)).bind fun o=>
  wirelessref43_Hash_j1 F o
def wirelessref43_SameDB_j1 (_:Nat):Option (Bool):=
  some true
def wirelessref43_SameDB_j2 (_:Nat) (x_3:Int) (z_4:Bool):Option (Out (Int) (Sum (Unit) (Bool))):=
  if z_4=true then
    some (.done (.inr false))
  else
    some (.next (w64 (x_3+1)))
def wirelessref43_SameDB_l1 (F:Nat) (a_1:(List T_Attribute)) (b_2:(List T_Attribute)) (x_3:Int):Option (Out (Int) (Sum (Unit) (Bool))):=
  if (decide (x_3<(len a_1)))=true then
    (idx a_1 x_3).bind fun x_5=>
    (idx b_2 x_3).bind fun x_6=>
    if (x_5.Handle != x_6.Handle)=true then
      wirelessref43_SameDB_j2 F x_3 true
    else
      if (!((x_5.f_Type.High == x_6.f_Type.High)&&(x_5.f_Type.Low == x_6.f_Type.Low)))=true then
        wirelessref43_SameDB_j2 F x_3 true
      else
        if (x_5.Perms != x_6.Perms)=true then
          wirelessref43_SameDB_j2 F x_3 true
        else
          (wirelessref23_Same F x_5.Value x_6.Value).bind fun x_12=>
          wirelessref43_SameDB_j2 F x_3 (!x_12)
  else
    some (.done (.inl ()))
def wirelessref43_SameDB (F:Nat) (a_1:(List T_Attribute)) (b_2:(List T_Attribute)):Option (Bool):=
  if ((len a_1) != (len b_2))=true then
    some false
  else
    (iter (fun s=>wirelessref43_SameDB_l1 F a_1 b_2 s) F (0)).bind fun o=>
    match o with
    | .inl _=>wirelessref43_SameDB_j1 F
    | .inr u=>some u
def wirelessref42_Fields_j7 (_:Nat) (z_8:Bool):Option (T_wirelessref42_Uses):=
  if z_8=true then
    some (T_wirelessref42_Uses.mk true false false false false false false false false false true)
  else
    some (T_wirelessref42_Uses.mk false false false false false false false false false false false)
def wirelessref42_Fields_j6 (F:Nat) (kind_1:Int) (z_7:Bool):Option (T_wirelessref42_Uses):=
  if z_7=true then
    some (T_wirelessref42_Uses.mk true false false false false false false false false false false)
  else
    if (kind_1 == 5)=true then
      wirelessref42_Fields_j7 F (kind_1 == 5)
    else
      if (kind_1 == 9)=true then
        wirelessref42_Fields_j7 F (kind_1 == 9)
      else
        wirelessref42_Fields_j7 F (kind_1 == 17)
def wirelessref42_Fields_j5 (F:Nat) (kind_1:Int) (z_6:Bool):Option (T_wirelessref42_Uses):=
  if z_6=true then
    some (T_wirelessref42_Uses.mk true false true false false true false false false true false)
  else
    if (kind_1 == 24)=true then
      some (T_wirelessref42_Uses.mk true false false false false false false false true false false)
    else
      if (kind_1 == 19)=true then
        wirelessref42_Fields_j6 F kind_1 (kind_1 == 19)
      else
        if (kind_1 == 25)=true then
          wirelessref42_Fields_j6 F kind_1 (kind_1 == 25)
        else
          wirelessref42_Fields_j6 F kind_1 (kind_1 == 30)
def wirelessref42_Fields_j4 (F:Nat) (kind_1:Int) (z_5:Bool):Option (T_wirelessref42_Uses):=
  if z_5=true then
    some (T_wirelessref42_Uses.mk true false true false false false false false false true false)
  else
    if (kind_1 == 22)=true then
      wirelessref42_Fields_j5 F kind_1 (kind_1 == 22)
    else
      wirelessref42_Fields_j5 F kind_1 (kind_1 == 23)
def wirelessref42_Fields_j3 (F:Nat) (kind_1:Int) (z_4:Bool):Option (T_wirelessref42_Uses):=
  if z_4=true then
    some (T_wirelessref42_Uses.mk true false false false false false false false false true false)
  else
    if (kind_1 == 18)=true then
      wirelessref42_Fields_j4 F kind_1 (kind_1 == 18)
    else
      if (kind_1 == 82)=true then
        wirelessref42_Fields_j4 F kind_1 (kind_1 == 82)
      else
        if (kind_1 == 27)=true then
          wirelessref42_Fields_j4 F kind_1 (kind_1 == 27)
        else
          wirelessref42_Fields_j4 F kind_1 (kind_1 == 29)
def wirelessref42_Fields_j2 (F:Nat) (kind_1:Int) (z_3:Bool):Option (T_wirelessref42_Uses):=
  if z_3=true then
    some (T_wirelessref42_Uses.mk true false true true true false false false false false false)
  else
    if (kind_1 == 10)=true then
      some (T_wirelessref42_Uses.mk true false true false false false false false false false false)
    else
      if (kind_1 == 12)=true then
        some (T_wirelessref42_Uses.mk true false true false false true false false false false false)
      else
        if (kind_1 == 11)=true then
          wirelessref42_Fields_j3 F kind_1 (kind_1 == 11)
        else
          wirelessref42_Fields_j3 F kind_1 (kind_1 == 13)
def wirelessref42_Fields_j1 (F:Nat) (kind_1:Int) (z_2:Bool):Option (T_wirelessref42_Uses):=
  if z_2=true then
    some (T_wirelessref42_Uses.mk true false false false false false true false false false false)
  else
    if (kind_1 == 4)=true then
      some (T_wirelessref42_Uses.mk true false true true false false false false false false false)
    else
      if (kind_1 == 8)=true then
        wirelessref42_Fields_j2 F kind_1 (kind_1 == 8)
      else
        wirelessref42_Fields_j2 F kind_1 (kind_1 == 16)
def wirelessref42_Fields (F:Nat) (kind_1:Int):Option (T_wirelessref42_Uses):=
  if (kind_1 == 1)=true then
    some (T_wirelessref42_Uses.mk true true true false false false false true false false false)
  else
    if (kind_1 == 2)=true then
      wirelessref42_Fields_j1 F kind_1 (kind_1 == 2)
    else
      wirelessref42_Fields_j1 F kind_1 (kind_1 == 3)
def wirelessref42_unused (F:Nat) (p_1:T_AttPDU):Option (Bool):=
  (wirelessref42_Fields F p_1.Kind).bind fun x_2=>
  (if ((((!x_2.Asked)&&(p_1.Asked != 0))||((!x_2.Handle)&&(p_1.Handle != 0)))||((!x_2.Last)&&(p_1.Last != 0)))=true then
    some (true)
  else
    if (!x_2.f_Type)=true then
      some ((!((p_1.f_Type.High == 0)&&(p_1.f_Type.Low == 0))))
    else
      some (false)).bind fun z_4=>
  if (z_4||((!x_2.Offset)&&(p_1.Offset != 0)))=true then
    some false
  else
    if ((((!x_2.MTU)&&(p_1.MTU != 0))||((!x_2.Code)&&(p_1.Code != 0)))||((!x_2.Commit)&&p_1.Commit))=true then
      some false
    else
      some ((x_2.Value||((len p_1.Value) == 0))&&(x_2.List||((len p_1.List) == 0)))
def wirelessref42_itemBytes_j1 (_:Nat) (x_2:T_AttItem) (l_6:(List Int)):Option ((List Int)):=
  (app 1 l_6 x_2.Value).bind fun l_7=>
  some l_7
def wirelessref42_itemBytes (F:Nat) (kind_1:Int) (x_2:T_AttItem):Option ((List Int)):=
  (wirelessref23_Put F (wu64 x_2.Handle) 2).bind fun x_3=>
  if (kind_1 == 5)=true then
    (wirelessref41_Encode F x_2.f_Type).bind fun x_4=>
    (app 1 x_3 x_4).bind fun l_5=>
    some l_5
  else
    if (kind_1 == 17)=true then
      (wirelessref23_Put F (wu64 x_2.Last) 2).bind fun x_8=>
      (app 1 x_3 x_8).bind fun l_9=>
      wirelessref42_itemBytes_j1 F x_2 l_9
    else
      wirelessref42_itemBytes_j1 F x_2 x_3
def wirelessref42_checkItem_j2 (_:Nat) (z_8:Bool):Option (Int):=
  if z_8=true then
    some 11
  else
    some 0
def wirelessref42_checkItem_j1 (F:Nat) (kind_1:Int) (l_2:(List T_AttItem)) (x_4:T_AttItem) (z_7:Bool):Option (Int):=
  if z_7=true then
    some 13
  else
    (idx l_2 0).bind fun x_9=>
    (wirelessref42_itemBytes F kind_1 x_4).bind fun x_12=>
    (wirelessref42_itemBytes F kind_1 x_9).bind fun x_653=>
    wirelessref42_checkItem_j2 F ((len x_12) != (len x_653))
def wirelessref42_checkItem (F:Nat) (kind_1:Int) (l_2:(List T_AttItem)) (i_3:Int):Option (Int):=
  (idx l_2 i_3).bind fun x_4=>
  (if (!(kind_1 == 5))=true then
    some ((!((x_4.f_Type.High == 0)&&(x_4.f_Type.Low == 0))))
  else
    some (false)).bind fun z_6=>
  if ((z_6||((kind_1 == 5)&&(decide ((len x_4.Value) > 0))))||((!(kind_1 == 17))&&(x_4.Last != 0)))=true then
    some 1
  else
    if (x_4.Handle == 0)=true then
      some 5
    else
      if (decide (i_3 > 0))=true then
        (idx l_2 (w64 (i_3 - 1))).bind fun x_1616=>
        (idx l_2 (w64 (i_3 - 1))).bind fun x_2096=>
        wirelessref42_checkItem_j1 F kind_1 l_2 x_4 ((decide (x_4.Handle≤(imax x_1616.Handle x_2096.Last)))||((kind_1 == 17)&&(decide (x_4.Last<x_4.Handle))))
      else
        wirelessref42_checkItem_j1 F kind_1 l_2 x_4 (false||((kind_1 == 17)&&(decide (x_4.Last<x_4.Handle))))
def wirelessref42_checkList_j2 (_:Nat) (p_1:T_AttPDU) (x_2:Int):Option (Int):=
  if ((decide (x_2 > 255))||(decide ((w64 (2+(w64 (x_2 * (len p_1.List))))) > 517)))=true then
    some 4
  else
    some 0
def wirelessref42_checkList_j1 (F:Nat) (p_1:T_AttPDU):Option (Int):=
  (idx p_1.List 0).bind fun x_3=>
  (wirelessref42_itemBytes F p_1.Kind x_3).bind fun x_6=>
  wirelessref42_checkList_j2 F p_1 (len x_6)
def wirelessref42_checkList_l1 (F:Nat) (p_1:T_AttPDU) (x_7:Int):Option (Out (Int) (Sum (Unit) (Int))):=
  if (decide (x_7<(len p_1.List)))=true then
    (wirelessref42_checkItem F p_1.Kind p_1.List x_7).bind fun x_8=>
    if (x_8 != 0)=true then
      some (.done (.inr x_8))
    else
      some (.next (w64 (x_7+1)))
  else
    some (.done (.inl ()))
def wirelessref42_checkList (F:Nat) (p_1:T_AttPDU):Option (Int):=
  if ((len p_1.List) == 0)=true then
    some 1
  else
    (iter (fun s=>wirelessref42_checkList_l1 F p_1 s) F (0)).bind fun o=>
    match o with
    | .inl _=>wirelessref42_checkList_j1 F p_1
    | .inr u=>some u
def wirelessref42_Check (F:Nat) (p_1:T_AttPDU):Option (Int):=
  (wirelessref42_Fields F p_1.Kind).bind fun x_2=>
  if (!x_2.Known)=true then
    some 12
  else
    (wirelessref42_unused F p_1).bind fun x_3=>
    if (!x_3)=true then
      some 1
    else
      if (x_2.Asked&&((decide (p_1.Asked<0))||(decide (p_1.Asked > 255))))=true then
        some 5
      else
        if ((x_2.Handle&&(p_1.Handle == 0))&&(p_1.Kind != 1))=true then
          some 5
        else
          if (x_2.Last&&(decide (p_1.Last<p_1.Handle)))=true then
            some 13
          else
            if (x_2.Offset&&((decide (p_1.Offset<0))||(decide (p_1.Offset > 65535))))=true then
              some 5
            else
              if (x_2.MTU&&((decide (p_1.MTU<23))||(decide (p_1.MTU > 517))))=true then
                some 5
              else
                if (x_2.Code&&((decide (p_1.Code<1))||(decide (p_1.Code > 255))))=true then
                  some 5
                else
                  if (decide ((len p_1.Value) > 512))=true then
                    some 4
                  else
                    if x_2.List=true then
                      (wirelessref42_checkList F p_1).bind fun x_4=>
                      some x_4
                    else
                      some 0
def wirelesslaw45_readsHash_j1 (_:Nat) (z_2:Bool):Option (Bool):=
  some z_2
def wirelesslaw45_readsHash (F:Nat) (p_1:T_AttPDU):Option (Bool):=
  if (p_1.Kind == 8)=true then
    (wirelessref41_Short F 11050).bind fun x_6=>
    wirelesslaw45_readsHash_j1 F ((p_1.f_Type.High == x_6.High)&&(p_1.f_Type.Low == x_6.Low))
  else
    wirelesslaw45_readsHash_j1 F false
def wirelessref45_SameSubs_j1 (_:Nat):Option (Bool):=
  some true
def wirelessref45_SameSubs_j2 (_:Nat) (x_3:Int) (z_4:Bool):Option (Out (Int) (Sum (Unit) (Bool))):=
  if z_4=true then
    some (.done (.inr false))
  else
    some (.next (w64 (x_3+1)))
def wirelessref45_SameSubs_l1 (F:Nat) (a_1:(List T_Subscription)) (b_2:(List T_Subscription)) (x_3:Int):Option (Out (Int) (Sum (Unit) (Bool))):=
  if (decide (x_3<(len a_1)))=true then
    (idx a_1 x_3).bind fun x_5=>
    (idx b_2 x_3).bind fun x_6=>
    wirelessref45_SameSubs_j2 F x_3 (!((x_5.Handle == x_6.Handle)&&(x_5.Bits == x_6.Bits)))
  else
    some (.done (.inl ()))
def wirelessref45_SameSubs (F:Nat) (a_1:(List T_Subscription)) (b_2:(List T_Subscription)):Option (Bool):=
  if ((len a_1) != (len b_2))=true then
    some false
  else
    (iter (fun s=>wirelessref45_SameSubs_l1 F a_1 b_2 s) F (0)).bind fun o=>
    match o with
    | .inl _=>wirelessref45_SameSubs_j1 F
    | .inr u=>some u
def wirelessref42_Answer_j1 (_:Nat) (kind_1:Int) (z_2:Bool):Option (Int):=
  if z_2=true then
    some (w64 (kind_1+1))
  else
    some (-1)
def wirelessref42_Answer (F:Nat) (kind_1:Int):Option (Int):=
  if (kind_1 == 2)=true then
    wirelessref42_Answer_j1 F kind_1 (kind_1 == 2)
  else
    if (kind_1 == 4)=true then
      wirelessref42_Answer_j1 F kind_1 (kind_1 == 4)
    else
      if (kind_1 == 8)=true then
        wirelessref42_Answer_j1 F kind_1 (kind_1 == 8)
      else
        if (kind_1 == 10)=true then
          wirelessref42_Answer_j1 F kind_1 (kind_1 == 10)
        else
          if (kind_1 == 12)=true then
            wirelessref42_Answer_j1 F kind_1 (kind_1 == 12)
          else
            if (kind_1 == 16)=true then
              wirelessref42_Answer_j1 F kind_1 (kind_1 == 16)
            else
              if (kind_1 == 18)=true then
                wirelessref42_Answer_j1 F kind_1 (kind_1 == 18)
              else
                if (kind_1 == 22)=true then
                  wirelessref42_Answer_j1 F kind_1 (kind_1 == 22)
                else
                  if (kind_1 == 24)=true then
                    wirelessref42_Answer_j1 F kind_1 (kind_1 == 24)
                  else
                    wirelessref42_Answer_j1 F kind_1 (kind_1 == 29)
def wirelesslaw45_ServerRefuses_j2 (F:Nat):Option (Bool):=
  (wirelesslaw45_exampleHolds F).bind fun x_14=>
  some x_14
def wirelesslaw45_ServerRefuses_j3 (_:Nat) (x_27:Int) (c_39:T_Server):Option (Out (T_Server×Int) (Sum (Unit) (Bool))):=
  some (.next (c_39,w64 (x_27+1)))
def wirelesslaw45_ServerRefuses_j5 (_:Nat) (z_65:Bool):Option (Out (T_Server×Int) (Sum (Unit) (Bool))):=
  some (.done (.inr z_65))
def wirelesslaw45_ServerRefuses_j4 (F:Nat) (l_3:(List T_AttPDU)) (c_26:T_Server) (x_27:Int) (c_55:T_Server) (l_56:(List T_AttPDU)) (l_57:(List Int)):Option (Out (T_Server×Int) (Sum (Unit) (Bool))):=
  (if (decide ((len l_57) > 0))=true then
    some (true)
  else
    (wirelessref43_SameDB F c_55.DB c_26.DB).bind fun x_2801=>
    some ((!x_2801))).bind fun z_59=>
  (if z_59=true then
    some (true)
  else
    (wirelessref45_SameSubs F c_55.Subs c_26.Subs).bind fun x_2799=>
    some ((!x_2799))).bind fun z_61=>
  if ((z_61||(decide ((len c_55.Queue) > 0)))||(c_55.MTU != c_26.MTU))=true then
    some (.done (.inr false))
  else
    (idx l_3 x_27).bind fun x_62=>
    (if (x_62.Kind != 29)=true then
      (idx l_3 x_27).bind fun x_2796=>
      (wirelessref42_Answer F x_2796.Kind).bind fun x_2797=>
      some (decide (x_2797≥0))
    else
      some (false)).bind fun z_64=>
    if z_64=true then
      if ((len l_56) == 1)=true then
        (idx l_56 0).bind fun x_69=>
        if (x_69.Kind == 1)=true then
          (idx l_56 0).bind fun x_1031=>
          (idx l_3 x_27).bind fun x_1431=>
          if (x_1031.Asked == x_1431.Kind)=true then
            (idx l_56 0).bind fun x_2792=>
            if (x_2792.Code == 18)=true then
              (wirelesslaw45_exampleHolds F).bind fun x_2794=>
              wirelesslaw45_ServerRefuses_j5 F x_2794
            else
              wirelesslaw45_ServerRefuses_j5 F false
          else
            wirelesslaw45_ServerRefuses_j5 F false
        else
          wirelesslaw45_ServerRefuses_j5 F false
      else
        wirelesslaw45_ServerRefuses_j5 F false
    else
      if (decide ((len l_56) > 0))=true then
        some (.done (.inr false))
      else
        wirelesslaw45_ServerRefuses_j3 F x_27 c_55
def wirelesslaw45_ServerRefuses_l1 (F:Nat) (l_3:(List T_AttPDU)) (c_26:T_Server) (x_27:Int):Option (Out (T_Server×Int) (Sum (Unit) (Bool))):=
  if (decide (x_27<(len l_3)))=true then
    (idx l_3 x_27).bind fun x_40=>
    (wirelessref42_Check F x_40).bind fun x_41=>
    if (x_41 != 0)=true then
      wirelesslaw45_ServerRefuses_j3 F x_27 c_26
    else
      (idx l_3 x_27).bind fun x_42=>
      (wirelesslaw45_readsHash F x_42).bind fun x_43=>
      if x_43=true then
        some (.done (.inl ()))
      else
        (idx l_3 x_27).bind fun x_2802=>
        (server_Handle F c_26 x_2802 0).bind fun x_3205=>
        wirelesslaw45_ServerRefuses_j4 F l_3 c_26 x_27 x_3205.1 x_3205.2.1 x_3205.2.2
  else
    some (.done (.inl ()))
def wirelesslaw45_ServerRefuses_j1 (F:Nat) (dbs_1:((List T_Attribute)×(List T_Attribute))) (l_3:(List T_AttPDU)) (x_8:T_Server×Int) (z_9:Bool):Option (Bool):=
  if z_9=true then
    (wirelesslaw45_exampleHolds F).bind fun x_10=>
    some x_10
  else
    (server_Replace F x_8.1 dbs_1.2).bind fun x_11=>
    (if (x_11.2 != 0)=true then
      some (true)
    else
      (wirelessref43_SameDB F x_11.1.DB dbs_1.2).bind fun x_4006=>
      some ((!x_4006))).bind fun z_13=>
    if z_13=true then
      some false
    else
      (iter (fun s=>wirelesslaw45_ServerRefuses_l1 F l_3 s.1 s.2) F (x_11.1,0)).bind fun o=>
      match o with
      | .inl _=>wirelesslaw45_ServerRefuses_j2 F
      | .inr u=>some u
def wirelesslaw45_ServerRefuses (F:Nat) (dbs_1:((List T_Attribute)×(List T_Attribute))) (subs_2:(List T_Subscription)) (l_3:(List T_AttPDU)):Option (Bool):=
  (wirelesslaw45_light F dbs_1.1).bind fun x_4=>
  (if (!x_4)=true then
    some (true)
  else
    (wirelesslaw45_light F dbs_1.2).bind fun x_5453=>
    some ((!x_5453))).bind fun z_6=>
  if ((z_6||(decide ((len subs_2) > 100)))||(decide ((len l_3) > 30)))=true then
    (wirelesslaw45_exampleHolds F).bind fun x_7=>
    some x_7
  else
    (server_New F dbs_1.1 100 2 true 2 subs_2).bind fun x_8=>
    if (x_8.2 != 0)=true then
      wirelesslaw45_ServerRefuses_j1 F dbs_1 l_3 x_8 true
    else
      (wirelessref43_Check F dbs_1.2).bind fun x_4010=>
      if (x_4010 != 0)=true then
        wirelesslaw45_ServerRefuses_j1 F dbs_1 l_3 x_8 true
      else
        (wirelessref43_Hash F dbs_1.1).bind fun x_4892=>
        (wirelessref43_Hash F dbs_1.2).bind fun x_5132=>
        wirelesslaw45_ServerRefuses_j1 F dbs_1 l_3 x_8 (x_4892 == x_5132)
end V
end Go.Proofs.YtoahakdkgefgiaaGreat
