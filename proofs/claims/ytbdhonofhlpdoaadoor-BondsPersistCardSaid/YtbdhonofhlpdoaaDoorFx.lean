/- Pure twins of more Go functions, written by program; the pla -/
import Derived.Test.YtbdhonofhlpdoaaDoorFn
namespace Go.Proofs.YtbdhonofhlpdoaaDoor
namespace V
def wirelessref02_Value_j1 (_:Nat) (x_2:Int):Option (Int):=
  some x_2
def wirelessref02_Value_l1 (_:Nat) (b_1:(List Int)) (x_3:Int) (x_4:Int):Option (Out (Int×Int) (Int)):=
  if (decide (x_4≥0))=true then
    (idx b_1 x_4).bind fun x_5=>
    some (.next (wu64 ((wu64 (x_3 * 256))+(wu64 x_5)),w64 (x_4 - 1)))
  else
    some (.done (x_3))
def wirelessref02_Value (F:Nat) (b_1:(List Int)):Option (Int):=
  (iter (fun s=>wirelessref02_Value_l1 F b_1 s.1 s.2) F (0,w64 ((len b_1) - 1))).bind fun o=>
  wirelessref02_Value_j1 F o
def wirelessref02_Num_j1 (_:Nat) (l_3:(List Int)):Option ((List Int)):=
  some l_3
def wirelessref02_Num_l1 (_:Nat) (size_1:Int) (x_4:Int) (l_5:(List Int)) (x_6:Int):Option (Out (Int×(List Int)×Int) ((List Int))):=
  if (decide (x_6<size_1))=true then
    (app 1 l_5 [wu8 (remp x_4 256)]).bind fun l_7=>
    some (.next ((quop .u64 x_4 256),l_7,w64 (x_6+1)))
  else
    some (.done (l_5))
def wirelessref02_Num (F:Nat) (size_1:Int) (v_2:Int):Option ((List Int)):=
  (iter (fun s=>wirelessref02_Num_l1 F size_1 s.1 s.2.1 s.2.2) F (v_2,([]:(List Int)),0)).bind fun o=>
  wirelessref02_Num_j1 F o
def wirelessref03_feed_j1 (_:Nat) (x_3:Int):Option (Int):=
  some x_3
def wirelessref03_feed (F:Nat) (register_1:Int) (bit_2:Int):Option (Int):=
  if ((ixor .u32 (remp register_1 2) bit_2) == 1)=true then
    wirelessref03_feed_j1 F (ixor .u32 (quop .u32 register_1 2) 14311424)
  else
    wirelessref03_feed_j1 F (quop .u32 register_1 2)
def wirelessref03_Sum_j1 (_:Nat) (x_3:Int):Option (Int):=
  some x_3
def wirelessref03_Sum_j2 (_:Nat) (x_5:Int) (x_6:Int):Option (Out (Int×Int) (Int)):=
  some (.next (x_6,w64 (x_5+1)))
def wirelessref03_Sum_l2 (F:Nat) (x_8:Int) (x_9:Int) (x_10:Int):Option (Out (Int×Int×Int) (Int)):=
  if (decide (x_10<8))=true then
    (wirelessref03_feed F x_8 (remp x_9 2)).bind fun x_11=>
    some (.next (x_11,(quop .u32 x_9 2),w64 (x_10+1)))
  else
    some (.done (x_8))
def wirelessref03_Sum_l1 (F:Nat) (b_2:(List Int)) (x_4:Int) (x_5:Int):Option (Out (Int×Int) (Int)):=
  if (decide (x_5<(len b_2)))=true then
    (idx b_2 x_5).bind fun x_7=>
    (iter (fun s=>wirelessref03_Sum_l2 F s.1 s.2.1 s.2.2) F (x_4,wu32 x_7,0)).bind fun o=>
    wirelessref03_Sum_j2 F x_5 o
  else
    some (.done (x_4))
def wirelessref03_Sum (F:Nat) (init_1:Int) (b_2:(List Int)):Option (Int):=
  (iter (fun s=>wirelessref03_Sum_l1 F b_2 s.1 s.2) F ((remp init_1 16777216),0)).bind fun o=>
  wirelessref03_Sum_j1 F o
def wirelessref39_Header (F:Nat) (count_1:Int):Option ((List Int)):=
  (wirelessref02_Num F 4 (wu64 count_1)).bind fun x_2=>
  (app 1 [66,75] x_2).bind fun l_3=>
  (wirelessref03_Sum F 0 l_3).bind fun x_4=>
  (wirelessref02_Num F 3 (wu64 x_4)).bind fun x_5=>
  (app 1 l_3 x_5).bind fun l_6=>
  (app 1 l_6 [0]).bind fun l_7=>
  some l_7
def wirelessref39_count_j1 (_:Nat) (x_3:Int) (z_4:Bool):Option (Int):=
  if z_4=true then
    some (-1)
  else
    some (w64 x_3)
def wirelessref39_count (F:Nat) (b_1:(List Int)):Option (Int):=
  if (decide ((len b_1)<10))=true then
    some (-1)
  else
    (sub b_1 2 6).bind fun l_2=>
    (wirelessref02_Value F l_2).bind fun x_3=>
    (sub b_1 0 10).bind fun l_7=>
    (wirelessref39_Header F (w64 x_3)).bind fun x_328=>
    wirelessref39_count_j1 F x_3 ((str l_7) != (str x_328))
def wirelessref39_Record (F:Nat) (key_1:Int) (value_2:(List Int)):Option ((List Int)):=
  (wirelessref02_Num F 2 (wu64 (len value_2))).bind fun x_3=>
  (wirelessref02_Num F 2 (wu64 key_1)).bind fun x_4=>
  (app 1 x_3 x_4).bind fun l_5=>
  (app 1 l_5 value_2).bind fun l_6=>
  (wirelessref03_Sum F 0 l_6).bind fun x_7=>
  (wirelessref02_Num F 3 (wu64 x_7)).bind fun x_8=>
  (app 1 l_6 x_8).bind fun l_9=>
  (app 1 l_9 [0]).bind fun l_10=>
  some l_10
def wirelessref39_Set_j2 (_:Nat) (l_6:(List T_Item)):Option ((List T_Item)):=
  some l_6
def wirelessref39_Set_j1 (F:Nat) (key_2:Int) (value_3:(List Int)) (l_4:(List T_Item)) (z_5:Bool):Option ((List T_Item)):=
  if (!z_5)=true then
    (app 1 ([]:(List Int)) value_3).bind fun l_7=>
    (app 32 l_4 [(T_Item.mk key_2 l_7)]).bind fun l_8=>
    wirelessref39_Set_j2 F l_8
  else
    wirelessref39_Set_j2 F l_4
def wirelessref39_Set_j3 (_:Nat) (x_11:Int) (l_12:(List T_Item)) (z_13:Bool):Option (Out ((List T_Item)×Bool×Int) ((List T_Item)×Bool)):=
  some (.next (l_12,z_13,w64 (x_11+1)))
def wirelessref39_Set_j4 (F:Nat) (l_1:(List T_Item)) (key_2:Int) (x_11:Int) (l_14:(List T_Item)) (z_15:Bool):Option (Out ((List T_Item)×Bool×Int) ((List T_Item)×Bool)):=
  (idx l_1 x_11).bind fun x_16=>
  if (x_16.Key != key_2)=true then
    (idx l_1 x_11).bind fun x_17=>
    (app 32 l_14 [x_17]).bind fun l_18=>
    wirelessref39_Set_j3 F x_11 l_18 z_15
  else
    wirelessref39_Set_j3 F x_11 l_14 z_15
def wirelessref39_Set_l1 (F:Nat) (l_1:(List T_Item)) (key_2:Int) (value_3:(List Int)) (l_9:(List T_Item)) (z_10:Bool) (x_11:Int):Option (Out ((List T_Item)×Bool×Int) ((List T_Item)×Bool)):=
  if (decide (x_11<(len l_1)))=true then
    (if (!z_10)=true then
      (idx l_1 x_11).bind fun x_24=>
      some (decide (x_24.Key≥key_2))
    else
      some (false)).bind fun z_20=>
    if z_20=true then
      (app 1 ([]:(List Int)) value_3).bind fun l_21=>
      (app 32 l_9 [(T_Item.mk key_2 l_21)]).bind fun l_22=>
      wirelessref39_Set_j4 F l_1 key_2 x_11 l_22 true
    else
      wirelessref39_Set_j4 F l_1 key_2 x_11 l_9 z_10
  else
    some (.done (l_9,z_10))
def wirelessref39_Set (F:Nat) (l_1:(List T_Item)) (key_2:Int) (value_3:(List Int)):Option ((List T_Item)):=
  (iter (fun s=>wirelessref39_Set_l1 F l_1 key_2 value_3 s.1 s.2.1 s.2.2) F (([]:(List T_Item)),((len value_3) == 0),0)).bind fun o=>
  wirelessref39_Set_j1 F key_2 value_3 o.1 o.2
def wirelessref39_records_j1 (_:Nat) (l_2:(List T_Item)) (x_3:Int):Option ((List T_Item)×Int):=
  some (l_2,x_3)
def wirelessref39_records_j2 (F:Nat) (l_4:(List T_Item)) (x_5:Int) (x_7:Int) (x_9:Int) (l_11:(List Int)) (z_12:Bool):Option (Out ((List T_Item)×Int) (Sum ((List T_Item)×Int) ((List T_Item)×Int))):=
  if z_12=true then
    some (.done (.inr (l_4,x_5)))
  else
    (wirelessref39_Set F l_4 (wu16 x_9) l_11).bind fun x_13=>
    some (.next (x_13,w64 ((w64 (x_5+(w64 x_7)))+8)))
def wirelessref39_records_l1 (F:Nat) (b_1:(List Int)) (l_4:(List T_Item)) (x_5:Int):Option (Out ((List T_Item)×Int) (Sum ((List T_Item)×Int) ((List T_Item)×Int))):=
  if (decide ((w64 ((len b_1) - x_5))≥8))=true then
    (sub b_1 x_5 (w64 (x_5+2))).bind fun l_6=>
    (wirelessref02_Value F l_6).bind fun x_7=>
    if ((decide ((w64 x_7) > 1024))||(decide ((w64 ((w64 x_7)+8)) > (w64 ((len b_1) - x_5)))))=true then
      some (.done (.inr (l_4,x_5)))
    else
      (sub b_1 (w64 (x_5+2)) (w64 (x_5+4))).bind fun l_8=>
      (wirelessref02_Value F l_8).bind fun x_9=>
      (sub b_1 (w64 (x_5+4)) (w64 ((w64 (x_5+4))+(w64 x_7)))).bind fun l_10=>
      (app 1 ([]:(List Int)) l_10).bind fun l_11=>
      (sub b_1 x_5 (w64 ((w64 (x_5+(w64 x_7)))+8))).bind fun l_16=>
      (wirelessref39_Record F (wu16 x_9) l_11).bind fun x_817=>
      wirelessref39_records_j2 F l_4 x_5 x_7 x_9 l_11 ((str l_16) != (str x_817))
  else
    some (.done (.inl (l_4,x_5)))
def wirelessref39_records (F:Nat) (b_1:(List Int)):Option ((List T_Item)×Int):=
  (iter (fun s=>wirelessref39_records_l1 F b_1 s.1 s.2) F (([]:(List T_Item)),10)).bind fun o=>
  match o with
  | .inl u=>wirelessref39_records_j1 F u.1 u.2
  | .inr u=>some u
def wirelessref39_erased_j1 (_:Nat) (l_3:(List Int)):Option ((List Int)):=
  some l_3
def wirelessref39_erased_l1 (_:Nat) (n_1:Int) (l_4:(List Int)) (x_5:Int):Option (Out ((List Int)×Int) ((List Int))):=
  if (decide (x_5<n_1))=true then
    (idx l_4 x_5).bind fun _=>
    (upd l_4 x_5 255).bind fun l_7=>
    some (.next (l_7,w64 (x_5+1)))
  else
    some (.done (l_4))
def wirelessref39_erased (F:Nat) (n_1:Int):Option ((List Int)):=
  (mk 1 0 n_1).bind fun l_2=>
  (iter (fun s=>wirelessref39_erased_l1 F n_1 s.1 s.2) F (l_2,0)).bind fun o=>
  wirelessref39_erased_j1 F o
def wirelessref39_Mount_j3 (_:Nat) (x_2:T_Flash) (x_5:Int) (x_6:Int) (x_8:(List T_Item)×Int) (x_9:Int):Option (T_Store×Int):=
  some ((T_Store.mk x_2 x_5 x_6 x_9 x_8.1),0)
def wirelessref39_Mount_j4 (F:Nat) (f_1:T_Flash) (x_2:T_Flash) (x_5:Int) (x_6:Int) (x_8:(List T_Item)×Int) (z_10:Bool):Option (T_Store×Int):=
  if z_10=true then
    wirelessref39_Mount_j3 F x_2 x_5 x_6 x_8 x_8.2
  else
    wirelessref39_Mount_j3 F x_2 x_5 x_6 x_8 (len f_1.Banks.1)
def wirelessref39_Mount_j5 (_:Nat) (x_2:T_Flash) (x_5:Int) (x_6:Int) (x_895:(List T_Item)×Int) (x_896:Int):Option (T_Store×Int):=
  some ((T_Store.mk x_2 x_5 x_6 x_896 x_895.1),0)
def wirelessref39_Mount_j6 (F:Nat) (f_1:T_Flash) (x_2:T_Flash) (x_5:Int) (x_6:Int) (x_895:(List T_Item)×Int) (z_897:Bool):Option (T_Store×Int):=
  if z_897=true then
    wirelessref39_Mount_j5 F x_2 x_5 x_6 x_895 x_895.2
  else
    wirelessref39_Mount_j5 F x_2 x_5 x_6 x_895 (len f_1.Banks.1)
def wirelessref39_Mount_j2 (F:Nat) (f_1:T_Flash) (x_2:T_Flash) (x_5:Int) (x_6:Int):Option (T_Store×Int):=
  if (x_5 == 0)=true then
    (wirelessref39_records F f_1.Banks.1).bind fun x_8=>
    (sub f_1.Banks.1 x_8.2 (len f_1.Banks.1)).bind fun l_13=>
    (wirelessref39_erased F (w64 ((len f_1.Banks.1) - x_8.2))).bind fun x_574=>
    wirelessref39_Mount_j4 F f_1 x_2 x_5 x_6 x_8 ((str l_13) == (str x_574))
  else
    if (x_5 == 1)=true then
      (wirelessref39_records F f_1.Banks.2).bind fun x_895=>
      (sub f_1.Banks.2 x_895.2 (len f_1.Banks.2)).bind fun l_900=>
      (wirelessref39_erased F (w64 ((len f_1.Banks.1) - x_895.2))).bind fun x_1461=>
      wirelessref39_Mount_j6 F f_1 x_2 x_5 x_6 x_895 ((str l_900) == (str x_1461))
    else
      none
def wirelessref39_Mount_j1 (F:Nat) (f_1:T_Flash) (x_2:T_Flash) (x_3:Int) (x_4:Int):Option (T_Store×Int):=
  if ((decide (x_3<0))&&(decide (x_4<0)))=true then
    some ((T_Store.mk x_2 0 0 (len f_1.Banks.1) []),0)
  else
    if (decide (x_4 > x_3))=true then
      wirelessref39_Mount_j2 F f_1 x_2 1 x_4
    else
      wirelessref39_Mount_j2 F f_1 x_2 0 x_3
def wirelessref39_Mount (F:Nat) (f_1:T_Flash):Option (T_Store×Int):=
  if ((((len f_1.Banks.1) != (len f_1.Banks.2))||(decide ((len f_1.Banks.1)<64)))||(decide ((len f_1.Banks.1) > 65536)))=true then
    some ((T_Store.mk (T_Flash.mk ([],[])) 0 0 0 []),5)
  else
    (wirelessref39_Copy F f_1).bind fun x_2=>
    (wirelessref39_count F f_1.Banks.1).bind fun x_2023=>
    (wirelessref39_count F f_1.Banks.2).bind fun x_2343=>
    wirelessref39_Mount_j1 F f_1 x_2 x_2023 x_2343
def wirelessref08_prefix (_:Nat) (kind_1:Int):Option (Int):=
  if (kind_1 == 2)=true then
    some 3
  else
    if (kind_1 == 3)=true then
      some 1
    else
      some 0
def wirelessref08_Check_j2 (_:Nat) (z_4:Bool):Option (Int):=
  if z_4=true then
    some 1
  else
    some 0
def wirelessref08_Check_j1 (F:Nat) (a_1:T_Address) (x_2:Int) (x_3:Int):Option (Int):=
  (wirelessref08_prefix F a_1.Kind).bind fun x_7=>
  wirelessref08_Check_j2 F ((((quop .u64 a_1.Bits 70368744177664) != x_7)||(x_2 == 0))||(x_2 == x_3))
def wirelessref08_Check (F:Nat) (a_1:T_Address):Option (Int):=
  if ((decide (a_1.Kind<1))||(decide (a_1.Kind > 4)))=true then
    some 12
  else
    if (decide (a_1.Bits≥281474976710656))=true then
      some 5
    else
      if (a_1.Kind == 1)=true then
        some 0
      else
        if (a_1.Kind == 3)=true then
          wirelessref08_Check_j1 F a_1 (quop .u64 (remp a_1.Bits 70368744177664) 16777216) 4194303
        else
          wirelessref08_Check_j1 F a_1 (remp a_1.Bits 70368744177664) 70368744177663
def wirelessref40_Check_j1 (_:Nat):Option (Int):=
  some 0
def wirelessref40_Check_j2 (_:Nat) (x_3:Int) (z_5:Bool):Option (Out (Int) (Sum (Unit) (Int))):=
  if z_5=true then
    some (.done (.inr 13))
  else
    some (.next (w64 (x_3+1)))
def wirelessref40_Check_l1 (F:Nat) (b_1:T_Bond) (x_3:Int):Option (Out (Int) (Sum (Unit) (Int))):=
  if (decide (x_3<(len b_1.Subs)))=true then
    (idx b_1.Subs x_3).bind fun x_4=>
    if (((x_4.Handle == 0)||(decide (x_4.Bits<0)))||(decide (x_4.Bits > 3)))=true then
      some (.done (.inr 5))
    else
      if (decide (x_3 > 0))=true then
        (idx b_1.Subs (w64 (x_3 - 1))).bind fun x_9=>
        wirelessref40_Check_j2 F x_3 (decide (x_4.Handle≤x_9.Handle))
      else
        wirelessref40_Check_j2 F x_3 false
  else
    some (.done (.inl ()))
def wirelessref40_Check (F:Nat) (b_1:T_Bond):Option (Int):=
  (wirelessref08_Check F b_1.Peer.Address).bind fun x_2=>
  if (x_2 != 0)=true then
    some x_2
  else
    if ((b_1.Peer.Address.Kind != 1)&&(b_1.Peer.Address.Kind != 2))=true then
      some 12
    else
      if ((decide (b_1.Used<0))||(decide (b_1.Used > 4294967295)))=true then
        some 5
      else
        if (decide ((len b_1.Subs) > 16))=true then
          some 4
        else
          (iter (fun s=>wirelessref40_Check_l1 F b_1 s) F (0)).bind fun o=>
          match o with
          | .inl _=>wirelessref40_Check_j1 F
          | .inr u=>some u
def wirelessref08_Encode_j1 (_:Nat) (l_3:(List Int)):Option ((List Int)×Int):=
  some (l_3,0)
def wirelessref08_Encode (F:Nat) (a_1:T_Address):Option ((List Int)×Int):=
  (wirelessref08_Check F a_1).bind fun x_2=>
  if (x_2 != 0)=true then
    some ([],x_2)
  else
    (wirelessref02_Num F 6 a_1.Bits).bind fun x_486=>
    (app 1 [wu8 a_1.Kind] x_486).bind fun l_566=>
    wirelessref08_Encode_j1 F l_566
def wirelessref40_Encode_j5 (_:Nat) (l_9:(List Int)):Option ((List Int)×Int):=
  some (l_9,0)
def wirelessref40_Encode_l1 (F:Nat) (b_1:T_Bond) (l_10:(List Int)) (x_11:Int):Option (Out ((List Int)×Int) ((List Int))):=
  if (decide (x_11<(len b_1.Subs)))=true then
    (idx b_1.Subs x_11).bind fun x_12=>
    (idx b_1.Subs x_11).bind fun x_13=>
    (wirelessref02_Num F 2 (wu64 x_12.Handle)).bind fun x_656=>
    (app 1 l_10 x_656).bind fun l_736=>
    (app 1 l_736 [wu8 x_13.Bits]).bind fun l_1456=>
    some (.next (l_1456,w64 (x_11+1)))
  else
    some (.done (l_10))
def wirelessref40_Encode_j4 (F:Nat) (b_1:T_Bond) (l_7:(List Int)):Option ((List Int)×Int):=
  (app 1 l_7 [wu8 (len b_1.Subs)]).bind fun l_8=>
  (iter (fun s=>wirelessref40_Encode_l1 F b_1 s.1 s.2) F (l_8,0)).bind fun o=>
  wirelessref40_Encode_j5 F o
def wirelessref40_Encode_j3 (F:Nat) (b_1:T_Bond) (l_4:(List Int)) (x_6:Int):Option ((List Int)×Int):=
  (app 1 l_4 [x_6]).bind fun l_1698=>
  (wirelessref02_Num F 8 b_1.Hash).bind fun x_1699=>
  (app 1 l_1698 x_1699).bind fun l_1700=>
  (wirelessref02_Num F 4 (wu64 b_1.Used)).bind fun x_1701=>
  (app 1 l_1700 x_1701).bind fun l_1702=>
  wirelessref40_Encode_j4 F b_1 l_1702
def wirelessref40_Encode_j2 (F:Nat) (b_1:T_Bond) (l_4:(List Int)) (x_5:Int):Option ((List Int)×Int):=
  if b_1.Aware=true then
    wirelessref40_Encode_j3 F b_1 l_4 (wu8 (x_5+2))
  else
    wirelessref40_Encode_j3 F b_1 l_4 x_5
def wirelessref40_Encode_j1 (F:Nat) (b_1:T_Bond) (l_4:(List Int)):Option ((List Int)×Int):=
  if b_1.Strong=true then
    wirelessref40_Encode_j2 F b_1 l_4 1
  else
    wirelessref40_Encode_j2 F b_1 l_4 0
def wirelessref40_Encode (F:Nat) (b_1:T_Bond):Option ((List Int)×Int):=
  (wirelessref40_Check F b_1).bind fun x_2=>
  if (x_2 != 0)=true then
    some ([],x_2)
  else
    (wirelessref08_Encode F b_1.Peer.Address).bind fun x_3=>
    (wirelessref02_Num F 8 b_1.Peer.IRK).bind fun x_1705=>
    (app 1 x_3.1 x_1705).bind fun l_1706=>
    (wirelessref02_Num F 8 b_1.LTK).bind fun x_1707=>
    (app 1 l_1706 x_1707).bind fun l_1708=>
    (wirelessref02_Num F 8 b_1.Mark).bind fun x_1709=>
    (app 1 l_1708 x_1709).bind fun l_1710=>
    wirelessref40_Encode_j1 F b_1 l_1710
def wirelessref39_Get_j1 (_:Nat):Option ((List Int)×Bool):=
  some ([],false)
def wirelessref39_Get_l1 (_:Nat) (s_1:T_Store) (key_2:Int) (x_3:Int):Option (Out (Int) (Sum (Unit) ((List Int)×Bool))):=
  if (decide (x_3<(len s_1.Items)))=true then
    (idx s_1.Items x_3).bind fun x_4=>
    if (x_4.Key == key_2)=true then
      (idx s_1.Items x_3).bind fun x_5=>
      (app 1 ([]:(List Int)) x_5.Value).bind fun l_6=>
      some (.done (.inr (l_6,true)))
    else
      some (.next (w64 (x_3+1)))
  else
    some (.done (.inl ()))
def wirelessref39_Get (F:Nat) (s_1:T_Store) (key_2:Int):Option ((List Int)×Bool):=
  (iter (fun s=>wirelessref39_Get_l1 F s_1 key_2 s) F (0)).bind fun o=>
  match o with
  | .inl _=>wirelessref39_Get_j1 F
  | .inr u=>some u
def wirelessref39_Plan_j1 (F:Nat) (s_1:T_Store) (l_9:(List Int)):Option ((List T_Write)×Int):=
  if ((decide ((w64 ((len l_9)+10)) > (len s_1.Flash.Banks.1)))||(s_1.Count == 4294967295))=true then
    some ([],8)
  else
    (wirelessref39_Header F (w64 (s_1.Count+1))).bind fun x_10=>
    some ([(T_Write.mk (w64 (1 - s_1.Bank)) true 0 []),(T_Write.mk (w64 (1 - s_1.Bank)) false 10 l_9),(T_Write.mk (w64 (1 - s_1.Bank)) false 0 x_10)],0)
def wirelessref39_Plan_l1 (F:Nat) (x_8:(List T_Item)) (l_11:(List Int)) (x_12:Int):Option (Out ((List Int)×Int) ((List Int))):=
  if (decide (x_12<(len x_8)))=true then
    (idx x_8 x_12).bind fun x_13=>
    (idx x_8 x_12).bind fun x_14=>
    (wirelessref39_Record F x_13.Key x_14.Value).bind fun x_17=>
    (app 1 l_11 x_17).bind fun l_18=>
    some (.next (l_18,w64 (x_12+1)))
  else
    some (.done (l_11))
def wirelessref39_Plan (F:Nat) (s_1:T_Store) (key_2:Int) (value_3:(List Int)):Option ((List T_Write)×Int):=
  if (decide ((len value_3) > 1024))=true then
    some ([],4)
  else
    (wirelessref39_Get F s_1 key_2).bind fun x_4=>
    (if x_4.2=true then
      some (((str x_4.1) == (str value_3)))
    else
      some (false)).bind fun z_6=>
    if (z_6||((!x_4.2)&&((len value_3) == 0)))=true then
      some ([],0)
    else
      (wirelessref39_Record F key_2 value_3).bind fun x_7=>
      if (decide ((len x_7)≤(w64 ((len s_1.Flash.Banks.1) - s_1.End))))=true then
        some ([(T_Write.mk s_1.Bank false s_1.End x_7)],0)
      else
        (wirelessref39_Set F s_1.Items key_2 value_3).bind fun x_8=>
        (iter (fun s=>wirelessref39_Plan_l1 F x_8 s.1 s.2) F (([]:(List Int)),0)).bind fun o=>
        wirelessref39_Plan_j1 F s_1 o
def wirelessref39_Apply_j2 (_:Nat) (x_4:T_Flash) (l_6:(List Int)):Option (T_Flash):=
  some (T_Flash.mk (l_6,x_4.Banks.2))
def wirelessref39_Apply_j3 (_:Nat) (x_8:Int) (l_9:(List Int)):Option (Out ((List Int)×Int) ((List Int))):=
  some (.next (l_9,w64 (x_8+1)))
def wirelessref39_Apply_j4 (F:Nat) (w_2:T_Write) (x_8:Int) (l_10:(List Int)):Option (Out ((List Int)×Int) ((List Int))):=
  if (((decide (w_2.Offset<0))&&(decide ((w64 (w_2.Offset+x_8))≥0)))&&(decide ((w64 (w_2.Offset+x_8))<(len l_10))))=true then
    (idx w_2.Bytes x_8).bind fun x_11=>
    (idx l_10 (w64 (w_2.Offset+x_8))).bind fun _=>
    (idx l_10 (w64 (w_2.Offset+x_8))).bind fun x_15=>
    (idx l_10 (w64 (w_2.Offset+x_8))).bind fun _=>
    (upd l_10 (w64 (w_2.Offset+x_8)) (iand .u8 x_15 x_11)).bind fun l_17=>
    wirelessref39_Apply_j3 F x_8 l_17
  else
    wirelessref39_Apply_j3 F x_8 l_10
def wirelessref39_Apply_l1 (F:Nat) (w_2:T_Write) (n_3:Int) (l_7:(List Int)) (x_8:Int):Option (Out ((List Int)×Int) ((List Int))):=
  if ((decide (x_8<(len w_2.Bytes)))&&((decide (n_3<0))||(decide (x_8<n_3))))=true then
    if ((decide (w_2.Offset≥0))&&(decide (w_2.Offset<(w64 ((len l_7) - x_8)))))=true then
      (idx w_2.Bytes x_8).bind fun x_18=>
      (idx l_7 (w64 (w_2.Offset+x_8))).bind fun _=>
      (idx l_7 (w64 (w_2.Offset+x_8))).bind fun x_22=>
      (idx l_7 (w64 (w_2.Offset+x_8))).bind fun _=>
      (upd l_7 (w64 (w_2.Offset+x_8)) (iand .u8 x_22 x_18)).bind fun l_24=>
      wirelessref39_Apply_j4 F w_2 x_8 l_24
    else
      wirelessref39_Apply_j4 F w_2 x_8 l_7
  else
    some (.done (l_7))
def wirelessref39_Apply_j1 (F:Nat) (w_2:T_Write) (n_3:Int) (x_4:T_Flash):Option (T_Flash):=
  (iter (fun s=>wirelessref39_Apply_l1 F w_2 n_3 s.1 s.2) F (x_4.Banks.1,0)).bind fun o=>
  wirelessref39_Apply_j2 F x_4 o
def wirelessref39_Apply_j5 (_:Nat) (x_4:T_Flash) (l_25:(List Int)):Option (T_Flash):=
  some (T_Flash.mk (l_25,x_4.Banks.2))
def wirelessref39_Apply_l2 (_:Nat) (n_3:Int) (l_26:(List Int)) (x_27:Int):Option (Out ((List Int)×Int) ((List Int))):=
  if ((decide (x_27<(len l_26)))&&((decide (n_3<0))||(decide (x_27<n_3))))=true then
    (idx l_26 x_27).bind fun _=>
    (upd l_26 x_27 255).bind fun l_29=>
    some (.next (l_29,w64 (x_27+1)))
  else
    some (.done (l_26))
def wirelessref39_Apply_j7 (_:Nat) (x_4:T_Flash) (l_31:(List Int)):Option (T_Flash):=
  some (T_Flash.mk (x_4.Banks.1,l_31))
def wirelessref39_Apply_j8 (_:Nat) (x_33:Int) (l_34:(List Int)):Option (Out ((List Int)×Int) ((List Int))):=
  some (.next (l_34,w64 (x_33+1)))
def wirelessref39_Apply_j9 (F:Nat) (w_2:T_Write) (x_33:Int) (l_35:(List Int)):Option (Out ((List Int)×Int) ((List Int))):=
  if (((decide (w_2.Offset<0))&&(decide ((w64 (w_2.Offset+x_33))≥0)))&&(decide ((w64 (w_2.Offset+x_33))<(len l_35))))=true then
    (idx w_2.Bytes x_33).bind fun x_36=>
    (idx l_35 (w64 (w_2.Offset+x_33))).bind fun _=>
    (idx l_35 (w64 (w_2.Offset+x_33))).bind fun x_40=>
    (idx l_35 (w64 (w_2.Offset+x_33))).bind fun _=>
    (upd l_35 (w64 (w_2.Offset+x_33)) (iand .u8 x_40 x_36)).bind fun l_42=>
    wirelessref39_Apply_j8 F x_33 l_42
  else
    wirelessref39_Apply_j8 F x_33 l_35
def wirelessref39_Apply_l3 (F:Nat) (w_2:T_Write) (n_3:Int) (l_32:(List Int)) (x_33:Int):Option (Out ((List Int)×Int) ((List Int))):=
  if ((decide (x_33<(len w_2.Bytes)))&&((decide (n_3<0))||(decide (x_33<n_3))))=true then
    if ((decide (w_2.Offset≥0))&&(decide (w_2.Offset<(w64 ((len l_32) - x_33)))))=true then
      (idx w_2.Bytes x_33).bind fun x_43=>
      (idx l_32 (w64 (w_2.Offset+x_33))).bind fun _=>
      (idx l_32 (w64 (w_2.Offset+x_33))).bind fun x_47=>
      (idx l_32 (w64 (w_2.Offset+x_33))).bind fun _=>
      (upd l_32 (w64 (w_2.Offset+x_33)) (iand .u8 x_47 x_43)).bind fun l_49=>
      wirelessref39_Apply_j9 F w_2 x_33 l_49
    else
      wirelessref39_Apply_j9 F w_2 x_33 l_32
  else
    some (.done (l_32))
def wirelessref39_Apply_j6 (F:Nat) (w_2:T_Write) (n_3:Int) (x_4:T_Flash):Option (T_Flash):=
  (iter (fun s=>wirelessref39_Apply_l3 F w_2 n_3 s.1 s.2) F (x_4.Banks.2,0)).bind fun o=>
  wirelessref39_Apply_j7 F x_4 o
def wirelessref39_Apply_j10 (_:Nat) (x_4:T_Flash) (l_50:(List Int)):Option (T_Flash):=
  some (T_Flash.mk (x_4.Banks.1,l_50))
def wirelessref39_Apply_l4 (_:Nat) (n_3:Int) (l_51:(List Int)) (x_52:Int):Option (Out ((List Int)×Int) ((List Int))):=
  if ((decide (x_52<(len l_51)))&&((decide (n_3<0))||(decide (x_52<n_3))))=true then
    (idx l_51 x_52).bind fun _=>
    (upd l_51 x_52 255).bind fun l_54=>
    some (.next (l_54,w64 (x_52+1)))
  else
    some (.done (l_51))
def wirelessref39_Apply (F:Nat) (f_1:T_Flash) (w_2:T_Write) (n_3:Int):Option (T_Flash):=
  (wirelessref39_Copy F f_1).bind fun x_4=>
  if ((decide (w_2.Bank<0))||(decide (w_2.Bank > 1)))=true then
    some x_4
  else
    if (w_2.Bank == 0)=true then
      if w_2.Erase=true then
        (iter (fun s=>wirelessref39_Apply_l2 F n_3 s.1 s.2) F (x_4.Banks.1,0)).bind fun o=>
        wirelessref39_Apply_j5 F x_4 o
      else
        wirelessref39_Apply_j1 F w_2 n_3 x_4
    else
      if (w_2.Bank == 1)=true then
        if w_2.Erase=true then
          (iter (fun s=>wirelessref39_Apply_l4 F n_3 s.1 s.2) F (x_4.Banks.2,0)).bind fun o=>
          wirelessref39_Apply_j10 F x_4 o
        else
          wirelessref39_Apply_j6 F w_2 n_3 x_4
      else
        none
def wirelessref39_Done_j1 (_:Nat) (c_5:T_Flash):Option (T_Flash):=
  some c_5
def wirelessref39_Done_l1 (F:Nat) (l_2:(List T_Write)) (c_8:T_Flash) (x_9:Int):Option (Out (T_Flash×Int) (T_Flash)):=
  if (decide (x_9<(len l_2)))=true then
    (idx l_2 x_9).bind fun x_10=>
    (wirelessref39_Apply F c_8 x_10 (-1)).bind fun x_13=>
    some (.next (x_13,w64 (x_9+1)))
  else
    some (.done (c_8))
def wirelessref39_Done (F:Nat) (f_1:T_Flash) (l_2:(List T_Write)):Option (T_Flash):=
  (iter (fun s=>wirelessref39_Done_l1 F l_2 s.1 s.2) F (f_1,0)).bind fun o=>
  wirelessref39_Done_j1 F o
def wirelessref39_Put (F:Nat) (s_1:T_Store) (key_2:Int) (value_3:(List Int)):Option (T_Store×Int):=
  (wirelessref39_Plan F s_1 key_2 value_3).bind fun x_4=>
  if (x_4.2 != 0)=true then
    some (s_1,x_4.2)
  else
    (wirelessref39_Done F s_1.Flash x_4.1).bind fun x_5=>
    (wirelessref39_Mount F x_5).bind fun x_6=>
    some (x_6.1,0)
def wirelessref40_Plan_j2 (_:Nat) (l_4:(List T_Write)):Option ((List T_Write)×Int):=
  some (l_4,0)
def wirelessref40_Plan_j3 (F:Nat) (l_3:(List (List Int))) (c_11:T_Store) (l_12:(List T_Write)) (x_13:Int) (l_14:(List T_Write)) (x_15:Int):Option (Out (T_Store×(List T_Write)×Int) (Sum ((List T_Write)) ((List T_Write)×Int))):=
  if (x_15 != 0)=true then
    some (.done (.inr ([],x_15)))
  else
    (app 48 l_12 l_14).bind fun l_16=>
    (idxn 16 l_3 x_13).bind fun _=>
    (idx l_3 x_13).bind fun x_419=>
    (wirelessref39_Put F c_11 (wu16 x_13) x_419).bind fun x_499=>
    some (.next (x_499.1,l_16,w64 (x_13+1)))
def wirelessref40_Plan_l1 (F:Nat) (l_3:(List (List Int))) (c_11:T_Store) (l_12:(List T_Write)) (x_13:Int):Option (Out (T_Store×(List T_Write)×Int) (Sum ((List T_Write)) ((List T_Write)×Int))):=
  if (decide (x_13<16))=true then
    (idxn 16 l_3 x_13).bind fun _=>
    (idx l_3 x_13).bind fun x_982=>
    (wirelessref39_Plan F c_11 (wu16 x_13) x_982).bind fun x_983=>
    wirelessref40_Plan_j3 F l_3 c_11 l_12 x_13 x_983.1 x_983.2
  else
    some (.done (.inl (l_12)))
def wirelessref40_Plan_j1 (F:Nat) (s_1:T_Store) (l_3:(List (List Int))):Option ((List T_Write)×Int):=
  (iter (fun s=>wirelessref40_Plan_l1 F l_3 s.1 s.2.1 s.2.2) F (s_1,([]:(List T_Write)),0)).bind fun o=>
  match o with
  | .inl u=>wirelessref40_Plan_j2 F u
  | .inr u=>some u
def wirelessref40_Plan_l2 (F:Nat) (l_2:(List T_Bond)) (l_984:(List (List Int))) (x_985:Int):Option (Out ((List (List Int))×Int) (Sum ((List (List Int))) ((List T_Write)×Int))):=
  if (decide (x_985<(len l_2)))=true then
    (idx l_2 x_985).bind fun x_986=>
    (wirelessref40_Encode F x_986).bind fun x_987=>
    if (x_987.2 != 0)=true then
      some (.done (.inr ([],x_987.2)))
    else
      (idxn 16 l_984 x_985).bind fun _=>
      (upd l_984 x_985 x_987.1).bind fun l_989=>
      some (.next (l_989,w64 (x_985+1)))
  else
    some (.done (.inl (l_984)))
def wirelessref40_Plan (F:Nat) (s_1:T_Store) (l_2:(List T_Bond)):Option ((List T_Write)×Int):=
  if (decide ((len l_2) > 16))=true then
    some ([],4)
  else
    (iter (fun s=>wirelessref40_Plan_l2 F l_2 s.1 s.2) F ((List.replicate 16 []:List (List Int)),0)).bind fun o=>
    match o with
    | .inl u=>wirelessref40_Plan_j1 F s_1 u
    | .inr u=>some u
def wirelessref39_SameWrites_j1 (_:Nat):Option (Bool):=
  some true
def wirelessref39_SameWrites_j2 (_:Nat) (x_3:Int) (z_4:Bool):Option (Out (Int) (Sum (Unit) (Bool))):=
  if z_4=true then
    some (.done (.inr false))
  else
    some (.next (w64 (x_3+1)))
def wirelessref39_SameWrites_l1 (F:Nat) (a_1:(List T_Write)) (b_2:(List T_Write)) (x_3:Int):Option (Out (Int) (Sum (Unit) (Bool))):=
  if (decide (x_3<(len a_1)))=true then
    (idx a_1 x_3).bind fun x_5=>
    (idx b_2 x_3).bind fun x_6=>
    if (x_5.Bank != x_6.Bank)=true then
      wirelessref39_SameWrites_j2 F x_3 true
    else
      if (x_5.Erase != x_6.Erase)=true then
        wirelessref39_SameWrites_j2 F x_3 true
      else
        if (x_5.Offset != x_6.Offset)=true then
          wirelessref39_SameWrites_j2 F x_3 true
        else
          wirelessref39_SameWrites_j2 F x_3 ((str x_5.Bytes) != (str x_6.Bytes))
  else
    some (.done (.inl ()))
def wirelessref39_SameWrites (F:Nat) (a_1:(List T_Write)) (b_2:(List T_Write)):Option (Bool):=
  if ((len a_1) != (len b_2))=true then
    some false
  else
    (iter (fun s=>wirelessref39_SameWrites_l1 F a_1 b_2 s) F (0)).bind fun o=>
    match o with
    | .inl _=>wirelessref39_SameWrites_j1 F
    | .inr u=>some u
def wirelessref08_Decode_j2 (_:Nat) (c_4:T_Address) (l_6:(List Int)):Option (T_Address×(List Int)×Int):=
  some (c_4,l_6,0)
def wirelessref08_Decode_j1 (F:Nat) (b_1:(List Int)) (c_4:T_Address):Option (T_Address×(List Int)×Int):=
  (wirelessref08_Check F c_4).bind fun x_5=>
  if (x_5 != 0)=true then
    some ((T_Address.mk 0 0),[],x_5)
  else
    (sub b_1 7 (len b_1)).bind fun l_9=>
    (app 1 ([]:(List Int)) l_9).bind fun l_10=>
    wirelessref08_Decode_j2 F c_4 l_10
def wirelessref08_Decode (F:Nat) (b_1:(List Int)):Option (T_Address×(List Int)×Int):=
  if (decide ((len b_1)<7))=true then
    some ((T_Address.mk 0 0),[],3)
  else
    (idx b_1 0).bind fun x_11=>
    (sub b_1 1 7).bind fun l_14=>
    (wirelessref02_Value F l_14).bind fun x_495=>
    wirelessref08_Decode_j1 F b_1 (T_Address.mk (w64 x_11) x_495)
def wirelessref40_Decode_j2 (F:Nat) (x_8:T_Address×(List Int)×Int) (x_9:Int) (x_10:Int) (x_11:Int) (z_12:Bool) (x_13:Int) (z_14:Bool) (x_15:Int) (l_16:(List T_Subscription)):Option (T_Bond×Int):=
  (wirelessref40_Check F (T_Bond.mk (T_Identity.mk x_8.1 x_9) x_10 x_11 z_12 x_13 z_14 l_16 x_15)).bind fun x_17=>
  if (x_17 != 0)=true then
    some ((T_Bond.mk (T_Identity.mk (T_Address.mk 0 0) 0) 0 0 false 0 false [] 0),x_17)
  else
    some ((T_Bond.mk (T_Identity.mk x_8.1 x_9) x_10 x_11 z_12 x_13 z_14 l_16 x_15),0)
def wirelessref40_Decode_l1 (F:Nat) (b_1:(List Int)) (l_18:(List T_Subscription)) (x_19:Int):Option (Out ((List T_Subscription)×Int) ((List T_Subscription))):=
  if (decide (x_19<(len b_1)))=true then
    (idx b_1 (w64 (x_19+2))).bind fun x_20=>
    (sub b_1 x_19 (w64 (x_19+2))).bind fun l_23=>
    (wirelessref02_Value F l_23).bind fun x_584=>
    (app 16 l_18 [(T_Subscription.mk (wu16 x_584) (w64 x_20))]).bind fun l_1384=>
    some (.next (l_1384,w64 (x_19+3)))
  else
    some (.done (l_18))
def wirelessref40_Decode_j1 (F:Nat) (b_1:(List Int)) (x_8:T_Address×(List Int)×Int) (x_9:Int) (x_10:Int) (x_11:Int) (z_12:Bool) (x_13:Int) (z_14:Bool) (x_15:Int):Option (T_Bond×Int):=
  (iter (fun s=>wirelessref40_Decode_l1 F b_1 s.1 s.2) F ([],45)).bind fun o=>
  wirelessref40_Decode_j2 F x_8 x_9 x_10 x_11 z_12 x_13 z_14 x_15 o
def wirelessref40_Decode (F:Nat) (b_1:(List Int)):Option (T_Bond×Int):=
  (if (decide ((len b_1)<45))=true then
    some (true)
  else
    (idx b_1 44).bind fun x_4196=>
    some (decide ((len b_1)<(w64 (45+(w64 (3 * (w64 x_4196)))))))).bind fun z_3=>
  if z_3=true then
    some ((T_Bond.mk (T_Identity.mk (T_Address.mk 0 0) 0) 0 0 false 0 false [] 0),3)
  else
    (idx b_1 44).bind fun x_4=>
    (if (decide ((len b_1) > (w64 (45+(w64 (3 * (w64 x_4)))))))=true then
      some (true)
    else
      (idx b_1 31).bind fun x_4194=>
      some (decide (x_4194 > 3))).bind fun z_6=>
    if z_6=true then
      some ((T_Bond.mk (T_Identity.mk (T_Address.mk 0 0) 0) 0 0 false 0 false [] 0),2)
    else
      (sub b_1 0 7).bind fun l_7=>
      (wirelessref08_Decode F l_7).bind fun x_8=>
      if (x_8.2.2 != 0)=true then
        some ((T_Bond.mk (T_Identity.mk (T_Address.mk 0 0) 0) 0 0 false 0 false [] 0),x_8.2.2)
      else
        (idx b_1 31).bind fun x_1704=>
        (idx b_1 31).bind fun x_1705=>
        (sub b_1 7 15).bind fun l_1708=>
        (sub b_1 15 23).bind fun l_1709=>
        (sub b_1 23 31).bind fun l_1710=>
        (sub b_1 32 40).bind fun l_1711=>
        (sub b_1 40 44).bind fun l_1712=>
        (wirelessref02_Value F l_1708).bind fun x_1953=>
        (wirelessref02_Value F l_1709).bind fun x_2273=>
        (wirelessref02_Value F l_1710).bind fun x_2513=>
        (wirelessref02_Value F l_1711).bind fun x_3473=>
        (wirelessref02_Value F l_1712).bind fun x_3713=>
        wirelessref40_Decode_j1 F b_1 x_8 x_1953 x_2273 x_2513 ((remp x_1704 2) == 1) x_3473 (decide (x_1705≥2)) (w64 x_3713)
def wirelessref40_Load_j1 (_:Nat) (l_2:(List T_Bond)):Option ((List T_Bond)):=
  some l_2
def wirelessref40_Load_j2 (_:Nat) (x_4:Int) (l_5:(List T_Bond)):Option (Out ((List T_Bond)×Int) ((List T_Bond))):=
  some (.next (l_5,w64 (x_4+1)))
def wirelessref40_Load_j3 (F:Nat) (l_3:(List T_Bond)) (x_4:Int) (x_7:T_Bond×Int) (z_8:Bool):Option (Out ((List T_Bond)×Int) ((List T_Bond))):=
  if ((x_7.2 == 0)&&(!z_8))=true then
    (app 96 l_3 [x_7.1]).bind fun l_9=>
    wirelessref40_Load_j2 F x_4 l_9
  else
    wirelessref40_Load_j2 F x_4 l_3
def wirelessref40_Load_j4 (_:Nat) (x_11:Int) (z_12:Bool):Option (Out (Bool×Int) (Bool)):=
  some (.next (z_12,w64 (x_11+1)))
def wirelessref40_Load_l2 (F:Nat) (l_3:(List T_Bond)) (x_7:T_Bond×Int) (z_10:Bool) (x_11:Int):Option (Out (Bool×Int) (Bool)):=
  if (decide (x_11<(len l_3)))=true then
    if z_10=true then
      wirelessref40_Load_j4 F x_11 true
    else
      (idx l_3 x_11).bind fun x_16=>
      wirelessref40_Load_j4 F x_11 ((x_16.Peer.Address.Kind == x_7.1.Peer.Address.Kind)&&(x_16.Peer.Address.Bits == x_7.1.Peer.Address.Bits))
  else
    some (.done (z_10))
def wirelessref40_Load_l1 (F:Nat) (s_1:T_Store) (l_3:(List T_Bond)) (x_4:Int):Option (Out ((List T_Bond)×Int) ((List T_Bond))):=
  if (decide (x_4<16))=true then
    (wirelessref39_Get F s_1 (wu16 x_4)).bind fun x_6=>
    if (!x_6.2)=true then
      wirelessref40_Load_j2 F x_4 l_3
    else
      (wirelessref40_Decode F x_6.1).bind fun x_7=>
      (iter (fun s=>wirelessref40_Load_l2 F l_3 x_7 s.1 s.2) F (false,0)).bind fun o=>
      wirelessref40_Load_j3 F l_3 x_4 x_7 o
  else
    some (.done (l_3))
def wirelessref40_Load (F:Nat) (s_1:T_Store):Option ((List T_Bond)):=
  (iter (fun s=>wirelessref40_Load_l1 F s_1 s.1 s.2) F (([]:(List T_Bond)),0)).bind fun o=>
  wirelessref40_Load_j1 F o
end V
end Go.Proofs.YtbdhonofhlpdoaaDoor
