/-
  Pure twins of more Go functions, written by program; the plain law names them.
-/
import Derived.Test.YtojcklkcjnnkaaaDoorFn
namespace Go.Proofs.YtojcklkcjnnkaaaDoor
namespace V
def wirelessref02_Value_j1 (F : Nat) (x_2 : Int) : Option (Int) :=
  some x_2

def wirelessref02_Value_l1 (F : Nat) (b_1 : (List Int)) (x_3 : Int) (x_4 : Int) : Option (Out (Int × Int) (Int)) :=
  if (decide (x_4 ≥ 0)) = true then
    (idx b_1 x_4).bind fun x_5 =>
    some (.next (wu64 ((wu64 (x_3 * 256)) + (wu64 x_5)), w64 (x_4 - 1)))
  else
    some (.done (x_3))

def wirelessref02_Value (F : Nat) (b_1 : (List Int)) : Option (Int) :=
  (iter (fun s => wirelessref02_Value_l1 F b_1 s.1 s.2) F (0, w64 ((len b_1) - 1))).bind fun o =>
  wirelessref02_Value_j1 F o

def wirelessref02_Num_j1 (F : Nat) (l_3 : (List Int)) : Option ((List Int)) :=
  some l_3

def wirelessref02_Num_l1 (F : Nat) (size_1 : Int) (x_4 : Int) (l_5 : (List Int)) (x_6 : Int) : Option (Out (Int × (List Int) × Int) ((List Int))) :=
  if (decide (x_6 < size_1)) = true then
    (app 1 l_5 [wu8 (remp x_4 256)]).bind fun l_7 =>
    some (.next ((quop .u64 x_4 256), l_7, w64 (x_6 + 1)))
  else
    some (.done (l_5))

def wirelessref02_Num (F : Nat) (size_1 : Int) (v_2 : Int) : Option ((List Int)) :=
  (iter (fun s => wirelessref02_Num_l1 F size_1 s.1 s.2.1 s.2.2) F (v_2, ([] : (List Int)), 0)).bind fun o =>
  wirelessref02_Num_j1 F o

def wirelessref03_feed_j1 (F : Nat) (x_3 : Int) : Option (Int) :=
  some x_3

def wirelessref03_feed (F : Nat) (register_1 : Int) (bit_2 : Int) : Option (Int) :=
  if ((ixor .u32 (remp register_1 2) bit_2) == 1) = true then
    wirelessref03_feed_j1 F (ixor .u32 (quop .u32 register_1 2) 14311424)
  else
    wirelessref03_feed_j1 F (quop .u32 register_1 2)

def wirelessref03_Sum_j1 (F : Nat) (x_3 : Int) : Option (Int) :=
  some x_3

def wirelessref03_Sum_j2 (F : Nat) (x_5 : Int) (x_6 : Int) : Option (Out (Int × Int) (Int)) :=
  some (.next (x_6, w64 (x_5 + 1)))

def wirelessref03_Sum_l2 (F : Nat) (x_8 : Int) (x_9 : Int) (x_10 : Int) : Option (Out (Int × Int × Int) (Int)) :=
  if (decide (x_10 < 8)) = true then
    (wirelessref03_feed F x_8 (remp x_9 2)).bind fun x_11 =>
    some (.next (x_11, (quop .u32 x_9 2), w64 (x_10 + 1)))
  else
    some (.done (x_8))

def wirelessref03_Sum_l1 (F : Nat) (b_2 : (List Int)) (x_4 : Int) (x_5 : Int) : Option (Out (Int × Int) (Int)) :=
  if (decide (x_5 < (len b_2))) = true then
    (idx b_2 x_5).bind fun x_7 =>
    (iter (fun s => wirelessref03_Sum_l2 F s.1 s.2.1 s.2.2) F (x_4, wu32 x_7, 0)).bind fun o =>
    wirelessref03_Sum_j2 F x_5 o
  else
    some (.done (x_4))

def wirelessref03_Sum (F : Nat) (init_1 : Int) (b_2 : (List Int)) : Option (Int) :=
  (iter (fun s => wirelessref03_Sum_l1 F b_2 s.1 s.2) F ((remp init_1 16777216), 0)).bind fun o =>
  wirelessref03_Sum_j1 F o

def wirelessref39_Header (F : Nat) (count_1 : Int) : Option ((List Int)) :=
  (wirelessref02_Num F 4 (wu64 count_1)).bind fun x_2 =>
  (app 1 [66, 75] x_2).bind fun l_3 =>
  (wirelessref03_Sum F 0 l_3).bind fun x_4 =>
  (wirelessref02_Num F 3 (wu64 x_4)).bind fun x_5 =>
  (app 1 l_3 x_5).bind fun l_6 =>
  (app 1 l_6 [0]).bind fun l_7 =>
  some l_7

def wirelessref39_count_j1 (F : Nat) (x_3 : Int) (z_4 : Bool) : Option (Int) :=
  if z_4 = true then
    some (-1)
  else
    some (w64 x_3)

def wirelessref39_count (F : Nat) (b_1 : (List Int)) : Option (Int) :=
  if (decide ((len b_1) < 10)) = true then
    some (-1)
  else
    (sub b_1 2 6).bind fun l_2 =>
    (wirelessref02_Value F l_2).bind fun x_3 =>
    (sub b_1 0 10).bind fun l_7 =>
    (wirelessref39_Header F (w64 x_3)).bind fun x_328 =>
    wirelessref39_count_j1 F x_3 ((str l_7) != (str x_328))

def wirelessref39_Record (F : Nat) (key_1 : Int) (value_2 : (List Int)) : Option ((List Int)) :=
  (wirelessref02_Num F 2 (wu64 (len value_2))).bind fun x_3 =>
  (wirelessref02_Num F 2 (wu64 key_1)).bind fun x_4 =>
  (app 1 x_3 x_4).bind fun l_5 =>
  (app 1 l_5 value_2).bind fun l_6 =>
  (wirelessref03_Sum F 0 l_6).bind fun x_7 =>
  (wirelessref02_Num F 3 (wu64 x_7)).bind fun x_8 =>
  (app 1 l_6 x_8).bind fun l_9 =>
  (app 1 l_9 [0]).bind fun l_10 =>
  some l_10

def wirelessref39_records_j1 (F : Nat) (l_2 : (List T_api_Item)) (x_3 : Int) : Option ((List T_api_Item) × Int) :=
  some (l_2, x_3)

def wirelessref39_records_j2 (F : Nat) (l_4 : (List T_api_Item)) (x_5 : Int) (x_7 : Int) (x_9 : Int) (l_11 : (List Int)) (z_12 : Bool) : Option (Out ((List T_api_Item) × Int) (Sum ((List T_api_Item) × Int) ((List T_api_Item) × Int))) :=
  if z_12 = true then
    some (.done (.inr (l_4, x_5)))
  else
    (wirelessref39_Set F l_4 (wu16 x_9) l_11).bind fun x_13 =>
    some (.next (x_13, w64 ((w64 (x_5 + (w64 x_7))) + 8)))

def wirelessref39_records_l1 (F : Nat) (b_1 : (List Int)) (l_4 : (List T_api_Item)) (x_5 : Int) : Option (Out ((List T_api_Item) × Int) (Sum ((List T_api_Item) × Int) ((List T_api_Item) × Int))) :=
  if (decide ((w64 ((len b_1) - x_5)) ≥ 8)) = true then
    (sub b_1 x_5 (w64 (x_5 + 2))).bind fun l_6 =>
    (wirelessref02_Value F l_6).bind fun x_7 =>
    if ((decide ((w64 x_7) > 1024)) || (decide ((w64 ((w64 x_7) + 8)) > (w64 ((len b_1) - x_5))))) = true then
      some (.done (.inr (l_4, x_5)))
    else
      (sub b_1 (w64 (x_5 + 2)) (w64 (x_5 + 4))).bind fun l_8 =>
      (wirelessref02_Value F l_8).bind fun x_9 =>
      (sub b_1 (w64 (x_5 + 4)) (w64 ((w64 (x_5 + 4)) + (w64 x_7)))).bind fun l_10 =>
      (app 1 ([] : (List Int)) l_10).bind fun l_11 =>
      (sub b_1 x_5 (w64 ((w64 (x_5 + (w64 x_7))) + 8))).bind fun l_16 =>
      (wirelessref39_Record F (wu16 x_9) l_11).bind fun x_817 =>
      wirelessref39_records_j2 F l_4 x_5 x_7 x_9 l_11 ((str l_16) != (str x_817))
  else
    some (.done (.inl (l_4, x_5)))

def wirelessref39_records (F : Nat) (b_1 : (List Int)) : Option ((List T_api_Item) × Int) :=
  (iter (fun s => wirelessref39_records_l1 F b_1 s.1 s.2) F (([] : (List T_api_Item)), 10)).bind fun o =>
  match o with
  | .inl u => wirelessref39_records_j1 F u.1 u.2
  | .inr u => some u

def wirelessref39_erased_j1 (F : Nat) (l_3 : (List Int)) : Option ((List Int)) :=
  some l_3

def wirelessref39_erased_l1 (F : Nat) (n_1 : Int) (l_4 : (List Int)) (x_5 : Int) : Option (Out ((List Int) × Int) ((List Int))) :=
  if (decide (x_5 < n_1)) = true then
    (idx l_4 x_5).bind fun x_6 =>
    (upd l_4 x_5 255).bind fun l_7 =>
    some (.next (l_7, w64 (x_5 + 1)))
  else
    some (.done (l_4))

def wirelessref39_erased (F : Nat) (n_1 : Int) : Option ((List Int)) :=
  (mk 1 0 n_1).bind fun l_2 =>
  (iter (fun s => wirelessref39_erased_l1 F n_1 s.1 s.2) F (l_2, 0)).bind fun o =>
  wirelessref39_erased_j1 F o

def wirelessref39_Mount_j3 (F : Nat) (x_2 : T_api_Flash) (x_5 : Int) (x_6 : Int) (x_8 : (List T_api_Item) × Int) (x_9 : Int) : Option (T_api_Store × Int) :=
  some ((T_api_Store.mk x_2 x_5 x_6 x_9 x_8.1), 0)

def wirelessref39_Mount_j4 (F : Nat) (f_1 : T_api_Flash) (x_2 : T_api_Flash) (x_5 : Int) (x_6 : Int) (x_8 : (List T_api_Item) × Int) (z_10 : Bool) : Option (T_api_Store × Int) :=
  if z_10 = true then
    wirelessref39_Mount_j3 F x_2 x_5 x_6 x_8 x_8.2
  else
    wirelessref39_Mount_j3 F x_2 x_5 x_6 x_8 (len f_1.Banks.1)

def wirelessref39_Mount_j5 (F : Nat) (x_2 : T_api_Flash) (x_5 : Int) (x_6 : Int) (x_895 : (List T_api_Item) × Int) (x_896 : Int) : Option (T_api_Store × Int) :=
  some ((T_api_Store.mk x_2 x_5 x_6 x_896 x_895.1), 0)

def wirelessref39_Mount_j6 (F : Nat) (f_1 : T_api_Flash) (x_2 : T_api_Flash) (x_5 : Int) (x_6 : Int) (x_895 : (List T_api_Item) × Int) (z_897 : Bool) : Option (T_api_Store × Int) :=
  if z_897 = true then
    wirelessref39_Mount_j5 F x_2 x_5 x_6 x_895 x_895.2
  else
    wirelessref39_Mount_j5 F x_2 x_5 x_6 x_895 (len f_1.Banks.1)

def wirelessref39_Mount_j2 (F : Nat) (f_1 : T_api_Flash) (x_2 : T_api_Flash) (x_5 : Int) (x_6 : Int) : Option (T_api_Store × Int) :=
  if (x_5 == 0) = true then
    (wirelessref39_records F f_1.Banks.1).bind fun x_8 =>
    (sub f_1.Banks.1 x_8.2 (len f_1.Banks.1)).bind fun l_13 =>
    (wirelessref39_erased F (w64 ((len f_1.Banks.1) - x_8.2))).bind fun x_574 =>
    wirelessref39_Mount_j4 F f_1 x_2 x_5 x_6 x_8 ((str l_13) == (str x_574))
  else
    if (x_5 == 1) = true then
      (wirelessref39_records F f_1.Banks.2).bind fun x_895 =>
      (sub f_1.Banks.2 x_895.2 (len f_1.Banks.2)).bind fun l_900 =>
      (wirelessref39_erased F (w64 ((len f_1.Banks.1) - x_895.2))).bind fun x_1461 =>
      wirelessref39_Mount_j6 F f_1 x_2 x_5 x_6 x_895 ((str l_900) == (str x_1461))
    else
      none

def wirelessref39_Mount_j1 (F : Nat) (f_1 : T_api_Flash) (x_2 : T_api_Flash) (x_3 : Int) (x_4 : Int) : Option (T_api_Store × Int) :=
  if ((decide (x_3 < 0)) && (decide (x_4 < 0))) = true then
    some ((T_api_Store.mk x_2 0 0 (len f_1.Banks.1) []), 0)
  else
    if (decide (x_4 > x_3)) = true then
      wirelessref39_Mount_j2 F f_1 x_2 1 x_4
    else
      wirelessref39_Mount_j2 F f_1 x_2 0 x_3

def wirelessref39_Mount (F : Nat) (f_1 : T_api_Flash) : Option (T_api_Store × Int) :=
  if ((((len f_1.Banks.1) != (len f_1.Banks.2)) || (decide ((len f_1.Banks.1) < 64))) || (decide ((len f_1.Banks.1) > 65536))) = true then
    some ((T_api_Store.mk (T_api_Flash.mk ([], [])) 0 0 0 []), 5)
  else
    (wirelessref39_Copy F f_1).bind fun x_2 =>
    (wirelessref39_count F f_1.Banks.1).bind fun x_2023 =>
    (wirelessref39_count F f_1.Banks.2).bind fun x_2343 =>
    wirelessref39_Mount_j1 F f_1 x_2 x_2023 x_2343

def wirelessref39_Get_j1 (F : Nat) : Option ((List Int) × Bool) :=
  some ([], false)

def wirelessref39_Get_l1 (F : Nat) (s_1 : T_api_Store) (key_2 : Int) (x_3 : Int) : Option (Out (Int) (Sum (Unit) ((List Int) × Bool))) :=
  if (decide (x_3 < (len s_1.Items))) = true then
    (idx s_1.Items x_3).bind fun x_4 =>
    if (x_4.Key == key_2) = true then
      (idx s_1.Items x_3).bind fun x_5 =>
      (app 1 ([] : (List Int)) x_5.Value).bind fun l_6 =>
      some (.done (.inr (l_6, true)))
    else
      some (.next (w64 (x_3 + 1)))
  else
    some (.done (.inl ()))

def wirelessref39_Get (F : Nat) (s_1 : T_api_Store) (key_2 : Int) : Option ((List Int) × Bool) :=
  (iter (fun s => wirelessref39_Get_l1 F s_1 key_2 s) F (0)).bind fun o =>
  match o with
  | .inl u => wirelessref39_Get_j1 F
  | .inr u => some u

def wirelessref39_Plan_j1 (F : Nat) (s_1 : T_api_Store) (l_9 : (List Int)) : Option ((List T_api_Write) × Int) :=
  if ((decide ((w64 ((len l_9) + 10)) > (len s_1.Flash.Banks.1))) || (s_1.Count == 4294967295)) = true then
    some ([], 8)
  else
    (wirelessref39_Header F (w64 (s_1.Count + 1))).bind fun x_10 =>
    some ([(T_api_Write.mk (w64 (1 - s_1.Bank)) true 0 []), (T_api_Write.mk (w64 (1 - s_1.Bank)) false 10 l_9), (T_api_Write.mk (w64 (1 - s_1.Bank)) false 0 x_10)], 0)

def wirelessref39_Plan_l1 (F : Nat) (x_8 : (List T_api_Item)) (l_11 : (List Int)) (x_12 : Int) : Option (Out ((List Int) × Int) ((List Int))) :=
  if (decide (x_12 < (len x_8))) = true then
    (idx x_8 x_12).bind fun x_13 =>
    (idx x_8 x_12).bind fun x_14 =>
    (wirelessref39_Record F x_13.Key x_14.Value).bind fun x_17 =>
    (app 1 l_11 x_17).bind fun l_18 =>
    some (.next (l_18, w64 (x_12 + 1)))
  else
    some (.done (l_11))

def wirelessref39_Plan (F : Nat) (s_1 : T_api_Store) (key_2 : Int) (value_3 : (List Int)) : Option ((List T_api_Write) × Int) :=
  if (decide ((len value_3) > 1024)) = true then
    some ([], 4)
  else
    (wirelessref39_Get F s_1 key_2).bind fun x_4 =>
    (if x_4.2 = true then
      some (((str x_4.1) == (str value_3)))
    else
      some (false)).bind fun z_6 =>
    if (z_6 || ((!x_4.2) && ((len value_3) == 0))) = true then
      some ([], 0)
    else
      (wirelessref39_Record F key_2 value_3).bind fun x_7 =>
      if (decide ((len x_7) ≤ (w64 ((len s_1.Flash.Banks.1) - s_1.End)))) = true then
        some ([(T_api_Write.mk s_1.Bank false s_1.End x_7)], 0)
      else
        (wirelessref39_Set F s_1.Items key_2 value_3).bind fun x_8 =>
        (iter (fun s => wirelessref39_Plan_l1 F x_8 s.1 s.2) F (([] : (List Int)), 0)).bind fun o =>
        wirelessref39_Plan_j1 F s_1 o

def wirelessref39_SameWrites_j1 (F : Nat) : Option (Bool) :=
  some true

def wirelessref39_SameWrites_j2 (F : Nat) (x_3 : Int) (z_4 : Bool) : Option (Out (Int) (Sum (Unit) (Bool))) :=
  if z_4 = true then
    some (.done (.inr false))
  else
    some (.next (w64 (x_3 + 1)))

def wirelessref39_SameWrites_l1 (F : Nat) (a_1 : (List T_api_Write)) (b_2 : (List T_api_Write)) (x_3 : Int) : Option (Out (Int) (Sum (Unit) (Bool))) :=
  if (decide (x_3 < (len a_1))) = true then
    (idx a_1 x_3).bind fun x_5 =>
    (idx b_2 x_3).bind fun x_6 =>
    if (x_5.Bank != x_6.Bank) = true then
      wirelessref39_SameWrites_j2 F x_3 true
    else
      (idx a_1 x_3).bind fun x_1130 =>
      (idx b_2 x_3).bind fun x_1530 =>
      if (x_1130.Erase != x_1530.Erase) = true then
        wirelessref39_SameWrites_j2 F x_3 true
      else
        (idx a_1 x_3).bind fun x_6411 =>
        (idx b_2 x_3).bind fun x_6811 =>
        if (x_6411.Offset != x_6811.Offset) = true then
          wirelessref39_SameWrites_j2 F x_3 true
        else
          (idx a_1 x_3).bind fun x_11692 =>
          (idx b_2 x_3).bind fun x_12172 =>
          wirelessref39_SameWrites_j2 F x_3 ((str x_11692.Bytes) != (str x_12172.Bytes))
  else
    some (.done (.inl ()))

def wirelessref39_SameWrites (F : Nat) (a_1 : (List T_api_Write)) (b_2 : (List T_api_Write)) : Option (Bool) :=
  if ((len a_1) != (len b_2)) = true then
    some false
  else
    (iter (fun s => wirelessref39_SameWrites_l1 F a_1 b_2 s) F (0)).bind fun o =>
    match o with
    | .inl u => wirelessref39_SameWrites_j1 F
    | .inr u => some u

def wirelessref39_Apply_j2 (F : Nat) (x_4 : T_api_Flash) (l_6 : (List Int)) : Option (T_api_Flash) :=
  some (T_api_Flash.mk (l_6, x_4.Banks.2))

def wirelessref39_Apply_j3 (F : Nat) (x_8 : Int) (l_9 : (List Int)) : Option (Out ((List Int) × Int) ((List Int))) :=
  some (.next (l_9, w64 (x_8 + 1)))

def wirelessref39_Apply_j4 (F : Nat) (w_2 : T_api_Write) (x_8 : Int) (l_10 : (List Int)) : Option (Out ((List Int) × Int) ((List Int))) :=
  if (((decide (w_2.Offset < 0)) && (decide ((w64 (w_2.Offset + x_8)) ≥ 0))) && (decide ((w64 (w_2.Offset + x_8)) < (len l_10)))) = true then
    (idx w_2.Bytes x_8).bind fun x_11 =>
    (idx l_10 (w64 (w_2.Offset + x_8))).bind fun x_14 =>
    (idx l_10 (w64 (w_2.Offset + x_8))).bind fun x_15 =>
    (idx l_10 (w64 (w_2.Offset + x_8))).bind fun x_16 =>
    (upd l_10 (w64 (w_2.Offset + x_8)) (iand .u8 x_15 x_11)).bind fun l_17 =>
    wirelessref39_Apply_j3 F x_8 l_17
  else
    wirelessref39_Apply_j3 F x_8 l_10

def wirelessref39_Apply_l1 (F : Nat) (w_2 : T_api_Write) (n_3 : Int) (l_7 : (List Int)) (x_8 : Int) : Option (Out ((List Int) × Int) ((List Int))) :=
  if ((decide (x_8 < (len w_2.Bytes))) && ((decide (n_3 < 0)) || (decide (x_8 < n_3)))) = true then
    if ((decide (w_2.Offset ≥ 0)) && (decide (w_2.Offset < (w64 ((len l_7) - x_8))))) = true then
      (idx w_2.Bytes x_8).bind fun x_18 =>
      (idx l_7 (w64 (w_2.Offset + x_8))).bind fun x_21 =>
      (idx l_7 (w64 (w_2.Offset + x_8))).bind fun x_22 =>
      (idx l_7 (w64 (w_2.Offset + x_8))).bind fun x_23 =>
      (upd l_7 (w64 (w_2.Offset + x_8)) (iand .u8 x_22 x_18)).bind fun l_24 =>
      wirelessref39_Apply_j4 F w_2 x_8 l_24
    else
      wirelessref39_Apply_j4 F w_2 x_8 l_7
  else
    some (.done (l_7))

def wirelessref39_Apply_j1 (F : Nat) (w_2 : T_api_Write) (n_3 : Int) (x_4 : T_api_Flash) : Option (T_api_Flash) :=
  (iter (fun s => wirelessref39_Apply_l1 F w_2 n_3 s.1 s.2) F (x_4.Banks.1, 0)).bind fun o =>
  wirelessref39_Apply_j2 F x_4 o

def wirelessref39_Apply_j5 (F : Nat) (x_4 : T_api_Flash) (l_25 : (List Int)) : Option (T_api_Flash) :=
  some (T_api_Flash.mk (l_25, x_4.Banks.2))

def wirelessref39_Apply_l2 (F : Nat) (n_3 : Int) (l_26 : (List Int)) (x_27 : Int) : Option (Out ((List Int) × Int) ((List Int))) :=
  if ((decide (x_27 < (len l_26))) && ((decide (n_3 < 0)) || (decide (x_27 < n_3)))) = true then
    (idx l_26 x_27).bind fun x_28 =>
    (upd l_26 x_27 255).bind fun l_29 =>
    some (.next (l_29, w64 (x_27 + 1)))
  else
    some (.done (l_26))

def wirelessref39_Apply_j7 (F : Nat) (x_4 : T_api_Flash) (l_31 : (List Int)) : Option (T_api_Flash) :=
  some (T_api_Flash.mk (x_4.Banks.1, l_31))

def wirelessref39_Apply_j8 (F : Nat) (x_33 : Int) (l_34 : (List Int)) : Option (Out ((List Int) × Int) ((List Int))) :=
  some (.next (l_34, w64 (x_33 + 1)))

def wirelessref39_Apply_j9 (F : Nat) (w_2 : T_api_Write) (x_33 : Int) (l_35 : (List Int)) : Option (Out ((List Int) × Int) ((List Int))) :=
  if (((decide (w_2.Offset < 0)) && (decide ((w64 (w_2.Offset + x_33)) ≥ 0))) && (decide ((w64 (w_2.Offset + x_33)) < (len l_35)))) = true then
    (idx w_2.Bytes x_33).bind fun x_36 =>
    (idx l_35 (w64 (w_2.Offset + x_33))).bind fun x_39 =>
    (idx l_35 (w64 (w_2.Offset + x_33))).bind fun x_40 =>
    (idx l_35 (w64 (w_2.Offset + x_33))).bind fun x_41 =>
    (upd l_35 (w64 (w_2.Offset + x_33)) (iand .u8 x_40 x_36)).bind fun l_42 =>
    wirelessref39_Apply_j8 F x_33 l_42
  else
    wirelessref39_Apply_j8 F x_33 l_35

def wirelessref39_Apply_l3 (F : Nat) (w_2 : T_api_Write) (n_3 : Int) (l_32 : (List Int)) (x_33 : Int) : Option (Out ((List Int) × Int) ((List Int))) :=
  if ((decide (x_33 < (len w_2.Bytes))) && ((decide (n_3 < 0)) || (decide (x_33 < n_3)))) = true then
    if ((decide (w_2.Offset ≥ 0)) && (decide (w_2.Offset < (w64 ((len l_32) - x_33))))) = true then
      (idx w_2.Bytes x_33).bind fun x_43 =>
      (idx l_32 (w64 (w_2.Offset + x_33))).bind fun x_46 =>
      (idx l_32 (w64 (w_2.Offset + x_33))).bind fun x_47 =>
      (idx l_32 (w64 (w_2.Offset + x_33))).bind fun x_48 =>
      (upd l_32 (w64 (w_2.Offset + x_33)) (iand .u8 x_47 x_43)).bind fun l_49 =>
      wirelessref39_Apply_j9 F w_2 x_33 l_49
    else
      wirelessref39_Apply_j9 F w_2 x_33 l_32
  else
    some (.done (l_32))

def wirelessref39_Apply_j6 (F : Nat) (w_2 : T_api_Write) (n_3 : Int) (x_4 : T_api_Flash) : Option (T_api_Flash) :=
  (iter (fun s => wirelessref39_Apply_l3 F w_2 n_3 s.1 s.2) F (x_4.Banks.2, 0)).bind fun o =>
  wirelessref39_Apply_j7 F x_4 o

def wirelessref39_Apply_j10 (F : Nat) (x_4 : T_api_Flash) (l_50 : (List Int)) : Option (T_api_Flash) :=
  some (T_api_Flash.mk (x_4.Banks.1, l_50))

def wirelessref39_Apply_l4 (F : Nat) (n_3 : Int) (l_51 : (List Int)) (x_52 : Int) : Option (Out ((List Int) × Int) ((List Int))) :=
  if ((decide (x_52 < (len l_51))) && ((decide (n_3 < 0)) || (decide (x_52 < n_3)))) = true then
    (idx l_51 x_52).bind fun x_53 =>
    (upd l_51 x_52 255).bind fun l_54 =>
    some (.next (l_54, w64 (x_52 + 1)))
  else
    some (.done (l_51))

def wirelessref39_Apply (F : Nat) (f_1 : T_api_Flash) (w_2 : T_api_Write) (n_3 : Int) : Option (T_api_Flash) :=
  (wirelessref39_Copy F f_1).bind fun x_4 =>
  if ((decide (w_2.Bank < 0)) || (decide (w_2.Bank > 1))) = true then
    some x_4
  else
    if (w_2.Bank == 0) = true then
      if w_2.Erase = true then
        (iter (fun s => wirelessref39_Apply_l2 F n_3 s.1 s.2) F (x_4.Banks.1, 0)).bind fun o =>
        wirelessref39_Apply_j5 F x_4 o
      else
        wirelessref39_Apply_j1 F w_2 n_3 x_4
    else
      if (w_2.Bank == 1) = true then
        if w_2.Erase = true then
          (iter (fun s => wirelessref39_Apply_l4 F n_3 s.1 s.2) F (x_4.Banks.2, 0)).bind fun o =>
          wirelessref39_Apply_j10 F x_4 o
        else
          wirelessref39_Apply_j6 F w_2 n_3 x_4
      else
        none

def wirelessref39_Done_j1 (F : Nat) (c_5 : T_api_Flash) : Option (T_api_Flash) :=
  some c_5

def wirelessref39_Done_l1 (F : Nat) (l_2 : (List T_api_Write)) (c_8 : T_api_Flash) (x_9 : Int) : Option (Out (T_api_Flash × Int) (T_api_Flash)) :=
  if (decide (x_9 < (len l_2))) = true then
    (idx l_2 x_9).bind fun x_10 =>
    (wirelessref39_Apply F c_8 x_10 (-1)).bind fun x_13 =>
    some (.next (x_13, w64 (x_9 + 1)))
  else
    some (.done (c_8))

def wirelessref39_Done (F : Nat) (f_1 : T_api_Flash) (l_2 : (List T_api_Write)) : Option (T_api_Flash) :=
  (iter (fun s => wirelessref39_Done_l1 F l_2 s.1 s.2) F (f_1, 0)).bind fun o =>
  wirelessref39_Done_j1 F o

def wirelessref39_Put (F : Nat) (s_1 : T_api_Store) (key_2 : Int) (value_3 : (List Int)) : Option (T_api_Store × Int) :=
  (wirelessref39_Plan F s_1 key_2 value_3).bind fun x_4 =>
  if (x_4.2 != 0) = true then
    some (s_1, x_4.2)
  else
    (wirelessref39_Done F s_1.Flash x_4.1).bind fun x_5 =>
    (wirelessref39_Mount F x_5).bind fun x_6 =>
    some (x_6.1, 0)

def wirelesslaw39_FlashPlans_j2 (F : Nat) (key_2 : Int) (value_3 : (List Int)) (x_9 : T_api_Store × Int) (x_15 : Int) (c_22 : T_api_Store) : Option (Bool) :=
  (wirelessref39_Put F x_9.1 key_2 value_3).bind fun x_23 =>
  (if (x_15 == x_23.2) = true then
    (wirelessref39_Same F c_22 x_23.1).bind fun x_27 =>
    some (x_27)
  else
    some (false)).bind fun z_25 =>
  some z_25

def wirelesslaw39_FlashPlans_j1 (F : Nat) (key_2 : Int) (value_3 : (List Int)) (x_8 : T_api_Store × Int) (x_9 : T_api_Store × Int) (l_10 : (List T_api_Write)) (x_11 : Int) : Option (Bool) :=
  (wirelessref39_Plan F x_9.1 key_2 value_3).bind fun x_12 =>
  (if (x_11 != x_12.2) = true then
    some (true)
  else
    (wirelessref39_SameWrites F l_10 x_12.1).bind fun x_991 =>
    some ((!x_991))).bind fun z_14 =>
  if z_14 = true then
    some false
  else
    (wirelesslaw39_copied F value_3).bind fun x_270 =>
    (flash_Put F x_8.1 key_2 x_270).bind fun x_350 =>
    wirelesslaw39_FlashPlans_j2 F key_2 value_3 x_9 x_350.2 x_350.1

def wirelesslaw39_FlashPlans (F : Nat) (f_1 : T_api_Flash) (key_2 : Int) (value_3 : (List Int)) : Option (Bool) :=
  (wirelesslaw39_lives F).bind fun x_4 =>
  if (!x_4) = true then
    some false
  else
    (if (decide ((len f_1.Banks.1) > 4096)) = true then
      some (true)
    else
      some (decide ((len f_1.Banks.2) > 4096))).bind fun z_6 =>
    if (z_6 || (decide ((len value_3) > 4096))) = true then
      some true
    else
      (wirelessref39_Copy F f_1).bind fun x_7 =>
      (flash_Mount F x_7).bind fun x_8 =>
      if (x_8.2 != 0) = true then
        some true
      else
        (wirelessref39_Mount F f_1).bind fun x_9 =>
        (wirelesslaw39_copied F value_3).bind fun x_994 =>
        (flash_Plan F x_8.1 key_2 x_994).bind fun x_995 =>
        wirelesslaw39_FlashPlans_j1 F key_2 value_3 x_8 x_9 x_995.1 x_995.2

end V
end Go.Proofs.YtojcklkcjnnkaaaDoor
