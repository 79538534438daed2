/-
  Pure twins of the Go functions, written by program.
-/
import Derived.Test.YtndnilndhmalfaaPure
namespace Go.Proofs.Ytndnilndhmalfaa
namespace V
structure T_api_Update where
  WinSize : Int
  WinOffset : Int
  Interval : Int
  Latency : Int
  Timeout : Int

structure T_api_Signal where
  Kind : Int
  ID : Int
  PSM : Int
  Source : Int
  Dest : Int
  MTU : Int
  MPS : Int
  Credits : Int
  Result : Int
  Update : T_api_Update

structure T_connect_span where
  n : Int
  low : Int
  high : Int

structure T_wirelessref34_Uses where
  Known : Bool
  PSM : Bool
  Source : Bool
  Dest : Bool
  Sizes : Bool
  Credits : Bool
  Result : Bool
  Update : Bool

structure T_api_Field where
  Size : Int
  Value : Int

def signal_known_j1 (F : Nat) (z_2 : Bool) : Option (Bool) :=
  if z_2 = true then
    some true
  else
    some false

def signal_known (F : Nat) (kind_1 : Int) : Option (Bool) :=
  if (kind_1 == 1) = true then
    signal_known_j1 F (kind_1 == 1)
  else
    if (kind_1 == 6) = true then
      signal_known_j1 F (kind_1 == 6)
    else
      if (kind_1 == 7) = true then
        signal_known_j1 F (kind_1 == 7)
      else
        if (kind_1 == 18) = true then
          signal_known_j1 F (kind_1 == 18)
        else
          if (kind_1 == 19) = true then
            signal_known_j1 F (kind_1 == 19)
          else
            if (kind_1 == 20) = true then
              signal_known_j1 F (kind_1 == 20)
            else
              if (kind_1 == 21) = true then
                signal_known_j1 F (kind_1 == 21)
              else
                signal_known_j1 F (kind_1 == 22)

def signal_used_j1 (F : Nat) (s_1 : T_api_Signal) (c_14 : T_api_Signal) : Option (T_api_Signal) :=
  some ({ c_14 with Kind := s_1.Kind, ID := s_1.ID })

def signal_used_j3 (F : Nat) (s_1 : T_api_Signal) : Option (T_api_Signal) :=
  signal_used_j1 F s_1 ({ s_1 with PSM := 0, MTU := 0, MPS := 0, Credits := 0, Result := 0, Update := (T_api_Update.mk 0 0 0 0 0) })

def signal_used_j2 (F : Nat) (s_1 : T_api_Signal) : Option (T_api_Signal) :=
  signal_used_j3 F s_1

def signal_used_j4 (F : Nat) (s_1 : T_api_Signal) : Option (T_api_Signal) :=
  signal_used_j1 F s_1 ({ s_1 with PSM := 0, Source := 0, Dest := 0, MTU := 0, MPS := 0, Credits := 0, Update := (T_api_Update.mk 0 0 0 0 0) })

def signal_used_j5 (F : Nat) (s_1 : T_api_Signal) : Option (T_api_Signal) :=
  signal_used_j1 F s_1 ({ s_1 with Dest := 0, Result := 0, Update := (T_api_Update.mk 0 0 0 0 0) })

def signal_used_j6 (F : Nat) (s_1 : T_api_Signal) : Option (T_api_Signal) :=
  signal_used_j1 F s_1 ({ s_1 with PSM := 0, Dest := 0, Update := (T_api_Update.mk 0 0 0 0 0) })

def signal_used_j7 (F : Nat) (s_1 : T_api_Signal) : Option (T_api_Signal) :=
  signal_used_j1 F s_1 ({ s_1 with PSM := 0, Dest := 0, MTU := 0, MPS := 0, Result := 0, Update := (T_api_Update.mk 0 0 0 0 0) })

def signal_used (F : Nat) (s_1 : T_api_Signal) : Option (T_api_Signal) :=
  if (s_1.Kind == 19) = true then
    signal_used_j4 F s_1
  else
    if (s_1.Kind == 1) = true then
      signal_used_j4 F s_1
    else
      if (s_1.Kind == 7) = true then
        signal_used_j2 F s_1
      else
        if (s_1.Kind == 6) = true then
          signal_used_j2 F s_1
        else
          if (s_1.Kind == 18) = true then
            signal_used_j1 F s_1 ({ s_1 with PSM := 0, Source := 0, Dest := 0, MTU := 0, MPS := 0, Credits := 0, Result := 0 })
          else
            if (s_1.Kind == 20) = true then
              signal_used_j5 F s_1
            else
              if (s_1.Kind == 21) = true then
                signal_used_j6 F s_1
              else
                if (s_1.Kind == 22) = true then
                  signal_used_j7 F s_1
                else
                  signal_used_j1 F s_1 ({ s_1 with PSM := 0, Source := 0, Dest := 0, MTU := 0, MPS := 0, Credits := 0, Result := 0, Update := (T_api_Update.mk 0 0 0 0 0) })

def signal_result_j1 (F : Nat) (z_2 : Bool) : Option (Bool) :=
  if z_2 = true then
    some true
  else
    some false

def signal_result (F : Nat) (s_1 : T_api_Signal) : Option (Bool) :=
  if (s_1.Kind == 1) = true then
    some ((s_1.Result == 0) || (s_1.Result == 2))
  else
    if (s_1.Kind == 19) = true then
      some ((s_1.Result == 0) || (s_1.Result == 1))
    else
      if (s_1.Kind == 21) = true then
        if (s_1.Result == 0) = true then
          signal_result_j1 F (s_1.Result == 0)
        else
          if (s_1.Result == 2) = true then
            signal_result_j1 F (s_1.Result == 2)
          else
            if (s_1.Result == 4) = true then
              signal_result_j1 F (s_1.Result == 4)
            else
              if (s_1.Result == 5) = true then
                signal_result_j1 F (s_1.Result == 5)
              else
                signal_result_j1 F (s_1.Result == 9)
      else
        some true

def signal_channel (F : Nat) (cid_1 : Int) : Option (Bool) :=
  some ((decide (cid_1 ≥ 64)) && (decide (cid_1 ≤ 127)))

def signal_size (F : Nat) (n_1 : Int) : Option (Bool) :=
  some ((decide (n_1 ≥ 23)) && (decide (n_1 ≤ 4096)))

def signal_ranges_j2 (F : Nat) (s_1 : T_api_Signal) (z_8 : Bool) : Option (Bool) :=
  if z_8 = true then
    (signal_channel F s_1.Source).bind fun x_9 =>
    (if x_9 = true then
      (signal_size F s_1.MTU).bind fun x_17 =>
      some (x_17)
    else
      some (false)).bind fun z_11 =>
    (if z_11 = true then
      (signal_size F s_1.MPS).bind fun x_15 =>
      some (x_15)
    else
      some (false)).bind fun z_13 =>
    some ((z_13 && (decide (s_1.Credits ≥ 0))) && (decide (s_1.Credits ≤ 65535)))
  else
    if (s_1.Kind == 22) = true then
      (signal_channel F s_1.Source).bind fun x_18 =>
      some ((x_18 && (decide (s_1.Credits ≥ 1))) && (decide (s_1.Credits ≤ 65535)))
    else
      some true

def signal_ranges_j1 (F : Nat) (s_1 : T_api_Signal) (z_2 : Bool) : Option (Bool) :=
  if z_2 = true then
    (signal_channel F s_1.Source).bind fun x_3 =>
    (if x_3 = true then
      (signal_channel F s_1.Dest).bind fun x_7 =>
      some (x_7)
    else
      some (false)).bind fun z_5 =>
    some z_5
  else
    if (s_1.Kind == 20) = true then
      signal_ranges_j2 F s_1 (s_1.Kind == 20)
    else
      signal_ranges_j2 F s_1 (s_1.Kind == 21)

def signal_ranges (F : Nat) (s_1 : T_api_Signal) : Option (Bool) :=
  if (s_1.Kind == 6) = true then
    signal_ranges_j1 F s_1 (s_1.Kind == 6)
  else
    signal_ranges_j1 F s_1 (s_1.Kind == 7)

def connect_within_j1 (F : Nat) : Option (Bool) :=
  some true

def connect_within_l1 (F : Nat) (all_1 : (List T_connect_span)) (x_2 : Int) : Option (Out (Int) (Sum (Unit) (Bool))) :=
  if (decide (x_2 < (len all_1))) = true then
    (idx all_1 x_2).bind fun x_3 =>
    if ((decide (x_3.n < x_3.low)) || (decide (x_3.n > x_3.high))) = true then
      some (.done (.inr false))
    else
      some (.next (w64 (x_2 + 1)))
  else
    some (.done (.inl ()))

def connect_within (F : Nat) (all_1 : (List T_connect_span)) : Option (Bool) :=
  (iter (fun s => connect_within_l1 F all_1 s) F (0)).bind fun o =>
  match o with
  | .inl u => connect_within_j1 F
  | .inr u => some u

def connect_CheckUpdate (F : Nat) (u_1 : T_api_Update) : Option (Int) :=
  (connect_within F [(T_connect_span.mk u_1.WinSize 1 8), (T_connect_span.mk u_1.WinOffset 0 3200), (T_connect_span.mk u_1.Interval 6 3200), (T_connect_span.mk u_1.Latency 0 499), (T_connect_span.mk u_1.Timeout 10 3200)]).bind fun x_2 =>
  if (!x_2) = true then
    some 5
  else
    if (((decide (u_1.WinSize ≥ u_1.Interval)) || (decide (u_1.WinOffset > u_1.Interval))) || (decide ((w64 (u_1.Timeout * 10000)) ≤ (w64 ((w64 ((w64 (2 * (w64 (u_1.Latency + 1)))) * u_1.Interval)) * 1250))))) = true then
      some 11
    else
      some 0

def signal_Check_j1 (F : Nat) (s_1 : T_api_Signal) (z_3 : Bool) : Option (Int) :=
  if z_3 = true then
    some 1
  else
    (signal_result F s_1).bind fun x_4 =>
    if (!x_4) = true then
      some 5
    else
      if ((s_1.Kind == 21) && (s_1.Result != 0)) = true then
        if ((((s_1.Source != 0) || (s_1.MTU != 0)) || (s_1.MPS != 0)) || (s_1.Credits != 0)) = true then
          some 1
        else
          some 0
      else
        if ((s_1.Kind == 20) && (s_1.PSM == 0)) = true then
          some 1
        else
          (signal_ranges F s_1).bind fun x_5 =>
          if (!x_5) = true then
            some 5
          else
            if (s_1.Kind == 18) = true then
              (connect_CheckUpdate F s_1.Update).bind fun x_6 =>
              some x_6
            else
              some 0

def signal_Check (F : Nat) (s_1 : T_api_Signal) : Option (Int) :=
  (signal_known F s_1.Kind).bind fun x_2 =>
  if (!x_2) = true then
    some 12
  else
    if ((decide (s_1.ID < 1)) || (decide (s_1.ID > 255))) = true then
      some 5
    else
      (signal_used F s_1).bind fun x_9 =>
      signal_Check_j1 F s_1 (!((s_1.Kind == x_9.Kind) && ((s_1.ID == x_9.ID) && ((s_1.PSM == x_9.PSM) && ((s_1.Source == x_9.Source) && ((s_1.Dest == x_9.Dest) && ((s_1.MTU == x_9.MTU) && ((s_1.MPS == x_9.MPS) && ((s_1.Credits == x_9.Credits) && ((s_1.Result == x_9.Result) && ((s_1.Update.WinSize == x_9.Update.WinSize) && ((s_1.Update.WinOffset == x_9.Update.WinOffset) && ((s_1.Update.Interval == x_9.Update.Interval) && ((s_1.Update.Latency == x_9.Update.Latency) && (s_1.Update.Timeout == x_9.Update.Timeout)))))))))))))))

def wirelessref34_Fields_j2 (F : Nat) (kind_1 : Int) (z_3 : Bool) : Option (T_wirelessref34_Uses) :=
  if z_3 = true then
    some (T_wirelessref34_Uses.mk true false true true false false false false)
  else
    if (kind_1 == 18) = true then
      some (T_wirelessref34_Uses.mk true false false false false false false true)
    else
      if (kind_1 == 20) = true then
        some (T_wirelessref34_Uses.mk true true true false true true false false)
      else
        if (kind_1 == 21) = true then
          some (T_wirelessref34_Uses.mk true false true false true true true false)
        else
          if (kind_1 == 22) = true then
            some (T_wirelessref34_Uses.mk true false true false false true false false)
          else
            some (T_wirelessref34_Uses.mk false false false false false false false false)

def wirelessref34_Fields_j1 (F : Nat) (kind_1 : Int) (z_2 : Bool) : Option (T_wirelessref34_Uses) :=
  if z_2 = true then
    some (T_wirelessref34_Uses.mk true false false false false false true false)
  else
    if (kind_1 == 6) = true then
      wirelessref34_Fields_j2 F kind_1 (kind_1 == 6)
    else
      wirelessref34_Fields_j2 F kind_1 (kind_1 == 7)

def wirelessref34_Fields (F : Nat) (kind_1 : Int) : Option (T_wirelessref34_Uses) :=
  if (kind_1 == 1) = true then
    wirelessref34_Fields_j1 F kind_1 (kind_1 == 1)
  else
    wirelessref34_Fields_j1 F kind_1 (kind_1 == 19)

def wirelessref34_unused (F : Nat) (s_1 : T_api_Signal) : Option (Bool) :=
  (wirelessref34_Fields F s_1.Kind).bind fun x_2 =>
  if (((((!x_2.PSM) && (s_1.PSM != 0)) || ((!x_2.Source) && (s_1.Source != 0))) || ((!x_2.Dest) && (s_1.Dest != 0))) || ((!x_2.Sizes) && ((s_1.MTU != 0) || (s_1.MPS != 0)))) = true then
    some false
  else
    (if ((x_2.Credits || (s_1.Credits == 0)) && (x_2.Result || (s_1.Result == 0))) = true then
      if x_2.Update = true then
        some (true)
      else
        some (((s_1.Update.WinSize == 0) && ((s_1.Update.WinOffset == 0) && ((s_1.Update.Interval == 0) && ((s_1.Update.Latency == 0) && (s_1.Update.Timeout == 0))))))
    else
      some (false)).bind fun z_4 =>
    some z_4

def wirelessref34_isResult (F : Nat) (kind_1 : Int) (n_2 : Int) : Option (Bool) :=
  if (kind_1 == 1) = true then
    some ((n_2 == 0) || (n_2 == 2))
  else
    if (kind_1 == 19) = true then
      some ((n_2 == 0) || (n_2 == 1))
    else
      some (((((n_2 == 0) || (n_2 == 2)) || (n_2 == 4)) || (n_2 == 5)) || (n_2 == 9))

def wirelessref34_isCID (F : Nat) (n_1 : Int) : Option (Bool) :=
  some ((decide (n_1 ≥ 64)) && (decide (n_1 ≤ 127)))

def wirelessref34_isSize (F : Nat) (n_1 : Int) : Option (Bool) :=
  some ((decide (n_1 ≥ 23)) && (decide (n_1 ≤ 4096)))

def wirelessref34_inRange_j1 (F : Nat) (s_1 : T_api_Signal) (x_2 : T_wirelessref34_Uses) (x_9 : Int) : Option (Bool) :=
  some ((!x_2.Credits) || ((decide (s_1.Credits ≥ x_9)) && (decide (s_1.Credits ≤ 65535))))

def wirelessref34_inRange (F : Nat) (s_1 : T_api_Signal) : Option (Bool) :=
  (wirelessref34_Fields F s_1.Kind).bind fun x_2 =>
  (if x_2.Source = true then
    (wirelessref34_isCID F s_1.Source).bind fun x_19 =>
    some ((!x_19))
  else
    some (false)).bind fun z_4 =>
  (if z_4 = true then
    some (true)
  else
    if x_2.Dest = true then
      (wirelessref34_isCID F s_1.Dest).bind fun x_17 =>
      some ((!x_17))
    else
      some (false)).bind fun z_6 =>
  (if z_6 = true then
    some (true)
  else
    if x_2.Sizes = true then
      (wirelessref34_isSize F s_1.MTU).bind fun x_12 =>
      if (!x_12) = true then
        some (true)
      else
        (wirelessref34_isSize F s_1.MPS).bind fun x_14 =>
        some ((!x_14))
    else
      some (false)).bind fun z_8 =>
  if z_8 = true then
    some false
  else
    if (s_1.Kind == 22) = true then
      wirelessref34_inRange_j1 F s_1 x_2 1
    else
      wirelessref34_inRange_j1 F s_1 x_2 0

def wirelessref17_within (F : Nat) (n_1 : Int) (low_2 : Int) (high_3 : Int) : Option (Bool) :=
  some ((decide (n_1 ≥ low_2)) && (decide (n_1 ≤ high_3)))

def wirelessref17_CheckUpdate (F : Nat) (u_1 : T_api_Update) : Option (Int) :=
  (wirelessref17_within F u_1.WinSize 1 8).bind fun x_2 =>
  (if (!x_2) = true then
    some (true)
  else
    (wirelessref17_within F u_1.WinOffset 0 3200).bind fun x_18 =>
    some ((!x_18))).bind fun z_4 =>
  (if z_4 = true then
    some (true)
  else
    (wirelessref17_within F u_1.Interval 6 3200).bind fun x_16 =>
    some ((!x_16))).bind fun z_6 =>
  (if z_6 = true then
    some (true)
  else
    (wirelessref17_within F u_1.Latency 0 499).bind fun x_14 =>
    some ((!x_14))).bind fun z_8 =>
  (if z_8 = true then
    some (true)
  else
    (wirelessref17_within F u_1.Timeout 10 3200).bind fun x_12 =>
    some ((!x_12))).bind fun z_10 =>
  if z_10 = true then
    some 5
  else
    if (((decide (u_1.WinSize ≥ u_1.Interval)) || (decide (u_1.WinOffset > u_1.Interval))) || (decide ((w64 (u_1.Timeout * 10000)) ≤ (w64 ((w64 ((w64 (2 * (w64 (u_1.Latency + 1)))) * u_1.Interval)) * 1250))))) = true then
      some 11
    else
      some 0

def wirelessref34_Check (F : Nat) (s_1 : T_api_Signal) : Option (Int) :=
  (wirelessref34_Fields F s_1.Kind).bind fun x_2 =>
  if (!x_2.Known) = true then
    some 12
  else
    if ((decide (s_1.ID < 1)) || (decide (s_1.ID > 255))) = true then
      some 5
    else
      (wirelessref34_unused F s_1).bind fun x_3 =>
      if (!x_3) = true then
        some 1
      else
        (if x_2.Result = true then
          (wirelessref34_isResult F s_1.Kind s_1.Result).bind fun x_9 =>
          some ((!x_9))
        else
          some (false)).bind fun z_5 =>
        if z_5 = true then
          some 5
        else
          if ((s_1.Kind == 21) && (s_1.Result != 0)) = true then
            if ((((s_1.Source != 0) || (s_1.MTU != 0)) || (s_1.MPS != 0)) || (s_1.Credits != 0)) = true then
              some 1
            else
              some 0
          else
            if (x_2.PSM && (s_1.PSM == 0)) = true then
              some 1
            else
              (wirelessref34_inRange F s_1).bind fun x_6 =>
              if (!x_6) = true then
                some 5
              else
                if x_2.Update = true then
                  (wirelessref17_CheckUpdate F s_1.Update).bind fun x_7 =>
                  some x_7
                else
                  some 0

def signal_sizes_j2 (F : Nat) (kind_1 : Int) (z_3 : Bool) : Option ((List Int)) :=
  if z_3 = true then
    some [2, 2]
  else
    if (kind_1 == 18) = true then
      some [1, 2, 2, 2, 2]
    else
      some [2, 2, 2, 2, 2]

def signal_sizes_j1 (F : Nat) (kind_1 : Int) (z_2 : Bool) : Option ((List Int)) :=
  if z_2 = true then
    some [2]
  else
    if (kind_1 == 6) = true then
      signal_sizes_j2 F kind_1 (kind_1 == 6)
    else
      if (kind_1 == 7) = true then
        signal_sizes_j2 F kind_1 (kind_1 == 7)
      else
        signal_sizes_j2 F kind_1 (kind_1 == 22)

def signal_sizes (F : Nat) (kind_1 : Int) : Option ((List Int)) :=
  if (kind_1 == 1) = true then
    signal_sizes_j1 F kind_1 (kind_1 == 1)
  else
    signal_sizes_j1 F kind_1 (kind_1 == 19)

def signal_numbers_j2 (F : Nat) (s_1 : T_api_Signal) (z_3 : Bool) : Option ((List Int)) :=
  if z_3 = true then
    some [w64 s_1.Source, w64 s_1.Dest]
  else
    if (s_1.Kind == 18) = true then
      some [s_1.Update.WinSize, s_1.Update.WinOffset, s_1.Update.Interval, s_1.Update.Latency, s_1.Update.Timeout]
    else
      if (s_1.Kind == 20) = true then
        some [w64 s_1.PSM, w64 s_1.Source, s_1.MTU, s_1.MPS, s_1.Credits]
      else
        if (s_1.Kind == 21) = true then
          some [w64 s_1.Source, s_1.MTU, s_1.MPS, s_1.Credits, s_1.Result]
        else
          some [w64 s_1.Source, s_1.Credits]

def signal_numbers_j1 (F : Nat) (s_1 : T_api_Signal) (z_2 : Bool) : Option ((List Int)) :=
  if z_2 = true then
    some [s_1.Result]
  else
    if (s_1.Kind == 6) = true then
      signal_numbers_j2 F s_1 (s_1.Kind == 6)
    else
      signal_numbers_j2 F s_1 (s_1.Kind == 7)

def signal_numbers (F : Nat) (s_1 : T_api_Signal) : Option ((List Int)) :=
  if (s_1.Kind == 1) = true then
    signal_numbers_j1 F s_1 (s_1.Kind == 1)
  else
    signal_numbers_j1 F s_1 (s_1.Kind == 19)

def octets_sized (F : Nat) (n_1 : Int) : Option (Bool) :=
  some ((decide (n_1 ≥ 1)) && (decide (n_1 ≤ 8)))

def octets_Put_j1 (F : Nat) (l_2 : (List Int)) : Option ((List Int) × Int) :=
  some (l_2, 0)

def octets_Put_j2 (F : Nat) (x_4 : Int) (l_5 : (List Int)) : Option (Out ((List Int) × Int) (Sum ((List Int)) ((List Int) × Int))) :=
  some (.next (l_5, w64 (x_4 + 1)))

def octets_Put_l2 (F : Nat) (x_6 : T_api_Field) (l_10 : (List Int)) (x_11 : Int) : Option (Out ((List Int) × Int) ((List Int))) :=
  if (decide (x_11 < x_6.Size)) = true then
    (ishr .u64 x_6.Value (w64 (8 * x_11))).bind fun x_12 =>
    (app 1 l_10 [wu8 x_12]).bind fun l_13 =>
    some (.next (l_13, w64 (x_11 + 1)))
  else
    some (.done (l_10))

def octets_Put_l1 (F : Nat) (fields_1 : (List T_api_Field)) (l_3 : (List Int)) (x_4 : Int) : Option (Out ((List Int) × Int) (Sum ((List Int)) ((List Int) × Int))) :=
  if (decide (x_4 < (len fields_1))) = true then
    (idx fields_1 x_4).bind fun x_6 =>
    (octets_sized F x_6.Size).bind fun x_7 =>
    (if (!x_7) = true then
      some (true)
    else
      if (decide (x_6.Size < 8)) = true then
        (ishr .u64 x_6.Value (w64 (8 * x_6.Size))).bind fun x_16 =>
        some ((x_16 != 0))
      else
        some (false)).bind fun z_9 =>
    if z_9 = true then
      some (.done (.inr ([], 5)))
    else
      (iter (fun s => octets_Put_l2 F x_6 s.1 s.2) F (l_3, 0)).bind fun o =>
      octets_Put_j2 F x_4 o
  else
    some (.done (.inl (l_3)))

def octets_Put (F : Nat) (fields_1 : (List T_api_Field)) : Option ((List Int) × Int) :=
  (iter (fun s => octets_Put_l1 F fields_1 s.1 s.2) F ([], 0)).bind fun o =>
  match o with
  | .inl u => octets_Put_j1 F u
  | .inr u => some u

def octets_Join_j1 (F : Nat) (l_2 : (List Int)) : Option ((List Int)) :=
  some l_2

def octets_Join_l1 (F : Nat) (parts_1 : (List (List Int))) (l_3 : (List Int)) (x_4 : Int) : Option (Out ((List Int) × Int) ((List Int))) :=
  if (decide (x_4 < (len parts_1))) = true then
    (idx parts_1 x_4).bind fun x_5 =>
    (app 1 l_3 x_5).bind fun l_6 =>
    some (.next (l_6, w64 (x_4 + 1)))
  else
    some (.done (l_3))

def octets_Join (F : Nat) (parts_1 : (List (List Int))) : Option ((List Int)) :=
  (iter (fun s => octets_Join_l1 F parts_1 s.1 s.2) F ([], 0)).bind fun o =>
  octets_Join_j1 F o

def signal_Encode_j1 (F : Nat) (s_1 : T_api_Signal) (l_4 : (List T_api_Field)) (x_5 : Int) : Option ((List Int) × Int) :=
  (octets_Put F l_4).bind fun x_6 =>
  if (x_6.2 != 0) = true then
    some ([], x_6.2)
  else
    (octets_Join F [[wu8 s_1.Kind, wu8 s_1.ID, wu8 x_5, 0], x_6.1]).bind fun x_7 =>
    some (x_7, 0)

def signal_Encode_l1 (F : Nat) (x_3 : (List Int)) (x_8 : (List Int)) (l_9 : (List T_api_Field)) (x_10 : Int) (x_11 : Int) : Option (Out ((List T_api_Field) × Int × Int) ((List T_api_Field) × Int)) :=
  if (decide (x_11 < (len x_8))) = true then
    (idx x_8 x_11).bind fun x_12 =>
    (idx x_3 x_11).bind fun x_13 =>
    (app 16 l_9 [(T_api_Field.mk x_13 (wu64 x_12))]).bind fun l_14 =>
    (idx x_3 x_11).bind fun x_15 =>
    some (.next (l_14, w64 (x_10 + x_15), w64 (x_11 + 1)))
  else
    some (.done (l_9, x_10))

def signal_Encode (F : Nat) (s_1 : T_api_Signal) : Option ((List Int) × Int) :=
  (signal_Check F s_1).bind fun x_2 =>
  if (x_2 != 0) = true then
    some ([], x_2)
  else
    (signal_sizes F s_1.Kind).bind fun x_3 =>
    (signal_numbers F s_1).bind fun x_8 =>
    (iter (fun s => signal_Encode_l1 F x_3 x_8 s.1 s.2.1 s.2.2) F ([], 0, 0)).bind fun o =>
    signal_Encode_j1 F s_1 o.1 o.2

def octets_Take_j2 (F : Nat) (l_4 : (List Int)) (l_5 : (List Int)) : Option ((List Int) × (List Int) × Int) :=
  (octets_Join F [l_4]).bind fun x_6 =>
  some (l_5, x_6, 0)

def octets_Take_j3 (F : Nat) (x_9 : Int) (l_10 : (List Int)) (l_11 : (List Int)) : Option (Out ((List Int) × (List Int) × Int) ((List Int) × (List Int))) :=
  some (.next (l_10, l_11, w64 (x_9 + 1)))

def octets_Take_j4 (F : Nat) (l_7 : (List Int)) (l_8 : (List Int)) (x_9 : Int) (x_12 : Int) (x_13 : Int) : Option (Out ((List Int) × (List Int) × Int) ((List Int) × (List Int))) :=
  (app 8 l_8 [x_13]).bind fun l_14 =>
  (sub l_7 x_12 (len l_7)).bind fun l_15 =>
  octets_Take_j3 F x_9 l_15 l_14

def octets_Take_l2 (F : Nat) (l_7 : (List Int)) (x_12 : Int) (x_16 : Int) (x_17 : Int) : Option (Out (Int × Int) (Int)) :=
  if (decide (x_17 < x_12)) = true then
    (idx l_7 x_17).bind fun x_18 =>
    (ishl .u64 (wu64 x_18) (w64 (8 * x_17))).bind fun x_19 =>
    some (.next (ior .u64 x_16 x_19, w64 (x_17 + 1)))
  else
    some (.done (x_16))

def octets_Take_l1 (F : Nat) (sizes_2 : (List Int)) (l_7 : (List Int)) (l_8 : (List Int)) (x_9 : Int) : Option (Out ((List Int) × (List Int) × Int) ((List Int) × (List Int))) :=
  if (decide (x_9 < (len sizes_2))) = true then
    (idx sizes_2 x_9).bind fun x_12 =>
    (iter (fun s => octets_Take_l2 F l_7 x_12 s.1 s.2) F (0, 0)).bind fun o =>
    octets_Take_j4 F l_7 l_8 x_9 x_12 o
  else
    some (.done (l_7, l_8))

def octets_Take_j1 (F : Nat) (b_1 : (List Int)) (sizes_2 : (List Int)) (x_3 : Int) : Option ((List Int) × (List Int) × Int) :=
  if (decide ((len b_1) < x_3)) = true then
    some ([], [], 3)
  else
    (iter (fun s => octets_Take_l1 F sizes_2 s.1 s.2.1 s.2.2) F (b_1, [], 0)).bind fun o =>
    octets_Take_j2 F o.1 o.2

def octets_Take_l3 (F : Nat) (sizes_2 : (List Int)) (x_20 : Int) (x_21 : Int) : Option (Out (Int × Int) (Sum (Int) ((List Int) × (List Int) × Int))) :=
  if (decide (x_21 < (len sizes_2))) = true then
    (idx sizes_2 x_21).bind fun x_22 =>
    (octets_sized F x_22).bind fun x_23 =>
    if (!x_23) = true then
      some (.done (.inr ([], [], 5)))
    else
      some (.next (w64 (x_20 + x_22), w64 (x_21 + 1)))
  else
    some (.done (.inl (x_20)))

def octets_Take (F : Nat) (b_1 : (List Int)) (sizes_2 : (List Int)) : Option ((List Int) × (List Int) × Int) :=
  (iter (fun s => octets_Take_l3 F sizes_2 s.1 s.2) F (0, 0)).bind fun o =>
  match o with
  | .inl u => octets_Take_j1 F b_1 sizes_2 u
  | .inr u => some u

def signal_filled_1 (F : Nat) (i_1 : Int) (p_2 : (List Int)) : Option (Int × (List Int)) :=
  (idx p_2 i_1).bind fun x_3 =>
  some (w64 x_3, p_2)

def signal_filled_2 (F : Nat) (i_1 : Int) (p_2 : (List Int)) : Option (Int × (List Int)) :=
  (idx p_2 i_1).bind fun x_3 =>
  some (wu16 x_3, p_2)

def signal_filled_j1 (F : Nat) (s_1 : T_api_Signal) (c_15 : T_api_Signal) : Option (T_api_Signal) :=
  some ({ c_15 with Kind := s_1.Kind, ID := s_1.ID })

def signal_filled_j3 (F : Nat) (s_1 : T_api_Signal) (l_2 : (List Int)) (z_18 : Bool) : Option (T_api_Signal) :=
  if z_18 = true then
    (signal_filled_2 F 0 l_2).bind fun x_19 =>
    (signal_filled_2 F 1 x_19.2).bind fun x_20 =>
    signal_filled_j1 F s_1 ({ s_1 with Source := x_19.1, Dest := x_20.1 })
  else
    if (s_1.Kind == 18) = true then
      (signal_filled_1 F 0 l_2).bind fun x_21 =>
      (signal_filled_1 F 1 x_21.2).bind fun x_22 =>
      (signal_filled_1 F 2 x_22.2).bind fun x_23 =>
      (signal_filled_1 F 3 x_23.2).bind fun x_24 =>
      (signal_filled_1 F 4 x_24.2).bind fun x_25 =>
      signal_filled_j1 F s_1 ({ s_1 with Update := (T_api_Update.mk x_21.1 x_22.1 x_23.1 x_24.1 x_25.1) })
    else
      if (s_1.Kind == 20) = true then
        (signal_filled_2 F 0 l_2).bind fun x_26 =>
        (signal_filled_2 F 1 x_26.2).bind fun x_27 =>
        (signal_filled_1 F 2 x_27.2).bind fun x_28 =>
        (signal_filled_1 F 3 x_28.2).bind fun x_29 =>
        (signal_filled_1 F 4 x_29.2).bind fun x_30 =>
        signal_filled_j1 F s_1 ({ s_1 with PSM := x_26.1, Source := x_27.1, MTU := x_28.1, MPS := x_29.1, Credits := x_30.1 })
      else
        if (s_1.Kind == 21) = true then
          (signal_filled_2 F 0 l_2).bind fun x_31 =>
          (signal_filled_1 F 1 x_31.2).bind fun x_32 =>
          (signal_filled_1 F 2 x_32.2).bind fun x_33 =>
          (signal_filled_1 F 3 x_33.2).bind fun x_34 =>
          (signal_filled_1 F 4 x_34.2).bind fun x_35 =>
          signal_filled_j1 F s_1 ({ s_1 with Source := x_31.1, MTU := x_32.1, MPS := x_33.1, Credits := x_34.1, Result := x_35.1 })
        else
          if (s_1.Kind == 22) = true then
            (signal_filled_2 F 0 l_2).bind fun x_36 =>
            (signal_filled_1 F 1 x_36.2).bind fun x_37 =>
            signal_filled_j1 F s_1 ({ s_1 with Source := x_36.1, Credits := x_37.1 })
          else
            signal_filled_j1 F s_1 s_1

def signal_filled_j2 (F : Nat) (s_1 : T_api_Signal) (l_2 : (List Int)) (z_16 : Bool) : Option (T_api_Signal) :=
  if z_16 = true then
    (signal_filled_1 F 0 l_2).bind fun x_17 =>
    signal_filled_j1 F s_1 ({ s_1 with Result := x_17.1 })
  else
    if (s_1.Kind == 6) = true then
      signal_filled_j3 F s_1 l_2 (s_1.Kind == 6)
    else
      signal_filled_j3 F s_1 l_2 (s_1.Kind == 7)

def signal_filled (F : Nat) (s_1 : T_api_Signal) (l_2 : (List Int)) : Option (T_api_Signal) :=
  if (s_1.Kind == 1) = true then
    signal_filled_j2 F s_1 l_2 (s_1.Kind == 1)
  else
    signal_filled_j2 F s_1 l_2 (s_1.Kind == 19)

def signal_Decode_j4 (F : Nat) (c_4 : T_api_Signal) (l_8 : (List Int)) (l_9 : (List Int)) (x_10 : Int) : Option (T_api_Signal × Int) :=
  if (x_10 != 0) = true then
    some ((T_api_Signal.mk 0 0 0 0 0 0 0 0 0 (T_api_Update.mk 0 0 0 0 0)), x_10)
  else
    if (decide ((len l_9) > 0)) = true then
      some ((T_api_Signal.mk 0 0 0 0 0 0 0 0 0 (T_api_Update.mk 0 0 0 0 0)), 2)
    else
      (signal_filled F ({ c_4 with PSM := 0, Source := 0, Dest := 0, MTU := 0, MPS := 0, Credits := 0, Result := 0, Update := (T_api_Update.mk 0 0 0 0 0) }) l_8).bind fun x_11 =>
      (signal_Check F x_11).bind fun x_12 =>
      if (x_12 != 0) = true then
        some ((T_api_Signal.mk 0 0 0 0 0 0 0 0 0 (T_api_Update.mk 0 0 0 0 0)), x_12)
      else
        some (x_11, 0)

def signal_Decode_j3 (F : Nat) (b_1 : (List Int)) (c_4 : T_api_Signal) (x_5 : Int) (x_6 : Int) : Option (T_api_Signal × Int) :=
  (signal_known F c_4.Kind).bind fun x_7 =>
  if (!x_7) = true then
    some ((T_api_Signal.mk 0 0 0 0 0 0 0 0 0 (T_api_Update.mk 0 0 0 0 0)), 12)
  else
    if (c_4.ID == 0) = true then
      some ((T_api_Signal.mk 0 0 0 0 0 0 0 0 0 (T_api_Update.mk 0 0 0 0 0)), 5)
    else
      if (x_5 != x_6) = true then
        some ((T_api_Signal.mk 0 0 0 0 0 0 0 0 0 (T_api_Update.mk 0 0 0 0 0)), 2)
      else
        (sub b_1 4 (len b_1)).bind fun l_15 =>
        (signal_sizes F c_4.Kind).bind fun x_16 =>
        (octets_Take F l_15 x_16).bind fun x_17 =>
        signal_Decode_j4 F c_4 x_17.1 x_17.2.1 x_17.2.2

def signal_Decode_l1 (F : Nat) (x_21 : (List Int)) (x_22 : Int) (x_23 : Int) : Option (Out (Int × Int) (Int)) :=
  if (decide (x_23 < (len x_21))) = true then
    (idx x_21 x_23).bind fun x_24 =>
    some (.next (w64 (x_22 + x_24), w64 (x_23 + 1)))
  else
    some (.done (x_22))

def signal_Decode_j2 (F : Nat) (b_1 : (List Int)) (c_4 : T_api_Signal) (x_5 : Int) : Option (T_api_Signal × Int) :=
  (signal_sizes F c_4.Kind).bind fun x_21 =>
  (iter (fun s => signal_Decode_l1 F x_21 s.1 s.2) F (0, 0)).bind fun o =>
  signal_Decode_j3 F b_1 c_4 x_5 o

def signal_Decode_j1 (F : Nat) (b_1 : (List Int)) (c_4 : T_api_Signal) : Option (T_api_Signal × Int) :=
  (idx b_1 2).bind fun x_25 =>
  (idx b_1 3).bind fun x_26 =>
  (ishl .i64 (w64 x_26) 8).bind fun x_29 =>
  signal_Decode_j2 F b_1 c_4 (ior .i64 (w64 x_25) x_29)

def signal_Decode (F : Nat) (b_1 : (List Int)) : Option (T_api_Signal × Int) :=
  if (decide ((len b_1) < 4)) = true then
    some ((T_api_Signal.mk 0 0 0 0 0 0 0 0 0 (T_api_Update.mk 0 0 0 0 0)), 3)
  else
    (idx b_1 0).bind fun x_30 =>
    (idx b_1 1).bind fun x_31 =>
    signal_Decode_j1 F b_1 (T_api_Signal.mk (w64 x_30) (w64 x_31) 0 0 0 0 0 0 0 (T_api_Update.mk 0 0 0 0 0))

def wirelessref23_Same (F : Nat) (a_1 : (List Int)) (b_2 : (List Int)) : Option (Bool) :=
  some ((str a_1) == (str b_2))

def wirelesslaw34_exampleHolds (F : Nat) : Option (Bool) :=
  (signal_Encode F (T_api_Signal.mk 22 3 0 64 0 0 0 5 0 (T_api_Update.mk 0 0 0 0 0))).bind fun x_1 =>
  (signal_Encode F (T_api_Signal.mk 21 1 0 0 0 0 0 0 2 (T_api_Update.mk 0 0 0 0 0))).bind fun x_2 =>
  (signal_Decode F [1, 7, 2, 0, 1, 0]).bind fun x_3 =>
  (signal_Decode F [1, 0, 2, 0, 0, 0]).bind fun x_4 =>
  (signal_Decode F [99, 1, 0, 0]).bind fun x_5 =>
  (if (x_1.2 == 0) = true then
    (wirelessref23_Same F x_1.1 [22, 3, 4, 0, 64, 0, 5, 0]).bind fun x_13 =>
    some (x_13)
  else
    some (false)).bind fun z_7 =>
  (if (z_7 && (x_2.2 == 0)) = true then
    (wirelessref23_Same F x_2.1 [21, 1, 10, 0, 0, 0, 0, 0, 0, 0, 0, 0, 2, 0]).bind fun x_11 =>
    some (x_11)
  else
    some (false)).bind fun z_9 =>
  some (((z_9 && (x_3.2 == 5)) && (x_4.2 == 5)) && (x_5.2 == 12))

def wirelesslaw34_SignalChecks_j1 (F : Nat) (z_2 : Bool) : Option (Bool) :=
  some z_2

def wirelesslaw34_SignalChecks (F : Nat) (s_1 : T_api_Signal) : Option (Bool) :=
  (signal_Check F s_1).bind fun x_5 =>
  (wirelessref34_Check F s_1).bind fun x_6 =>
  if (x_5 == x_6) = true then
    (wirelesslaw34_exampleHolds F).bind fun x_8 =>
    wirelesslaw34_SignalChecks_j1 F x_8
  else
    wirelesslaw34_SignalChecks_j1 F false

def wirelessref23_Put_j1 (F : Nat) (l_3 : (List Int)) : Option ((List Int)) :=
  some l_3

def wirelessref23_Put_l1 (F : Nat) (size_2 : Int) (x_4 : Int) (l_5 : (List Int)) (x_6 : Int) : Option (Out (Int × (List Int) × Int) ((List Int))) :=
  if (decide (x_6 < size_2)) = true then
    (irem x_4 256).bind fun x_7 =>
    (app 1 l_5 [wu8 x_7]).bind fun l_8 =>
    (iquo .u64 x_4 256).bind fun x_9 =>
    some (.next (x_9, l_8, w64 (x_6 + 1)))
  else
    some (.done (l_5))

def wirelessref23_Put (F : Nat) (n_1 : Int) (size_2 : Int) : Option ((List Int)) :=
  (iter (fun s => wirelessref23_Put_l1 F size_2 s.1 s.2.1 s.2.2) F (n_1, [], 0)).bind fun o =>
  wirelessref23_Put_j1 F o

def wirelessref26_PutUpdate (F : Nat) (u_1 : T_api_Update) : Option ((List Int)) :=
  (wirelessref23_Put F (wu64 u_1.WinSize) 1).bind fun x_2 =>
  (wirelessref23_Put F (wu64 u_1.WinOffset) 2).bind fun x_3 =>
  (app 1 x_2 x_3).bind fun l_4 =>
  (wirelessref23_Put F (wu64 u_1.Interval) 2).bind fun x_5 =>
  (app 1 l_4 x_5).bind fun l_6 =>
  (wirelessref23_Put F (wu64 u_1.Latency) 2).bind fun x_7 =>
  (app 1 l_6 x_7).bind fun l_8 =>
  (wirelessref23_Put F (wu64 u_1.Timeout) 2).bind fun x_9 =>
  (app 1 l_8 x_9).bind fun l_10 =>
  some l_10

def wirelessref34_body_j7 (F : Nat) (l_9 : (List Int)) : Option ((List Int)) :=
  some l_9

def wirelessref34_body_j6 (F : Nat) (s_1 : T_api_Signal) (x_2 : T_wirelessref34_Uses) (l_8 : (List Int)) : Option ((List Int)) :=
  if x_2.Update = true then
    (wirelessref26_PutUpdate F s_1.Update).bind fun x_10 =>
    (app 1 l_8 x_10).bind fun l_11 =>
    wirelessref34_body_j7 F l_11
  else
    wirelessref34_body_j7 F l_8

def wirelessref34_body_j5 (F : Nat) (s_1 : T_api_Signal) (x_2 : T_wirelessref34_Uses) (l_7 : (List Int)) : Option ((List Int)) :=
  if x_2.Result = true then
    (wirelessref23_Put F (wu64 s_1.Result) 2).bind fun x_12 =>
    (app 1 l_7 x_12).bind fun l_13 =>
    wirelessref34_body_j6 F s_1 x_2 l_13
  else
    wirelessref34_body_j6 F s_1 x_2 l_7

def wirelessref34_body_j4 (F : Nat) (s_1 : T_api_Signal) (x_2 : T_wirelessref34_Uses) (l_6 : (List Int)) : Option ((List Int)) :=
  if x_2.Credits = true then
    (wirelessref23_Put F (wu64 s_1.Credits) 2).bind fun x_14 =>
    (app 1 l_6 x_14).bind fun l_15 =>
    wirelessref34_body_j5 F s_1 x_2 l_15
  else
    wirelessref34_body_j5 F s_1 x_2 l_6

def wirelessref34_body_j3 (F : Nat) (s_1 : T_api_Signal) (x_2 : T_wirelessref34_Uses) (l_5 : (List Int)) : Option ((List Int)) :=
  if x_2.Sizes = true then
    (wirelessref23_Put F (wu64 s_1.MTU) 2).bind fun x_16 =>
    (app 1 l_5 x_16).bind fun l_17 =>
    (wirelessref23_Put F (wu64 s_1.MPS) 2).bind fun x_18 =>
    (app 1 l_17 x_18).bind fun l_19 =>
    wirelessref34_body_j4 F s_1 x_2 l_19
  else
    wirelessref34_body_j4 F s_1 x_2 l_5

def wirelessref34_body_j2 (F : Nat) (s_1 : T_api_Signal) (x_2 : T_wirelessref34_Uses) (l_4 : (List Int)) : Option ((List Int)) :=
  if x_2.Dest = true then
    (wirelessref23_Put F (wu64 s_1.Dest) 2).bind fun x_20 =>
    (app 1 l_4 x_20).bind fun l_21 =>
    wirelessref34_body_j3 F s_1 x_2 l_21
  else
    wirelessref34_body_j3 F s_1 x_2 l_4

def wirelessref34_body_j1 (F : Nat) (s_1 : T_api_Signal) (x_2 : T_wirelessref34_Uses) (l_3 : (List Int)) : Option ((List Int)) :=
  if x_2.Source = true then
    (wirelessref23_Put F (wu64 s_1.Source) 2).bind fun x_22 =>
    (app 1 l_3 x_22).bind fun l_23 =>
    wirelessref34_body_j2 F s_1 x_2 l_23
  else
    wirelessref34_body_j2 F s_1 x_2 l_3

def wirelessref34_body (F : Nat) (s_1 : T_api_Signal) : Option ((List Int)) :=
  (wirelessref34_Fields F s_1.Kind).bind fun x_2 =>
  if x_2.PSM = true then
    (wirelessref23_Put F (wu64 s_1.PSM) 2).bind fun x_24 =>
    (app 1 ([] : (List Int)) x_24).bind fun l_25 =>
    wirelessref34_body_j1 F s_1 x_2 l_25
  else
    wirelessref34_body_j1 F s_1 x_2 []

def wirelessref34_Encode (F : Nat) (s_1 : T_api_Signal) : Option ((List Int) × Int) :=
  (wirelessref34_Check F s_1).bind fun x_2 =>
  if (x_2 != 0) = true then
    some ([], x_2)
  else
    (wirelessref34_body F s_1).bind fun x_3 =>
    (app 1 [wu8 s_1.Kind, wu8 s_1.ID, wu8 (len x_3), 0] x_3).bind fun l_4 =>
    some (l_4, 0)

def wirelesslaw34_SignalEncodes (F : Nat) (s_1 : T_api_Signal) : Option (Bool) :=
  (signal_Encode F s_1).bind fun x_2 =>
  (wirelessref34_Encode F s_1).bind fun x_3 =>
  (if (x_2.2 == x_3.2) = true then
    (wirelessref23_Same F x_2.1 x_3.1).bind fun x_11 =>
    some (x_11)
  else
    some (false)).bind fun z_5 =>
  (if z_5 = true then
    (wirelesslaw34_exampleHolds F).bind fun x_9 =>
    some (x_9)
  else
    some (false)).bind fun z_7 =>
  some z_7

def wirelessref23_Num_j1 (F : Nat) (x_4 : Int) : Option (Int) :=
  some x_4

def wirelessref23_Num_l1 (F : Nat) (b_1 : (List Int)) (at_2 : Int) (x_5 : Int) (x_6 : Int) : Option (Out (Int × Int) (Int)) :=
  if (decide (x_6 ≥ 0)) = true then
    (idx b_1 (w64 (at_2 + x_6))).bind fun x_7 =>
    some (.next (wu64 ((wu64 (x_5 * 256)) + (wu64 x_7)), w64 (x_6 - 1)))
  else
    some (.done (x_5))

def wirelessref23_Num (F : Nat) (b_1 : (List Int)) (at_2 : Int) (size_3 : Int) : Option (Int) :=
  (iter (fun s => wirelessref23_Num_l1 F b_1 at_2 s.1 s.2) F (0, w64 (size_3 - 1))).bind fun o =>
  wirelessref23_Num_j1 F o

def wirelessref26_TakeUpdate (F : Nat) (b_1 : (List Int)) (at_2 : Int) : Option (T_api_Update) :=
  (wirelessref23_Num F b_1 at_2 1).bind fun x_3 =>
  (wirelessref23_Num F b_1 (w64 (at_2 + 1)) 2).bind fun x_4 =>
  (wirelessref23_Num F b_1 (w64 (at_2 + 3)) 2).bind fun x_5 =>
  (wirelessref23_Num F b_1 (w64 (at_2 + 5)) 2).bind fun x_6 =>
  (wirelessref23_Num F b_1 (w64 (at_2 + 7)) 2).bind fun x_7 =>
  some (T_api_Update.mk (w64 x_3) (w64 x_4) (w64 x_5) (w64 x_6) (w64 x_7))

def wirelessref34_taken_j7 (F : Nat) (s_1 : T_api_Signal) (x_4 : Int) (x_6 : Int) (x_8 : Int) (c_12 : T_api_Signal) (x_14 : Int) (x_16 : Int) (c_22 : T_api_Signal) : Option (T_api_Signal) :=
  some ({ c_12 with Kind := s_1.Kind, ID := s_1.ID, PSM := x_4, Source := x_6, Dest := x_8, Credits := x_14, Result := x_16, Update := c_22.Update })

def wirelessref34_taken_j6 (F : Nat) (s_1 : T_api_Signal) (b_2 : (List Int)) (x_3 : T_wirelessref34_Uses) (x_4 : Int) (x_6 : Int) (x_8 : Int) (c_12 : T_api_Signal) (x_14 : Int) (x_15 : Int) (x_16 : Int) : Option (T_api_Signal) :=
  if x_3.Update = true then
    (wirelessref26_TakeUpdate F b_2 x_15).bind fun x_23 =>
    wirelessref34_taken_j7 F s_1 x_4 x_6 x_8 c_12 x_14 x_16 ({ c_12 with Kind := s_1.Kind, ID := s_1.ID, PSM := x_4, Source := x_6, Dest := x_8, Credits := x_14, Result := x_16, Update := x_23 })
  else
    wirelessref34_taken_j7 F s_1 x_4 x_6 x_8 c_12 x_14 x_16 ({ s_1 with PSM := x_4, Source := x_6, Dest := x_8, MTU := c_12.MTU, MPS := c_12.MPS, Credits := x_14, Result := x_16 })

def wirelessref34_taken_j5 (F : Nat) (s_1 : T_api_Signal) (b_2 : (List Int)) (x_3 : T_wirelessref34_Uses) (x_4 : Int) (x_6 : Int) (x_8 : Int) (c_12 : T_api_Signal) (x_14 : Int) (x_15 : Int) : Option (T_api_Signal) :=
  if x_3.Result = true then
    (wirelessref23_Num F b_2 x_15 2).bind fun x_24 =>
    wirelessref34_taken_j6 F s_1 b_2 x_3 x_4 x_6 x_8 c_12 x_14 x_15 (w64 x_24)
  else
    wirelessref34_taken_j6 F s_1 b_2 x_3 x_4 x_6 x_8 c_12 x_14 x_15 s_1.Result

def wirelessref34_taken_j4 (F : Nat) (s_1 : T_api_Signal) (b_2 : (List Int)) (x_3 : T_wirelessref34_Uses) (x_4 : Int) (x_6 : Int) (x_8 : Int) (c_12 : T_api_Signal) (x_13 : Int) : Option (T_api_Signal) :=
  if x_3.Credits = true then
    (wirelessref23_Num F b_2 x_13 2).bind fun x_25 =>
    wirelessref34_taken_j5 F s_1 b_2 x_3 x_4 x_6 x_8 c_12 (w64 x_25) (w64 (x_13 + 2))
  else
    wirelessref34_taken_j5 F s_1 b_2 x_3 x_4 x_6 x_8 c_12 s_1.Credits x_13

def wirelessref34_taken_j3 (F : Nat) (s_1 : T_api_Signal) (b_2 : (List Int)) (x_3 : T_wirelessref34_Uses) (x_4 : Int) (x_6 : Int) (x_8 : Int) (x_9 : Int) : Option (T_api_Signal) :=
  if x_3.Sizes = true then
    (wirelessref23_Num F b_2 x_9 2).bind fun x_26 =>
    (wirelessref23_Num F b_2 (w64 (x_9 + 2)) 2).bind fun x_27 =>
    wirelessref34_taken_j4 F s_1 b_2 x_3 x_4 x_6 x_8 ({ s_1 with PSM := x_4, Source := x_6, Dest := x_8, MTU := w64 x_26, MPS := w64 x_27 }) (w64 (x_9 + 4))
  else
    wirelessref34_taken_j4 F s_1 b_2 x_3 x_4 x_6 x_8 ({ s_1 with PSM := x_4, Source := x_6, Dest := x_8 }) x_9

def wirelessref34_taken_j2 (F : Nat) (s_1 : T_api_Signal) (b_2 : (List Int)) (x_3 : T_wirelessref34_Uses) (x_4 : Int) (x_6 : Int) (x_7 : Int) : Option (T_api_Signal) :=
  if x_3.Dest = true then
    (wirelessref23_Num F b_2 x_7 2).bind fun x_28 =>
    wirelessref34_taken_j3 F s_1 b_2 x_3 x_4 x_6 (wu16 x_28) (w64 (x_7 + 2))
  else
    wirelessref34_taken_j3 F s_1 b_2 x_3 x_4 x_6 s_1.Dest x_7

def wirelessref34_taken_j1 (F : Nat) (s_1 : T_api_Signal) (b_2 : (List Int)) (x_3 : T_wirelessref34_Uses) (x_4 : Int) (x_5 : Int) : Option (T_api_Signal) :=
  if x_3.Source = true then
    (wirelessref23_Num F b_2 x_5 2).bind fun x_29 =>
    wirelessref34_taken_j2 F s_1 b_2 x_3 x_4 (wu16 x_29) (w64 (x_5 + 2))
  else
    wirelessref34_taken_j2 F s_1 b_2 x_3 x_4 s_1.Source x_5

def wirelessref34_taken (F : Nat) (s_1 : T_api_Signal) (b_2 : (List Int)) : Option (T_api_Signal) :=
  (wirelessref34_Fields F s_1.Kind).bind fun x_3 =>
  if x_3.PSM = true then
    (wirelessref23_Num F b_2 4 2).bind fun x_30 =>
    wirelessref34_taken_j1 F s_1 b_2 x_3 (wu16 x_30) (w64 (4 + 2))
  else
    wirelessref34_taken_j1 F s_1 b_2 x_3 s_1.PSM 4

def wirelessref34_Decode_j1 (F : Nat) (b_1 : (List Int)) (c_4 : T_api_Signal) : Option (T_api_Signal × Int) :=
  (wirelessref34_Fields F c_4.Kind).bind fun x_5 =>
  if (!x_5.Known) = true then
    some ((T_api_Signal.mk 0 0 0 0 0 0 0 0 0 (T_api_Update.mk 0 0 0 0 0)), 12)
  else
    if (c_4.ID == 0) = true then
      some ((T_api_Signal.mk 0 0 0 0 0 0 0 0 0 (T_api_Update.mk 0 0 0 0 0)), 5)
    else
      (wirelessref34_body F ({ c_4 with PSM := 0, Source := 0, Dest := 0, MTU := 0, MPS := 0, Credits := 0, Result := 0, Update := (T_api_Update.mk 0 0 0 0 0) })).bind fun x_6 =>
      (wirelessref23_Num F b_1 2 2).bind fun x_7 =>
      if ((w64 x_7) != (len x_6)) = true then
        some ((T_api_Signal.mk 0 0 0 0 0 0 0 0 0 (T_api_Update.mk 0 0 0 0 0)), 2)
      else
        if (decide ((w64 ((len b_1) - 4)) < (len x_6))) = true then
          some ((T_api_Signal.mk 0 0 0 0 0 0 0 0 0 (T_api_Update.mk 0 0 0 0 0)), 3)
        else
          if (decide ((w64 ((len b_1) - 4)) > (len x_6))) = true then
            some ((T_api_Signal.mk 0 0 0 0 0 0 0 0 0 (T_api_Update.mk 0 0 0 0 0)), 2)
          else
            (wirelessref34_taken F ({ c_4 with PSM := 0, Source := 0, Dest := 0, MTU := 0, MPS := 0, Credits := 0, Result := 0, Update := (T_api_Update.mk 0 0 0 0 0) }) b_1).bind fun x_8 =>
            (wirelessref34_Check F x_8).bind fun x_9 =>
            if (x_9 != 0) = true then
              some ((T_api_Signal.mk 0 0 0 0 0 0 0 0 0 (T_api_Update.mk 0 0 0 0 0)), x_9)
            else
              some (x_8, 0)

def wirelessref34_Decode (F : Nat) (b_1 : (List Int)) : Option (T_api_Signal × Int) :=
  if (decide ((len b_1) < 4)) = true then
    some ((T_api_Signal.mk 0 0 0 0 0 0 0 0 0 (T_api_Update.mk 0 0 0 0 0)), 3)
  else
    (idx b_1 0).bind fun x_10 =>
    (idx b_1 1).bind fun x_11 =>
    wirelessref34_Decode_j1 F b_1 (T_api_Signal.mk (w64 x_10) (w64 x_11) 0 0 0 0 0 0 0 (T_api_Update.mk 0 0 0 0 0))

def wirelesslaw34_SignalDecodes (F : Nat) (b_1 : (List Int)) : Option (Bool) :=
  if (decide ((len b_1) > 1000)) = true then
    (wirelesslaw34_exampleHolds F).bind fun x_2 =>
    some x_2
  else
    (signal_Decode F b_1).bind fun x_3 =>
    (wirelessref34_Decode F b_1).bind fun x_4 =>
    (if (x_3.2 == x_4.2) = true then
      some (((x_3.1.Kind == x_4.1.Kind) && ((x_3.1.ID == x_4.1.ID) && ((x_3.1.PSM == x_4.1.PSM) && ((x_3.1.Source == x_4.1.Source) && ((x_3.1.Dest == x_4.1.Dest) && ((x_3.1.MTU == x_4.1.MTU) && ((x_3.1.MPS == x_4.1.MPS) && ((x_3.1.Credits == x_4.1.Credits) && ((x_3.1.Result == x_4.1.Result) && ((x_3.1.Update.WinSize == x_4.1.Update.WinSize) && ((x_3.1.Update.WinOffset == x_4.1.Update.WinOffset) && ((x_3.1.Update.Interval == x_4.1.Update.Interval) && ((x_3.1.Update.Latency == x_4.1.Update.Latency) && (x_3.1.Update.Timeout == x_4.1.Update.Timeout)))))))))))))))
    else
      some (false)).bind fun z_6 =>
    (if z_6 = true then
      (wirelesslaw34_exampleHolds F).bind fun x_10 =>
      some (x_10)
    else
      some (false)).bind fun z_8 =>
    some z_8

def wirelesslaw34_SignalBack (F : Nat) (s_1 : T_api_Signal) : Option (Bool) :=
  (signal_Check F s_1).bind fun x_2 =>
  if (x_2 != 0) = true then
    (wirelesslaw34_exampleHolds F).bind fun x_3 =>
    some x_3
  else
    (signal_Encode F s_1).bind fun x_4 =>
    (signal_Decode F x_4.1).bind fun x_5 =>
    (if ((x_4.2 == 0) && (x_5.2 == 0)) = true then
      some (((s_1.Kind == x_5.1.Kind) && ((s_1.ID == x_5.1.ID) && ((s_1.PSM == x_5.1.PSM) && ((s_1.Source == x_5.1.Source) && ((s_1.Dest == x_5.1.Dest) && ((s_1.MTU == x_5.1.MTU) && ((s_1.MPS == x_5.1.MPS) && ((s_1.Credits == x_5.1.Credits) && ((s_1.Result == x_5.1.Result) && ((s_1.Update.WinSize == x_5.1.Update.WinSize) && ((s_1.Update.WinOffset == x_5.1.Update.WinOffset) && ((s_1.Update.Interval == x_5.1.Update.Interval) && ((s_1.Update.Latency == x_5.1.Update.Latency) && (s_1.Update.Timeout == x_5.1.Update.Timeout)))))))))))))))
    else
      some (false)).bind fun z_7 =>
    (if ((z_7 && (decide ((len x_4.1) ≥ 6))) && (decide ((len x_4.1) ≤ 14))) = true then
      (wirelesslaw34_exampleHolds F).bind fun x_11 =>
      some (x_11)
    else
      some (false)).bind fun z_9 =>
    some z_9

def wirelesslaw34_SignalUnique (F : Nat) (b_1 : (List Int)) : Option (Bool) :=
  if (decide ((len b_1) > 1000)) = true then
    (wirelesslaw34_exampleHolds F).bind fun x_2 =>
    some x_2
  else
    (signal_Decode F b_1).bind fun x_3 =>
    if (x_3.2 != 0) = true then
      (if ((x_3.1.Kind == 0) && ((x_3.1.ID == 0) && ((x_3.1.PSM == 0) && ((x_3.1.Source == 0) && ((x_3.1.Dest == 0) && ((x_3.1.MTU == 0) && ((x_3.1.MPS == 0) && ((x_3.1.Credits == 0) && ((x_3.1.Result == 0) && ((x_3.1.Update.WinSize == 0) && ((x_3.1.Update.WinOffset == 0) && ((x_3.1.Update.Interval == 0) && ((x_3.1.Update.Latency == 0) && (x_3.1.Update.Timeout == 0)))))))))))))) = true then
        (wirelesslaw34_exampleHolds F).bind fun x_7 =>
        some (x_7)
      else
        some (false)).bind fun z_5 =>
      some z_5
    else
      (signal_Encode F x_3.1).bind fun x_8 =>
      (if (x_8.2 == 0) = true then
        (wirelessref23_Same F b_1 x_8.1).bind fun x_16 =>
        some (x_16)
      else
        some (false)).bind fun z_10 =>
      (if z_10 = true then
        (wirelesslaw34_exampleHolds F).bind fun x_14 =>
        some (x_14)
      else
        some (false)).bind fun z_12 =>
      some z_12

def signal_Answers (F : Nat) (request_1 : T_api_Signal) (answer_2 : T_api_Signal) : Option (Bool) :=
  if (request_1.ID != answer_2.ID) = true then
    some false
  else
    if (request_1.Kind == 20) = true then
      some ((answer_2.Kind == 21) || (answer_2.Kind == 1))
    else
      if (request_1.Kind == 6) = true then
        some ((answer_2.Kind == 1) || (((answer_2.Kind == 7) && (answer_2.Source == request_1.Source)) && (answer_2.Dest == request_1.Dest)))
      else
        if (request_1.Kind == 18) = true then
          some ((answer_2.Kind == 19) || (answer_2.Kind == 1))
        else
          some false

def wirelessref34_Answers (F : Nat) (request_1 : T_api_Signal) (answer_2 : T_api_Signal) : Option (Bool) :=
  if (request_1.ID != answer_2.ID) = true then
    some false
  else
    if (answer_2.Kind == 1) = true then
      some (((request_1.Kind == 20) || (request_1.Kind == 6)) || (request_1.Kind == 18))
    else
      if (request_1.Kind == 20) = true then
        some (answer_2.Kind == 21)
      else
        if (request_1.Kind == 6) = true then
          some (((answer_2.Kind == 7) && (answer_2.Source == request_1.Source)) && (answer_2.Dest == request_1.Dest))
        else
          if (request_1.Kind == 18) = true then
            some (answer_2.Kind == 19)
          else
            some false

def wirelesslaw34_SignalAnswers_j1 (F : Nat) (z_3 : Bool) : Option (Bool) :=
  some z_3

def wirelesslaw34_SignalAnswers (F : Nat) (request_1 : T_api_Signal) (answer_2 : T_api_Signal) : Option (Bool) :=
  (signal_Answers F request_1 answer_2).bind fun x_6 =>
  (wirelessref34_Answers F request_1 answer_2).bind fun x_7 =>
  if (x_6 == x_7) = true then
    (wirelesslaw34_exampleHolds F).bind fun x_9 =>
    wirelesslaw34_SignalAnswers_j1 F x_9
  else
    wirelesslaw34_SignalAnswers_j1 F false

def wirelesslaw34_SignalEnds (F : Nat) (a_1 : T_api_Signal) (b_2 : T_api_Signal) (c_3 : T_api_Signal) : Option (Bool) :=
  (signal_Answers F a_1 b_2).bind fun x_4 =>
  if (!x_4) = true then
    (wirelesslaw34_exampleHolds F).bind fun x_5 =>
    some x_5
  else
    (if ((((a_1.Kind == 20) || (a_1.Kind == 6)) || (a_1.Kind == 18)) && (a_1.ID == b_2.ID)) = true then
      (signal_Answers F b_2 c_3).bind fun x_17 =>
      some ((!x_17))
    else
      some (false)).bind fun z_7 =>
    (if z_7 = true then
      (signal_Answers F b_2 a_1).bind fun x_15 =>
      some ((!x_15))
    else
      some (false)).bind fun z_9 =>
    (if z_9 = true then
      (wirelesslaw34_exampleHolds F).bind fun x_13 =>
      some (x_13)
    else
      some (false)).bind fun z_11 =>
    some z_11

end V
end Go.Proofs.Ytndnilndhmalfaa
