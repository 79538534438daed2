/-
  Walks, written by program: each Go function returns what its pure twin says.
-/
import Derived.Test.YtbdhonofhlpdoaaDoorW1
namespace Go.Proofs.YtbdhonofhlpdoaaDoor
namespace V
theorem ok_wirelessref09_Resolves (F : Nat) (irk_1 : Int) (a_2 : T_api_Address) (r : Bool) (hp : wirelessref09_Resolves F irk_1 a_2 = some r) : Spec Tryd.prog 79 [vi .u64 irk_1, .g (C_api_Address a_2)] [] (vb r) [] := by
 refine Spec.enter Tryd.func79 rfl Tryd.ntmps79 rfl rfl fun fx => ?_
 refine SC.seq ?_
 refine SC.reg ?_
 refine SL.eff (e_box (E := 24) (C_api_Address a_2) (by kernel_rfl)) rfl (by kernel_rfl) ?_
 refine SL.sim tk 1 [(0, vi .u64 irk_1), (3, vp 0 0)] [] [] [] (by kernel_rfl) ?_
 refine SL.nilThen ?_
 refine SC.seq ?_
 refine SC.seq ?_
 refine SC.reg ?_
 refine SL.sim tk 8 [(0, vi .u64 irk_1), (3, vp 0 0), (12, vb ((irk_1 == 0) || (a_2.Kind != 3)))] [] [] [] (by kernel_rfl) ?_
 obtain ⟨z_4, hz, hpr⟩ := bind_inv hp
 clear hp
 refine SL.cutAt 4 (fun a w => A 27 0 fx [(0, vi .u64 irk_1), (3, vp 0 0), (16, vb z_4)] [.blk 24 (C_api_Address a_2)] a w) ?_ ?_
 · have hp := hz
   rcases Bool.eq_false_or_eq_true (((irk_1 == 0) || (a_2.Kind != 3))) with hg_3 | hg_3
   · replace hp := if_t hp hg_3
     refine SL.no rfl rfl hg_3 rfl ?_
     refine SL.no rfl rfl hg_3 rfl ?_
     refine SL.no rfl rfl hg_3 rfl ?_
     refine SL.pickt rfl hg_3 rfl rfl ?_
     refine SL.nilJ fun a w h => ?_
     obtain rfl := some_inv' hp
     exact h.at (js := [.g 0]) (by kernel_rfl)
   · replace hp := if_f hp hg_3
     refine SL.yes rfl rfl hg_3 ?_
     refine SL.sim tk 1 [(0, vi .u64 irk_1), (3, vp 0 0), (12, vb ((irk_1 == 0) || (a_2.Kind != 3))), (13, .g (C_api_Address a_2))] [] [] [] (by kernel_rfl) ?_
     refine SL.yes rfl rfl hg_3 ?_
     obtain ⟨x_10, e_x_10, hp⟩ := bind_inv hp
     refine SL.eff (e_c Tryd.call49 (ok_wirelessref08_Check F a_2 _ e_x_10) [] [.g (C_api_Address a_2)] (vi .i64 x_10) (by kernel_rfl) (.inl rfl)) rfl (by kernel_rfl) ?_
     refine SL.yes rfl rfl hg_3 ?_
     refine SL.sim tk 1 [(0, vi .u64 irk_1), (3, vp 0 0), (12, vb ((irk_1 == 0) || (a_2.Kind != 3))), (15, vb (x_10 != 0))] [] [] [] (by kernel_rfl) ?_
     refine SL.pickf rfl hg_3 rfl rfl ?_
     refine SL.nilJ fun a w h => ?_
     obtain rfl := some_inv' hp
     exact h.at (js := [.g 0]) (by kernel_rfl)
 · intro a w h
   have hp := hpr; clear hpr hz
   refine h.goL ?_
   refine SL.nilThen ?_
   refine SC.if' rfl hp (fun hp => ?_) (fun hp => ?_)
   · refine SC.r tk [(4, vb false)] [] [] [] (by kernel_rfl) ?_
     obtain rfl := some_inv' hp
     exact SC.re (js := []) tk (by kernel_rfl)
   · refine SC.skipThen ?_
     refine SC.cut (fun a w => ∃ (z_5 : Bool), wirelessref09_Resolves_j1 F z_5 = some r ∧ A 27 0 fx [(4, vb z_5)] [] a w) ?_ ?_
     · refine SC.draw MO [true] (by kernel_rfl) fun kap_6 D_7 => ?_
       refine SD.takes tk D_7 [] kn0 [0, 1, 2, 3, 4, 5, 6, 7] [.bin .rem .u64 a_2.Bits 16777216 (remp a_2.Bits 16777216) (by kernel_rfl), .bin .quo .u64 a_2.Bits 16777216 (quop .u64 a_2.Bits 16777216) (by kernel_rfl), .bin .rem .u64 (quop .u64 a_2.Bits 16777216) 4194304 (remp (quop .u64 a_2.Bits 16777216) 4194304) (by kernel_rfl)] [a_2.Bits, 16777216, a_2.Bits, 16777216, (quop .u64 a_2.Bits 16777216), 4194304] [I, I, I, I, I, I, I, I, O, O, O] [(19, vi .u64 (remp a_2.Bits 16777216)), (20, vi .u64 irk_1), (24, vi .u64 (remp (quop .u64 a_2.Bits 16777216) 4194304))] rfl (by kernel_rfl) (by kernel_rfl) (by kernel_rfl) ?_
       obtain ⟨x_8, e_x_8, hp⟩ := bind_inv hp
       refine SD.all1 (i := 8) (by kernel_rfl) ?_
       refine SW.eff D_7 (i := 8) (bs' := [I, I, I, I, I, I, I, I, I, O, O]) rfl (.inl rfl) rfl (e_c Tryd.call93 (ok_wirelessref09_Hash F irk_1 (remp (quop .u64 a_2.Bits 16777216) 4194304) _ e_x_8) [] [vi .u64 irk_1, vi .u64 (remp (quop .u64 a_2.Bits 16777216) 4194304)] (vi .u64 x_8) (by kernel_rfl) (.inl rfl)) (by kernel_rfl) rfl (by kernel_rfl) ?_
       refine SD.takes tk D_7 [] kn0 [9, 10] [] [] [I, I, I, I, I, I, I, I, I, I, I] [(4, vb ((remp a_2.Bits 16777216) == x_8))] rfl (by kernel_rfl) (by kernel_rfl) (by kernel_rfl) ?_
       refine SD.done (by kernel_rfl) fun a w h => ?_
       exact ⟨((remp a_2.Bits 16777216) == x_8), hp, h.at (js := []) (by kernel_rfl)⟩
     · rintro a w ⟨z_5, hp, h⟩
       refine h.go ?_
       obtain rfl := some_inv' hp
       exact SC.re (js := []) tk (by kernel_rfl)

theorem ok_wirelessref09_Find (F : Nat) (list_1 : (List T_api_Identity)) (a_2 : T_api_Address) (r : Int) (hp : wirelessref09_Find F list_1 a_2 = some r) : Spec Tryd.prog 58 [vs 0, .g (C_api_Address a_2)] [.rd 3 R_T_api_Identity list_1] (vi .i64 r) [.gone] := by
 refine Spec.enter Tryd.func58 rfl Tryd.ntmps58 rfl rfl fun fx => ?_
 refine SC.seq ?_
 refine SC.reg ?_
 refine SL.eff (e_box (E := 24) (C_api_Address a_2) (by kernel_rfl)) rfl (by kernel_rfl) ?_
 refine SL.sim tk 1 [(0, vs 0), (3, vp 1 0)] [] [] [] (by kernel_rfl) ?_
 refine SL.nilThen ?_
 refine SC.seq ?_
 refine SC.seq ?_
 refine SC.reg ?_
 refine SL.sim tk 1 [(0, vs 0), (3, vp 1 0), (6, .g (C_api_Address a_2))] [] [] [] (by kernel_rfl) ?_
 obtain ⟨x_3, e_x_3, hp⟩ := bind_inv hp
 refine SL.eff (e_c Tryd.call49 (ok_wirelessref08_Check F a_2 _ e_x_3) [] [.g (C_api_Address a_2)] (vi .i64 x_3) (by kernel_rfl) (.inl rfl)) rfl (by kernel_rfl) ?_
 refine SL.sim tk 1 [(0, vs 0), (3, vp 1 0), (8, vb (x_3 != 0))] [] [] [] (by kernel_rfl) ?_
 refine SL.nilThen ?_
 refine SC.if' rfl hp (fun hp => ?_) (fun hp => ?_)
 · refine SC.r tk [(4, vi .i64 (-1))] [] [] [] (by kernel_rfl) ?_
   obtain rfl := some_inv' hp
   exact SC.re (js := [.g 0]) tk (by kernel_rfl)
 · refine SC.skipThen ?_
   refine SC.cut (fun a w => wirelessref09_Find_j1 F = some r ∧ A 32 1 fx [] [.gone] a w) ?_ ?_
   · refine SC.r tk [(0, vs 0), (3, vp 1 0), (5, vi .i64 0)] [] [] [] (by kernel_rfl) ?_
     refine SC.block ?_
     obtain ⟨o1, hi1, ho1⟩ := bind_inv hp
     clear hp
     refine SC.loop (fun n a w => ∃ (x_4 : Int), iter (fun s => wirelessref09_Find_l1 F list_1 a_2 s) n (x_4) = some o1 ∧ A 32 1 fx [(0, vs 0), (3, vp 1 0), (5, vi .i64 x_4)] [.rd 3 R_T_api_Identity list_1, .blk 24 (C_api_Address a_2)] a w) F (fun a w h => ⟨0, hi1, h.at (js := [.g 0, .g 1]) (by kernel_rfl)⟩) ?_
     rintro n1 a w ⟨x_4, hi1, h⟩
     obtain ⟨n1, q1, rfl, hp, hs1⟩ := iter_inv hi1
     replace hp : wirelessref09_Find_l1 F list_1 a_2 x_4 = some q1 := hp
     clear hi1
     refine h.go ?_
     refine SC.seq ?_
     refine SC.r tk [(0, vs 0), (3, vp 1 0), (5, vi .i64 x_4), (12, vb (decide (x_4 < (len list_1))))] [] [] [] (by kernel_rfl) ?_
     refine SC.if' rfl hp (fun hp => ?_) (fun hp => ?_)
     · refine SC.skipThen ?_
       refine SC.seq ?_
       refine SC.block ?_
       refine SC.cut (fun a w => ∃ (z_5 : Bool), wirelessref09_Find_j2 F x_4 z_5 = some q1 ∧ A 32 1 fx [(0, vs 0), (3, vp 1 0), (5, vi .i64 x_4), (30, vb z_5)] [.rd 3 R_T_api_Identity list_1, .blk 24 (C_api_Address a_2)] a w) ?_ ?_
       · obtain ⟨x_6, e_x_6, hp⟩ := bind_inv hp
         refine SC.pre (pre_ix (i := 0) (iv := x_4) (sz := 3) (R := R_T_api_Identity) (l := list_1) (by kernel_rfl) rfl e_x_6) ?_
         refine SC.draw MO [true, true, true] (by kernel_rfl) fun kap_7 D_8 => ?_
         refine SD.takes tk D_8 [] kn0 [0, 1, 2, 3, 4, 5] [.el 2] [x_4] [I, I, I, I, I, I, O, O, O, O, O, O, O, O, O, O] [(0, vs 0), (3, vp 1 0), (5, vi .i64 x_4), (19, .g (C_api_Address x_6.Address)), (20, .g (C_api_Address a_2))] rfl (by kernel_rfl) (by kernel_rfl) (by kernel_rfl) ?_
         refine SD.all1 (i := 6) (by kernel_rfl) ?_
         refine SW.eff D_8 (i := 6) (bs' := [I, I, I, I, I, I, I, O, O, O, O, O, O, O, O, O]) rfl (.inl rfl) rfl (e_eqs tk (cs := (C_api_Address x_6.Address)) (ds := (C_api_Address a_2)) [(x_6.Address.Kind == a_2.Kind), (x_6.Address.Bits == a_2.Bits)] ((x_6.Address.Kind == a_2.Kind) && (x_6.Address.Bits == a_2.Bits)) rfl rfl (by kernel_rfl) (by kernel_rfl) (by kernel_rfl) (.inl ⟨rfl, (by kernel_rfl)⟩)) (by kernel_rfl) rfl (by kernel_rfl) ?_
         refine SD.takes tk D_8 [] kn0 [7] [] [] [I, I, I, I, I, I, I, I, O, O, O, O, O, O, O, O] [(0, vs 0), (3, vp 1 0), (5, vi .i64 x_4), (22, vb ((x_6.Address.Kind == a_2.Kind) && (x_6.Address.Bits == a_2.Bits)))] rfl (by kernel_rfl) (by kernel_rfl) (by kernel_rfl) ?_
         rcases Bool.eq_false_or_eq_true (((x_6.Address.Kind == a_2.Kind) && (x_6.Address.Bits == a_2.Bits))) with hg_9 | hg_9
         · replace hp := if_t hp hg_9
           refine SD.takes tk D_8 [(22, true)] (knS rfl hg_9 kn0) [8, 9, 10, 11, 12, 13, 14, 15] [] [] [I, I, I, I, I, I, I, I, I, I, I, I, I, I, I, I] [(0, vs 0), (3, vp 1 0), (5, vi .i64 x_4), (23, .u []), (24, .u []), (25, .u []), (26, .u []), (27, .u []), (28, .u []), (29, .u []), (30, vb true)] rfl (by kernel_rfl) (by kernel_rfl) (by kernel_rfl) ?_
           refine SD.done (by kernel_rfl) fun a w h => ?_
           exact ⟨true, hp, h.at (js := [.g 0, .g 1]) (by kernel_rfl)⟩
         · replace hp := if_f hp hg_9
           refine SD.takes tk D_8 [(22, false)] (knS rfl hg_9 kn0) [8, 9, 13] [] [] [I, I, I, I, I, I, I, I, I, I, O, O, O, I, O, O] [(0, vs 0), (3, vp 1 0), (5, vi .i64 x_4), (22, vb ((x_6.Address.Kind == a_2.Kind) && (x_6.Address.Bits == a_2.Bits))), (23, vs 0), (24, vi .i64 x_4), (28, .g (C_api_Address a_2))] rfl (by kernel_rfl) (by kernel_rfl) (by kernel_rfl) ?_
           obtain ⟨x_10, e_x_10, hp⟩ := bind_inv hp
           refine SD.pre (pre_ix (i := 0) (iv := x_4) (sz := 3) (R := R_T_api_Identity) (l := list_1) (by kernel_rfl) rfl e_x_10) ?_
           refine SD.all1 (i := 10) (by kernel_rfl) ?_
           refine SW.eff D_8 (i := 10) (v := vp 3 0) (bs' := [I, I, I, I, I, I, I, I, I, I, I, O, O, I, O, O]) rfl (.inr ⟨_, _, _, _, rfl, rfl, rfl, hg_9⟩) rfl (e_valE tk (.el 3) [x_4] (by kernel_rfl)) (by kernel_rfl) rfl (by kernel_rfl) ?_
           refine SD.norm (itsN := [.rd 3 R_T_api_Identity list_1, .blk 24 (C_api_Address a_2), .elt (some (0, x_4)) false (C_api_Identity x_6), .elt (some (0, x_4)) false (C_api_Identity x_10)]) (by kernel_rfl) ?_
           refine SD.all1 (i := 11) (by kernel_rfl) ?_
           refine SW.eff D_8 (i := 11) (v := vp 3 2) (bs' := [I, I, I, I, I, I, I, I, I, I, I, I, O, I, O, O]) rfl (.inr ⟨_, _, _, _, rfl, rfl, rfl, hg_9⟩) rfl (e_val tk (by kernel_rfl)) (by kernel_rfl) rfl (by kernel_rfl) ?_
           refine SD.all1 (i := 12) (by kernel_rfl) ?_
           refine SW.eff D_8 (i := 12) (v := vi .u64 x_10.IRK) (bs' := [I, I, I, I, I, I, I, I, I, I, I, I, I, I, O, O]) rfl (.inr ⟨_, _, _, _, rfl, rfl, rfl, hg_9⟩) rfl (e_val tk (by kernel_rfl)) (by kernel_rfl) rfl (by kernel_rfl) ?_
           refine SD.norm (itsN := [.rd 3 R_T_api_Identity list_1, .blk 24 (C_api_Address a_2), .elt (some (0, x_4)) false (C_api_Identity x_6), .elt (some (0, x_4)) false (C_api_Identity x_10)]) (by kernel_rfl) ?_
           obtain ⟨x_11, e_x_11, hp⟩ := bind_inv hp
           refine SD.all1 (i := 14) (by kernel_rfl) ?_
           refine SW.eff D_8 (i := 14) (bs' := [I, I, I, I, I, I, I, I, I, I, I, I, I, I, I, O]) rfl (.inr ⟨_, _, _, _, rfl, rfl, rfl, hg_9⟩) rfl (e_c Tryd.call79 (ok_wirelessref09_Resolves F x_10.IRK a_2 _ e_x_11) [] [vi .u64 x_10.IRK, .g (C_api_Address a_2)] (vb x_11) (by kernel_rfl) (.inl rfl)) (by kernel_rfl) rfl (by kernel_rfl) ?_
           refine SD.takes tk D_8 [(22, false)] (knS rfl hg_9 kn0) [15] [] [] [I, I, I, I, I, I, I, I, I, I, I, I, I, I, I, I] [(0, vs 0), (3, vp 1 0), (5, vi .i64 x_4), (23, vs 0), (24, vi .i64 x_4), (25, vp 3 0), (26, vp 3 2), (27, vi .u64 x_10.IRK), (28, .g (C_api_Address a_2)), (29, vb x_11), (30, vb x_11)] rfl (by kernel_rfl) (by kernel_rfl) (by kernel_rfl) ?_
           refine SD.done (by kernel_rfl) fun a w h => ?_
           exact ⟨x_11, hp, h.at (js := [.g 0, .g 1]) (by kernel_rfl)⟩
       · rintro a w ⟨z_5, hp, h⟩
         refine h.go ?_
         refine SC.if' rfl hp (fun hp => ?_) (fun hp => ?_)
         · refine SC.r tk [(4, vi .i64 x_4)] [] [] [] (by kernel_rfl) ?_
           have ho := done_inv hp hs1
           replace hp := ho1
           try rw [ho] at hp
           obtain rfl := some_inv' hp
           exact SC.re (js := [.g 0]) tk (by kernel_rfl)
         · refine SC.skipThen ?_
           refine SC.reg ?_
           refine SL.sim tk 3 [(0, vs 0), (3, vp 1 0), (5, vi .i64 (w64 (x_4 + 1)))] [] [] [] (by kernel_rfl) ?_
           refine SL.nilJ fun a w h => ?_
           exact ⟨n1, Nat.lt_succ_self _, w64 (x_4 + 1), next_inv hp hs1, h.at (js := [.g 0, .g 1]) (by kernel_rfl)⟩
     · refine SC.exitJ rfl fun a w h => ?_
       have ho := done_inv hp hs1
       replace hp := ho1
       try rw [ho] at hp
       exact ⟨hp, h.at (js := [.g 0]) (by kernel_rfl)⟩
   · rintro a w ⟨hp, h⟩
     refine h.go ?_
     refine SC.r tk [(4, vi .i64 (-1))] [] [] [] (by kernel_rfl) ?_
     obtain rfl := some_inv' hp
     exact SC.re (js := [.g 0]) tk (by kernel_rfl)

theorem ok_wirelessref40_Find (F : Nat) (l_1 : (List T_api_Bond)) (a_2 : T_api_Address) (r : Int) (hp : wirelessref40_Find F l_1 a_2 = some r) : Spec Tryd.prog 26 [vs 0, .g (C_api_Address a_2)] [.rd 10 R_T_api_Bond l_1] (vi .i64 r) [.gone] := by
 refine Spec.enter Tryd.func26 rfl Tryd.ntmps26 rfl rfl fun fx => ?_
 refine SC.seq ?_
 refine SC.reg ?_
 refine SL.eff (e_box (E := 24) (C_api_Address a_2) (by kernel_rfl)) rfl (by kernel_rfl) ?_
 refine SL.sim tk 1 [(0, vs 0), (3, vp 1 0)] [] [] [] (by kernel_rfl) ?_
 refine SL.nilThen ?_
 refine SC.seq ?_
 refine SC.reg ?_
 refine SL.eff (e_lit (sz := 3) (E := 27) (R := R_T_api_Identity) (by_ := 24) tk [] ([] : (List T_api_Identity)) (by kernel_rfl) trivial rfl (by kernel_rfl) (by kernel_rfl)) rfl (by kernel_rfl) ?_
 refine SL.sim tk 1 [(0, vs 0), (3, vp 1 0), (5, vs 2)] [] [] [] (by kernel_rfl) ?_
 refine SL.nilThen ?_
 refine SC.cut (fun a w => ∃ (l_3 : (List T_api_Identity)), wirelessref40_Find_j1 F a_2 l_3 = some r ∧ A 25 1 fx [(3, vp 1 0), (5, vs 2)] [.gone, .blk 24 (C_api_Address a_2), .own 3 27 R_T_api_Identity l_3] a w) ?_ ?_
 · refine SC.r tk [(0, vs 0), (3, vp 1 0), (5, vs 2), (6, vi .i64 0)] [] [] [] (by kernel_rfl) ?_
   refine SC.block ?_
   obtain ⟨o1, hi1, ho1⟩ := bind_inv hp
   clear hp
   refine SC.loop (fun n a w => ∃ (l_5 : (List T_api_Identity)) (x_6 : Int), iter (fun s => wirelessref40_Find_l1 F l_1 s.1 s.2) n (l_5, x_6) = some o1 ∧ A 25 1 fx [(0, vs 0), (3, vp 1 0), (5, vs 2), (6, vi .i64 x_6)] [.rd 10 R_T_api_Bond l_1, .blk 24 (C_api_Address a_2), .own 3 27 R_T_api_Identity l_5] a w) F (fun a w h => ⟨([] : (List T_api_Identity)), 0, hi1, h.at (js := [.g 0, .g 1, .g 2]) (by kernel_rfl)⟩) ?_
   rintro n1 a w ⟨l_5, x_6, hi1, h⟩
   obtain ⟨n1, q1, rfl, hp, hs1⟩ := iter_inv hi1
   replace hp : wirelessref40_Find_l1 F l_1 l_5 x_6 = some q1 := hp
   clear hi1
   refine h.go ?_
   refine SC.seq ?_
   refine SC.r tk [(0, vs 0), (3, vp 1 0), (5, vs 2), (6, vi .i64 x_6), (11, vb (decide (x_6 < (len l_1))))] [] [] [] (by kernel_rfl) ?_
   refine SC.if' rfl hp (fun hp => ?_) (fun hp => ?_)
   · refine SC.skipThen ?_
     refine SC.seq ?_
     refine SC.block ?_
     refine SC.reg ?_
     obtain ⟨x_7, e_x_7, hp⟩ := bind_inv hp
     refine SL.pre (pre_ix (i := 0) (iv := x_6) (sz := 10) (R := R_T_api_Bond) (l := l_1) (by kernel_rfl) rfl e_x_7) ?_
     refine SL.sim tk 6 [(0, vs 0), (3, vp 1 0), (5, vs 2), (6, vi .i64 x_6), (14, vs 2), (19, .g (C_api_Identity x_7.Peer))] [] [.el 3] [x_6] (by kernel_rfl) ?_
     refine SL.eff (e_lit (sz := 3) (E := 27) (R := R_T_api_Identity) (by_ := 24) tk [(C_api_Identity x_7.Peer)] [x_7.Peer] (by kernel_rfl) ⟨(clo_T_api_Identity (x := x_7.Peer)), trivial⟩ rfl (by kernel_rfl) (by kernel_rfl)) rfl (by kernel_rfl) ?_
     obtain ⟨l_8, e_l_8, hp⟩ := bind_inv hp
     refine SL.eff (e_app (i := 2) (l := l_5) (sz := 3) (E := 27) (R := R_T_api_Identity) (by_ := 24) (m := [x_7.Peer]) tk rfl (by kernel_rfl) rfl (.o 27 (by kernel_rfl)) e_l_8 (by kernel_rfl)) rfl (by kernel_rfl) ?_
     refine SL.sim tk 1 [(0, vs 0), (3, vp 1 0), (5, vs 6), (6, vi .i64 x_6)] [] [] [] (by kernel_rfl) ?_
     refine SL.nilThen ?_
     refine SC.reg ?_
     refine SL.sim tk 3 [(0, vs 0), (3, vp 1 0), (5, vs 6), (6, vi .i64 (w64 (x_6 + 1)))] [] [] [] (by kernel_rfl) ?_
     refine SL.nilJ fun a w h => ?_
     exact ⟨n1, Nat.lt_succ_self _, l_8, w64 (x_6 + 1), next_inv hp hs1, h.at (js := [.g 0, .g 1, .g 6]) (by kernel_rfl)⟩
   · refine SC.exitJ rfl fun a w h => ?_
     have ho := done_inv hp hs1
     replace hp := ho1
     try rw [ho] at hp
     exact ⟨l_5, hp, h.at (js := [.g 0, .g 1, .g 2]) (by kernel_rfl)⟩
 · rintro a w ⟨l_3, hp, h⟩
   refine h.go ?_
   refine SC.seq ?_
   refine SC.reg ?_
   refine SL.sim tk 2 [(22, vs 2), (23, .g (C_api_Address a_2))] [] [] [] (by kernel_rfl) ?_
   obtain ⟨x_4, e_x_4, hp⟩ := bind_inv hp
   refine SL.eff (e_c Tryd.call58 (ok_wirelessref09_Find F l_3 a_2 _ e_x_4) [.l 2] [vs 2, .g (C_api_Address a_2)] (vi .i64 x_4) (by kernel_rfl) (.inr ⟨trivial, trivial⟩)) rfl (by kernel_rfl) ?_
   refine SL.sim tk 1 [(4, vi .i64 x_4)] [] [] [] (by kernel_rfl) ?_
   refine SL.nilThen ?_
   obtain rfl := some_inv' hp
   exact SC.re (js := [.g 0]) tk (by kernel_rfl)

theorem ok_wirelesslaw40_BondsChanges (F : Nat) (l_1 : (List T_api_Bond)) (b_2 : T_api_Bond) (a_3 : T_api_Address) (i_4 : Int) (r : Bool) (hp : wirelesslaw40_BondsChanges F l_1 b_2 a_3 i_4 = some r) : Spec Tryd.prog 4 [vs 0, .g (C_api_Bond b_2 (.s 1)), .g (C_api_Address a_3), vi .i64 i_4] [.rd 10 R_T_api_Bond l_1, .rd 2 R_T_api_Subscription b_2.Subs] (vb r) [.gone, .gone] := by
 refine Spec.enter Tryd.func4 rfl Tryd.ntmps4 rfl rfl fun fx => ?_
 refine SC.seq ?_
 refine SC.reg ?_
 refine SL.eff (e_box (E := 30) (C_api_Bond b_2 (.s 1)) (by kernel_rfl)) rfl (by kernel_rfl) ?_
 refine SL.eff (e_box (E := 24) (C_api_Address a_3) (by kernel_rfl)) rfl (by kernel_rfl) ?_
 refine SL.sim tk 1 [(0, vs 0), (3, vi .i64 i_4), (5, vp 2 0), (6, vp 3 0)] [] [] [] (by kernel_rfl) ?_
 refine SL.nilThen ?_
 refine SC.seq ?_
 refine SC.seq ?_
 refine SC.reg ?_
 obtain ⟨x_5, e_x_5, hp⟩ := bind_inv hp
 refine SL.eff (e_c Tryd.call8 (ok_wirelesslaw40_lives F  _ e_x_5) [] [] (vb x_5) (by kernel_rfl) (.inl rfl)) rfl (by kernel_rfl) ?_
 refine SL.norm (itsN := [.rd 10 R_T_api_Bond l_1, .rd 2 R_T_api_Subscription b_2.Subs, .blk 30 (C_api_Bond b_2 (.s 1)), .blk 24 (C_api_Address a_3)]) (by kernel_rfl) ?_
 refine SL.sim tk 1 [(0, vs 0), (3, vi .i64 i_4), (5, vp 2 0), (6, vp 3 0), (20, vb (!x_5))] [] [] [] (by kernel_rfl) ?_
 refine SL.nilThen ?_
 refine SC.if' rfl hp (fun hp => ?_) (fun hp => ?_)
 · refine SC.r tk [(8, vb false)] [] [] [] (by kernel_rfl) ?_
   obtain rfl := some_inv' hp
   exact SC.re (js := [.g 0, .g 1]) tk (by kernel_rfl)
 · refine SC.skipThen ?_
   refine SC.seq ?_
   refine SC.seq ?_
   refine SC.reg ?_
   refine SL.sim tk 1 [(0, vs 0), (3, vi .i64 i_4), (5, vp 2 0), (6, vp 3 0), (21, vs 0)] [] [] [] (by kernel_rfl) ?_
   obtain ⟨x_6, e_x_6, hp⟩ := bind_inv hp
   refine SL.eff (e_c Tryd.call17 (ok_wirelessref40_Valid F l_1 _ e_x_6) [.g 0] [vs 0] (vb x_6) (by kernel_rfl) (.inl rfl)) rfl (by kernel_rfl) ?_
   refine SL.sim tk 7 [(0, vs 0), (3, vi .i64 i_4), (5, vp 2 0), (6, vp 3 0), (29, vb ((!x_6) || (decide ((len b_2.Subs) > 64))))] [] [] [] (by kernel_rfl) ?_
   refine SL.nilThen ?_
   refine SC.if' rfl hp (fun hp => ?_) (fun hp => ?_)
   · refine SC.r tk [(8, vb true)] [] [] [] (by kernel_rfl) ?_
     obtain rfl := some_inv' hp
     exact SC.re (js := [.g 0, .g 1]) tk (by kernel_rfl)
   · refine SC.skipThen ?_
     refine SC.cut (fun a w => ∃ (l_7 : (List T_api_Bond)) (x_8 : Int) (x_9 : Int), wirelesslaw40_BondsChanges_j1 F l_1 b_2 a_3 i_4 l_7 x_8 x_9 = some r ∧ A 105 2 fx [(0, vs 0), (3, vi .i64 i_4), (5, vp 2 0), (6, vp 3 0), (9, vs 4), (10, vi .i64 x_8), (11, vi .i64 x_9)] [.rd 10 R_T_api_Bond l_1, .rd 2 R_T_api_Subscription b_2.Subs, .blk 30 (C_api_Bond b_2 (.s 1)), .blk 24 (C_api_Address a_3), .rd 10 R_T_api_Bond l_7] a w) ?_ ?_
     · refine SC.draw MO [true, true, true, true] (by kernel_rfl) fun kap_41 D_42 => ?_
       refine SD.takes tk D_42 [] kn0 [0, 2] [] [] [I, O, I, O, O, O, O, O, O, O, O, O, O, O, O] [(0, vs 0), (3, vi .i64 i_4), (5, vp 2 0), (6, vp 3 0), (31, vs 0), (33, .g (C_api_Bond b_2 (.s 1)))] rfl (by kernel_rfl) (by kernel_rfl) (by kernel_rfl) ?_
       obtain ⟨x_123, e_x_123, hp⟩ := bind_inv hp
       obtain ⟨x_363, e_x_363, hp⟩ := bind_inv hp
       obtain ⟨x_443, e_x_443, hp⟩ := bind_inv hp
       obtain ⟨x_523, e_x_523, hp⟩ := bind_inv hp
       obtain ⟨x_603, e_x_603, hp⟩ := bind_inv hp
       refine SD.lay 0 [I, I, I, I, I, I, I, I, I, I, I, I, I, I, I] [(0, vs 0), (3, vi .i64 i_4), (5, vp 2 0), (6, vp 3 0), (9, vs 9), (10, vi .i64 x_603.2.1), (11, vi .i64 x_603.2.2)] [.rd 10 R_T_api_Bond l_1, .rd 2 R_T_api_Subscription b_2.Subs, .blk 30 (C_api_Bond b_2 (.s 1)), .blk 24 (C_api_Address a_3), .gone, .gone, .gone, .gone, .gone, .rd 10 R_T_api_Bond x_603.1] ?_ (fun c_42_0 => ?_)
       · refine SD.done (by kernel_rfl) fun a w h => ?_
         exact ⟨x_603.1, x_603.2.1, x_603.2.2, hp, h.at (js := [.g 0, .g 1, .g 2, .g 3, .g 9]) (by kernel_rfl)⟩
       · refine SD.lay 8 [I, I, I, I, I, I, I, O, O, O, O, O, O, O, O] [(0, vs 0), (3, vi .i64 i_4), (5, vp 2 0), (6, vp 3 0), (32, vs 4), (37, .g (C_api_Bond x_523 (.s 8)))] [.rd 10 R_T_api_Bond l_1, .rd 2 R_T_api_Subscription b_2.Subs, .blk 30 (C_api_Bond b_2 (.s 1)), .blk 24 (C_api_Address a_3), .own 10 30 R_T_api_Bond x_123, .gone, .gone, .gone, .rd 2 R_T_api_Subscription x_523.Subs] ?_ (fun c_42_1 => ?_)
         · refine SD.pre (pre_frz (i := 4) (sz := 10) (E := 30) (R := R_T_api_Bond) (l := x_123) (by kernel_rfl)) ?_
           refine SD.all1 (i := 7) (by kernel_rfl) ?_
           refine SW.eff D_42 (i := 7) (bs' := [I, I, I, I, I, I, I, I, O, O, O, O, O, O, O]) rfl (.inl rfl) rfl (e_c Tryd.call18 (ok_bonds_Add F x_123 x_523 _ e_x_603) [.g 4, .g 8] [vs 4, .g (C_api_Bond x_523 (.s 8))] (.u [.inl (.s 9), .inl (ci .i64 x_603.2.1), .inl (ci .i64 x_603.2.2)]) (by kernel_rfl) (.inl rfl)) (by kernel_rfl) rfl (by kernel_rfl) ?_
           refine SD.takes tk D_42 [] kn0 [8, 9, 10, 11, 12, 13, 14] [] [] [I, I, I, I, I, I, I, I, I, I, I, I, I, I, I] [(0, vs 0), (3, vi .i64 i_4), (5, vp 2 0), (6, vp 3 0), (9, vs 9), (10, vi .i64 x_603.2.1), (11, vi .i64 x_603.2.2)] rfl (by kernel_rfl) (by kernel_rfl) (by kernel_rfl) ?_
           exact SD.vie D_42 [.g 0, .g 1, .g 2, .g 3, .n, .n, .n, .n, .n, .g 9] c_42_0 (by kernel_rfl)
         · refine SD.lay 9 [I, I, I, I, I, I, O, O, O, O, O, O, O, O, O] [(0, vs 0), (3, vi .i64 i_4), (5, vp 2 0), (6, vp 3 0), (32, vs 4), (36, vp 6 ((0 : Int).toNat * 10))] [.rd 10 R_T_api_Bond l_1, .rd 2 R_T_api_Subscription b_2.Subs, .blk 30 (C_api_Bond b_2 (.s 1)), .blk 24 (C_api_Address a_3), .own 10 30 R_T_api_Bond x_123, .gone, .own 10 30 R_T_api_Bond x_363] ?_ (fun c_42_2 => ?_)
           · refine SD.all1 (i := 6) (by kernel_rfl) ?_
             refine SW.eff D_42 (i := 6) (bs' := [I, I, I, I, I, I, I, O, O, O, O, O, O, O, O]) rfl (.inl rfl) rfl (e_ldp (sz := 10) (E := 30) (R := R_T_api_Bond) (i := 6) (iv := 0) (l := x_363) tk rfl rfl e_x_523 (by kernel_rfl) (by kernel_rfl) rfl) (by kernel_rfl) rfl (by kernel_rfl) ?_
             exact SD.vie D_42 [.g 0, .g 1, .g 2, .g 3, .g 4, .n, .n, .n, .g 8] c_42_1 (by kernel_rfl)
           · refine SD.lay 10 [I, I, I, I, I, O, O, O, O, O, O, O, O, O, O] [(0, vs 0), (3, vi .i64 i_4), (5, vp 2 0), (6, vp 3 0), (32, vs 4), (35, vs 6)] [.rd 10 R_T_api_Bond l_1, .rd 2 R_T_api_Subscription b_2.Subs, .blk 30 (C_api_Bond b_2 (.s 1)), .blk 24 (C_api_Address a_3), .own 10 30 R_T_api_Bond x_123, .gone, .own 10 30 R_T_api_Bond x_363] ?_ (fun c_42_3 => ?_)
             · refine SD.all1 (i := 5) (by kernel_rfl) ?_
               refine SW.eff D_42 (i := 5) (bs' := [I, I, I, I, I, I, O, O, O, O, O, O, O, O, O]) rfl (.inl rfl) rfl (e_ixp (sz := 10) (E := 30) (R := R_T_api_Bond) (by_ := 96) (l := x_363) tk rfl rfl rfl e_x_443 (by kernel_rfl)) (by kernel_rfl) rfl (by kernel_rfl) ?_
               exact SD.vie D_42 [.g 0, .g 1, .g 2, .g 3, .g 4, .n, .g 6] c_42_2 (by kernel_rfl)
             · refine SD.lay 11 [I, I, I, I, O, O, O, O, O, O, O, O, O, O, O] [(0, vs 0), (3, vi .i64 i_4), (5, vp 2 0), (6, vp 3 0), (32, vs 4), (34, vs 5)] [.rd 10 R_T_api_Bond l_1, .rd 2 R_T_api_Subscription b_2.Subs, .blk 30 (C_api_Bond b_2 (.s 1)), .blk 24 (C_api_Address a_3), .own 10 30 R_T_api_Bond x_123, .own 10 30 R_T_api_Bond [b_2]] ?_ (fun c_42_4 => ?_)
               · refine SD.pre (pre_frz (i := 5) (sz := 10) (E := 30) (R := R_T_api_Bond) (l := [b_2]) (by kernel_rfl)) ?_
                 refine SD.all1 (i := 4) (by kernel_rfl) ?_
                 refine SW.eff D_42 (i := 4) (bs' := [I, I, I, I, I, O, O, O, O, O, O, O, O, O, O]) rfl (.inl rfl) rfl (e_c Tryd.call9 (ok_wirelessref40_Copy F [b_2] _ e_x_363) [.g 5] [vs 5] (vs 6) (by kernel_rfl) (.inl rfl)) (by kernel_rfl) rfl (by kernel_rfl) ?_
                 exact SD.vie D_42 [.g 0, .g 1, .g 2, .g 3, .g 4, .n, .g 6] c_42_3 (by kernel_rfl)
               · refine SD.lay 12 [I, I, I, O, O, O, O, O, O, O, O, O, O, O, O] [(0, vs 0), (3, vi .i64 i_4), (5, vp 2 0), (6, vp 3 0), (32, vs 4), (33, .g (C_api_Bond b_2 (.s 1)))] [.rd 10 R_T_api_Bond l_1, .rd 2 R_T_api_Subscription b_2.Subs, .blk 30 (C_api_Bond b_2 (.s 1)), .blk 24 (C_api_Address a_3), .own 10 30 R_T_api_Bond x_123] ?_ (fun c_42_5 => ?_)
                 · refine SD.all1 (i := 3) (by kernel_rfl) ?_
                   refine SW.eff D_42 (i := 3) (bs' := [I, I, I, I, O, O, O, O, O, O, O, O, O, O, O]) rfl (.inl rfl) rfl (e_lit (sz := 10) (E := 30) (R := R_T_api_Bond) (by_ := 96) tk [(C_api_Bond b_2 (.s 1))] [b_2] (by kernel_rfl) ⟨(clo_T_api_Bond (x := b_2) (Clo.sl (by kernel_rfl))), trivial⟩ rfl (by kernel_rfl) (by kernel_rfl)) (by kernel_rfl) rfl (by kernel_rfl) ?_
                   exact SD.vie D_42 [.g 0, .g 1, .g 2, .g 3, .g 4, .g 5] c_42_4 (by kernel_rfl)
                 · refine SD.lay 12 [I, O, I, I, O, O, O, O, O, O, O, O, O, O, O] [(0, vs 0), (3, vi .i64 i_4), (5, vp 2 0), (6, vp 3 0), (31, vs 0), (34, vs 4)] [.rd 10 R_T_api_Bond l_1, .rd 2 R_T_api_Subscription b_2.Subs, .blk 30 (C_api_Bond b_2 (.s 1)), .blk 24 (C_api_Address a_3), .own 10 30 R_T_api_Bond [b_2]] ?_ (fun c_42_6 => ?_)
                   · refine SD.all1 (i := 1) (by kernel_rfl) ?_
                     refine SW.eff D_42 (i := 1) (bs' := [I, I, I, I, O, O, O, O, O, O, O, O, O, O, O]) rfl (.inl rfl) rfl (e_c Tryd.call9 (ok_wirelessref40_Copy F l_1 _ e_x_123) [.g 0] [vs 0] (vs 5) (by kernel_rfl) (.inl rfl)) (by kernel_rfl) rfl (by kernel_rfl) ?_
                     exact SD.vie D_42 [.g 0, .g 1, .g 2, .g 3, .g 5, .g 4] c_42_4 (by kernel_rfl)
                   · refine SD.all2 (i := 1) (j := 3) (by kernel_rfl) ?_ ?_
                     · refine SW.eff D_42 (i := 1) (bs' := [I, I, I, O, O, O, O, O, O, O, O, O, O, O, O]) rfl (.inl rfl) rfl (e_c Tryd.call9 (ok_wirelessref40_Copy F l_1 _ e_x_123) [.g 0] [vs 0] (vs 4) (by kernel_rfl) (.inl rfl)) (by kernel_rfl) rfl (by kernel_rfl) ?_
                       refine SD.norm (itsN := [.rd 10 R_T_api_Bond l_1, .rd 2 R_T_api_Subscription b_2.Subs, .blk 30 (C_api_Bond b_2 (.s 1)), .blk 24 (C_api_Address a_3), .own 10 30 R_T_api_Bond x_123]) (by kernel_rfl) ?_
                       exact SD.vie D_42 [.g 0, .g 1, .g 2, .g 3, .g 4] c_42_5 (by kernel_rfl)
                     · refine SW.eff D_42 (i := 3) (bs' := [I, O, I, I, O, O, O, O, O, O, O, O, O, O, O]) rfl (.inl rfl) rfl (e_lit (sz := 10) (E := 30) (R := R_T_api_Bond) (by_ := 96) tk [(C_api_Bond b_2 (.s 1))] [b_2] (by kernel_rfl) ⟨(clo_T_api_Bond (x := b_2) (Clo.sl (by kernel_rfl))), trivial⟩ rfl (by kernel_rfl) (by kernel_rfl)) (by kernel_rfl) rfl (by kernel_rfl) ?_
                       refine SD.norm (itsN := [.rd 10 R_T_api_Bond l_1, .rd 2 R_T_api_Subscription b_2.Subs, .blk 30 (C_api_Bond b_2 (.s 1)), .blk 24 (C_api_Address a_3), .own 10 30 R_T_api_Bond [b_2]]) (by kernel_rfl) ?_
                       exact SD.vie D_42 [.g 0, .g 1, .g 2, .g 3, .g 4] c_42_6 (by kernel_rfl)
     · rintro a w ⟨l_7, x_8, x_9, hp, h⟩
       refine h.go ?_
       refine SC.seq ?_
       refine SC.reg ?_
       refine SL.sim tk 2 [(0, vs 0), (3, vi .i64 i_4), (6, vp 3 0), (9, vs 4), (10, vi .i64 x_8), (11, vi .i64 x_9), (43, vs 0), (44, .g (C_api_Bond b_2 (.s 1)))] [] [] [] (by kernel_rfl) ?_
       obtain ⟨x_10, e_x_10, hp⟩ := bind_inv hp
       refine SL.eff (e_c Tryd.call19 (ok_wirelessref40_Add F l_1 b_2 _ e_x_10) [.g 0, .g 1] [vs 0, .g (C_api_Bond b_2 (.s 1))] (.u [.inl (.s 5), .inl (ci .i64 x_10.2.1), .inl (ci .i64 x_10.2.2)]) (by kernel_rfl) (.inl rfl)) rfl (by kernel_rfl) ?_
       refine SL.sim tk 7 [(0, vs 0), (3, vi .i64 i_4), (6, vp 3 0), (9, vs 4), (10, vi .i64 x_8), (11, vi .i64 x_9), (12, vs 5), (13, vi .i64 x_10.2.1), (14, vi .i64 x_10.2.2)] [] [] [] (by kernel_rfl) ?_
       refine SL.nilThen ?_
       refine SC.seq ?_
       refine SC.reg ?_
       refine SL.sim tk 1 [(0, vs 0), (3, vi .i64 i_4), (6, vp 3 0), (9, vs 4), (10, vi .i64 x_8), (11, vi .i64 x_9), (12, vs 5), (13, vi .i64 x_10.2.1), (14, vi .i64 x_10.2.2), (50, vs 0)] [] [] [] (by kernel_rfl) ?_
       obtain ⟨x_11, e_x_11, hp⟩ := bind_inv hp
       refine SL.eff (e_c Tryd.call9 (ok_wirelessref40_Copy F l_1 _ e_x_11) [.g 0] [vs 0] (vs 6) (by kernel_rfl) (.inl rfl)) rfl (by kernel_rfl) ?_
       refine SL.norm (itsN := [.rd 10 R_T_api_Bond l_1, .rd 2 R_T_api_Subscription b_2.Subs, .blk 30 (C_api_Bond b_2 (.s 1)), .blk 24 (C_api_Address a_3), .rd 10 R_T_api_Bond l_7, .rd 10 R_T_api_Bond x_10.1, .own 10 30 R_T_api_Bond x_11]) (by kernel_rfl) ?_
       refine SL.sim tk 1 [(0, vs 0), (3, vi .i64 i_4), (6, vp 3 0), (9, vs 4), (10, vi .i64 x_8), (11, vi .i64 x_9), (12, vs 5), (13, vi .i64 x_10.2.1), (14, vi .i64 x_10.2.2), (51, vs 6), (52, vi .i64 i_4)] [] [] [] (by kernel_rfl) ?_
       obtain ⟨x_12, e_x_12, hp⟩ := bind_inv hp
       refine SL.pre (pre_frz (i := 6) (sz := 10) (E := 30) (R := R_T_api_Bond) (l := x_11) (by kernel_rfl)) ?_
       refine SL.eff (e_c Tryd.call20 (ok_bonds_Remove F x_11 i_4 _ e_x_12) [.g 6] [vs 6, vi .i64 i_4] (.u [.inl (.s 7), .inl (ci .i64 x_12.2)]) (by kernel_rfl) (.inl rfl)) rfl (by kernel_rfl) ?_
       refine SL.sim tk 5 [(0, vs 0), (3, vi .i64 i_4), (6, vp 3 0), (9, vs 4), (10, vi .i64 x_8), (11, vi .i64 x_9), (12, vs 5), (13, vi .i64 x_10.2.1), (14, vi .i64 x_10.2.2), (15, vs 7), (16, vi .i64 x_12.2)] [] [] [] (by kernel_rfl) ?_
       refine SL.nilThen ?_
       refine SC.seq ?_
       refine SC.reg ?_
       refine SL.sim tk 2 [(0, vs 0), (3, vi .i64 i_4), (6, vp 3 0), (9, vs 4), (10, vi .i64 x_8), (11, vi .i64 x_9), (12, vs 5), (13, vi .i64 x_10.2.1), (14, vi .i64 x_10.2.2), (15, vs 7), (16, vi .i64 x_12.2), (57, vs 0), (58, vi .i64 i_4)] [] [] [] (by kernel_rfl) ?_
       obtain ⟨x_13, e_x_13, hp⟩ := bind_inv hp
       refine SL.eff (e_c Tryd.call21 (ok_wirelessref40_Remove F l_1 i_4 _ e_x_13) [.g 0] [vs 0, vi .i64 i_4] (.u [.inl (.s 8), .inl (ci .i64 x_13.2)]) (by kernel_rfl) (.inl rfl)) rfl (by kernel_rfl) ?_
       refine SL.norm (itsN := [.rd 10 R_T_api_Bond l_1, .rd 2 R_T_api_Subscription b_2.Subs, .blk 30 (C_api_Bond b_2 (.s 1)), .blk 24 (C_api_Address a_3), .rd 10 R_T_api_Bond l_7, .rd 10 R_T_api_Bond x_10.1, .rd 10 R_T_api_Bond x_11, .rd 10 R_T_api_Bond x_12.1, .rd 10 R_T_api_Bond x_13.1]) (by kernel_rfl) ?_
       refine SL.sim tk 5 [(0, vs 0), (3, vi .i64 i_4), (6, vp 3 0), (9, vs 4), (10, vi .i64 x_8), (11, vi .i64 x_9), (12, vs 5), (13, vi .i64 x_10.2.1), (14, vi .i64 x_10.2.2), (15, vs 7), (16, vi .i64 x_12.2), (17, vs 8), (18, vi .i64 x_13.2)] [] [] [] (by kernel_rfl) ?_
       refine SL.nilThen ?_
       refine SC.cut (fun a w => ∃ (z_14 : Bool), wirelesslaw40_BondsChanges_j2 F z_14 = some r ∧ A 105 2 fx [(8, vb z_14)] [.gone, .gone] a w) ?_ ?_
       · refine SC.draw MO [I, I, I, I, I, I, I, I, I] (by kernel_rfl) fun kap_15 D_16 => ?_
         refine SD.takes tk D_16 [] kn0 [0, 1, 2, 3, 4, 5, 6, 7, 8] [] [] [I, I, I, I, I, I, I, I, I, O, O, O, O, O, O, O, O, O, O, O, O, O, O, O, O, O, O, O, O, O, O, O, O, O, O, O, O, O, O, O, O, O, O, O] [(0, vs 0), (3, vi .i64 i_4), (6, vp 3 0), (9, vs 4), (12, vs 5), (15, vs 7), (16, vi .i64 x_12.2), (17, vs 8), (18, vi .i64 x_13.2), (70, vb ((x_9 == x_10.2.2) && (x_8 == x_10.2.1)))] rfl (by kernel_rfl) (by kernel_rfl) (by kernel_rfl) ?_
         rcases Bool.eq_false_or_eq_true (((x_9 == x_10.2.2) && (x_8 == x_10.2.1))) with hg_17 | hg_17
         · replace hp := if_t hp hg_17
           refine SD.takes tk D_16 [(70, true)] (knS rfl hg_17 kn0) [9, 10] [] [] [I, I, I, I, I, I, I, I, I, I, I, O, O, O, O, O, O, O, O, O, O, O, O, O, O, O, O, O, O, O, O, O, O, O, O, O, O, O, O, O, O, O, O, O] [(0, vs 0), (3, vi .i64 i_4), (6, vp 3 0), (15, vs 7), (16, vi .i64 x_12.2), (17, vs 8), (18, vi .i64 x_13.2), (70, vb ((x_9 == x_10.2.2) && (x_8 == x_10.2.1))), (71, vs 4), (72, vs 5)] rfl (by kernel_rfl) (by kernel_rfl) (by kernel_rfl) ?_
           obtain ⟨x_18, e_x_18, hp⟩ := bind_inv hp
           refine SD.all1 (i := 11) (by kernel_rfl) ?_
           refine SW.eff D_16 (i := 11) (bs' := [I, I, I, I, I, I, I, I, I, I, I, I, O, O, O, O, O, O, O, O, O, O, O, O, O, O, O, O, O, O, O, O, O, O, O, O, O, O, O, O, O, O, O, O]) rfl (.inr ⟨_, _, _, _, rfl, rfl, rfl, hg_17⟩) rfl (e_c Tryd.call22 (ok_wirelessref40_Same F l_7 x_10.1 _ e_x_18) [.g 4, .g 5] [vs 4, vs 5] (vb x_18) (by kernel_rfl) (.inl rfl)) (by kernel_rfl) rfl (by kernel_rfl) ?_
           refine SD.takes tk D_16 [(70, true)] (knS rfl hg_17 kn0) [12, 13, 14, 15, 16, 17, 18] [] [] [I, I, I, I, I, I, I, I, I, I, I, I, I, I, I, I, I, I, I, O, O, O, O, O, O, O, O, O, O, O, O, O, O, O, O, O, O, O, O, O, O, O, O, O] [(0, vs 0), (3, vi .i64 i_4), (6, vp 3 0), (15, vs 7), (17, vs 8), (80, vb (x_18 && (x_12.2 == x_13.2)))] rfl (by kernel_rfl) (by kernel_rfl) (by kernel_rfl) ?_
           rcases Bool.eq_false_or_eq_true ((x_18 && (x_12.2 == x_13.2))) with hg_19 | hg_19
           · replace hp := if_t hp hg_19
             refine SD.takes tk D_16 [(80, true)] (knS rfl hg_19 kn0) [19, 20] [] [] [I, I, I, I, I, I, I, I, I, I, I, I, I, I, I, I, I, I, I, I, I, O, O, O, O, O, O, O, O, O, O, O, O, O, O, O, O, O, O, O, O, O, O, O] [(0, vs 0), (3, vi .i64 i_4), (6, vp 3 0), (80, vb (x_18 && (x_12.2 == x_13.2))), (81, vs 7), (82, vs 8)] rfl (by kernel_rfl) (by kernel_rfl) (by kernel_rfl) ?_
             obtain ⟨x_20, e_x_20, hp⟩ := bind_inv hp
             refine SD.all1 (i := 21) (by kernel_rfl) ?_
             refine SW.eff D_16 (i := 21) (bs' := [I, I, I, I, I, I, I, I, I, I, I, I, I, I, I, I, I, I, I, I, I, I, O, O, O, O, O, O, O, O, O, O, O, O, O, O, O, O, O, O, O, O, O, O]) rfl (.inr ⟨_, _, _, _, rfl, rfl, rfl, hg_19⟩) rfl (e_c Tryd.call22 (ok_wirelessref40_Same F x_12.1 x_13.1 _ e_x_20) [.g 7, .g 8] [vs 7, vs 8] (vb x_20) (by kernel_rfl) (.inl rfl)) (by kernel_rfl) rfl (by kernel_rfl) ?_
             refine SD.norm (itsN := [.rd 10 R_T_api_Bond l_1, .rd 2 R_T_api_Subscription b_2.Subs, .blk 30 (C_api_Bond b_2 (.s 1)), .blk 24 (C_api_Address a_3), .rd 10 R_T_api_Bond l_7, .rd 10 R_T_api_Bond x_10.1, .rd 10 R_T_api_Bond x_11, .rd 10 R_T_api_Bond x_12.1, .rd 10 R_T_api_Bond x_13.1]) (by kernel_rfl) ?_
             refine SD.takes tk D_16 [(80, true)] (knS rfl hg_19 kn0) [22, 23] [] [] [I, I, I, I, I, I, I, I, I, I, I, I, I, I, I, I, I, I, I, I, I, I, I, I, O, O, O, O, O, O, O, O, O, O, O, O, O, O, O, O, O, O, O, O] [(0, vs 0), (3, vi .i64 i_4), (6, vp 3 0), (85, vb x_20)] rfl (by kernel_rfl) (by kernel_rfl) (by kernel_rfl) ?_
             rcases Bool.eq_false_or_eq_true (x_20) with hg_21 | hg_21
             · replace hp := if_t hp hg_21
               refine SD.takes tk D_16 [(85, true)] (knS rfl hg_21 kn0) [24, 26, 28, 29] [] [] [I, I, I, I, I, I, I, I, I, I, I, I, I, I, I, I, I, I, I, I, I, I, I, I, I, O, I, O, I, I, O, O, O, O, O, O, O, O, O, O, O, O, O, O] [(0, vs 0), (6, vp 3 0), (85, vb x_20), (86, vs 0), (88, vi .i64 i_4), (90, vs 0), (91, vi .i64 i_4)] rfl (by kernel_rfl) (by kernel_rfl) (by kernel_rfl) ?_
               obtain ⟨x_22, e_x_22, hp⟩ := bind_inv hp
               refine SD.all1 (i := 25) (by kernel_rfl) ?_
               refine SW.eff D_16 (i := 25) (bs' := [I, I, I, I, I, I, I, I, I, I, I, I, I, I, I, I, I, I, I, I, I, I, I, I, I, I, I, O, I, I, O, O, O, O, O, O, O, O, O, O, O, O, O, O]) rfl (.inr ⟨_, _, _, _, rfl, rfl, rfl, hg_21⟩) rfl (e_c Tryd.call9 (ok_wirelessref40_Copy F l_1 _ e_x_22) [.g 0] [vs 0] (vs 9) (by kernel_rfl) (.inl rfl)) (by kernel_rfl) rfl (by kernel_rfl) ?_
               obtain ⟨x_23, e_x_23, hp⟩ := bind_inv hp
               refine SD.pre (pre_frz (i := 9) (sz := 10) (E := 30) (R := R_T_api_Bond) (l := x_22) (by kernel_rfl)) ?_
               refine SD.all1 (i := 27) (by kernel_rfl) ?_
               refine SW.eff D_16 (i := 27) (bs' := [I, I, I, I, I, I, I, I, I, I, I, I, I, I, I, I, I, I, I, I, I, I, I, I, I, I, I, I, I, I, O, O, O, O, O, O, O, O, O, O, O, O, O, O]) rfl (.inr ⟨_, _, _, _, rfl, rfl, rfl, hg_21⟩) rfl (e_c Tryd.call23 (ok_bonds_Touch F x_22 i_4 _ e_x_23) [.g 9] [vs 9, vi .i64 i_4] (vs 10) (by kernel_rfl) (.inl rfl)) (by kernel_rfl) rfl (by kernel_rfl) ?_
               refine SD.norm (itsN := [.rd 10 R_T_api_Bond l_1, .rd 2 R_T_api_Subscription b_2.Subs, .blk 30 (C_api_Bond b_2 (.s 1)), .blk 24 (C_api_Address a_3), .rd 10 R_T_api_Bond l_7, .rd 10 R_T_api_Bond x_10.1, .rd 10 R_T_api_Bond x_11, .rd 10 R_T_api_Bond x_12.1, .rd 10 R_T_api_Bond x_13.1, .rd 10 R_T_api_Bond x_22, .rd 10 R_T_api_Bond x_23]) (by kernel_rfl) ?_
               obtain ⟨x_24, e_x_24, hp⟩ := bind_inv hp
               refine SD.all1 (i := 30) (by kernel_rfl) ?_
               refine SW.eff D_16 (i := 30) (bs' := [I, I, I, I, I, I, I, I, I, I, I, I, I, I, I, I, I, I, I, I, I, I, I, I, I, I, I, I, I, I, I, O, O, O, O, O, O, O, O, O, O, O, O, O]) rfl (.inr ⟨_, _, _, _, rfl, rfl, rfl, hg_21⟩) rfl (e_c Tryd.call24 (ok_wirelessref40_Touch F l_1 i_4 _ e_x_24) [.g 0] [vs 0, vi .i64 i_4] (vs 11) (by kernel_rfl) (.inl rfl)) (by kernel_rfl) rfl (by kernel_rfl) ?_
               obtain ⟨x_25, e_x_25, hp⟩ := bind_inv hp
               refine SD.all1 (i := 31) (by kernel_rfl) ?_
               refine SW.eff D_16 (i := 31) (bs' := [I, I, I, I, I, I, I, I, I, I, I, I, I, I, I, I, I, I, I, I, I, I, I, I, I, I, I, I, I, I, I, I, O, O, O, O, O, O, O, O, O, O, O, O]) rfl (.inr ⟨_, _, _, _, rfl, rfl, rfl, hg_21⟩) rfl (e_c Tryd.call22 (ok_wirelessref40_Same F x_23 x_24 _ e_x_25) [.g 10, .g 11] [vs 10, vs 11] (vb x_25) (by kernel_rfl) (.inl rfl)) (by kernel_rfl) rfl (by kernel_rfl) ?_
               refine SD.norm (itsN := [.rd 10 R_T_api_Bond l_1, .rd 2 R_T_api_Subscription b_2.Subs, .blk 30 (C_api_Bond b_2 (.s 1)), .blk 24 (C_api_Address a_3), .rd 10 R_T_api_Bond l_7, .rd 10 R_T_api_Bond x_10.1, .rd 10 R_T_api_Bond x_11, .rd 10 R_T_api_Bond x_12.1, .rd 10 R_T_api_Bond x_13.1, .rd 10 R_T_api_Bond x_22, .rd 10 R_T_api_Bond x_23, .rd 10 R_T_api_Bond x_24]) (by kernel_rfl) ?_
               refine SD.takes tk D_16 [(85, true)] (knS rfl hg_21 kn0) [32, 33] [] [] [I, I, I, I, I, I, I, I, I, I, I, I, I, I, I, I, I, I, I, I, I, I, I, I, I, I, I, I, I, I, I, I, I, I, O, O, O, O, O, O, O, O, O, O] [(0, vs 0), (6, vp 3 0), (95, vb x_25)] rfl (by kernel_rfl) (by kernel_rfl) (by kernel_rfl) ?_
               rcases Bool.eq_false_or_eq_true (x_25) with hg_26 | hg_26
               · replace hp := if_t hp hg_26
                 refine SD.takes tk D_16 [(95, true)] (knS rfl hg_26 kn0) [34, 36, 38, 39] [] [] [I, I, I, I, I, I, I, I, I, I, I, I, I, I, I, I, I, I, I, I, I, I, I, I, I, I, I, I, I, I, I, I, I, I, I, O, I, O, I, I, O, O, O, O] [(95, vb x_25), (96, vs 0), (98, .g (C_api_Address a_3)), (100, vs 0), (101, .g (C_api_Address a_3))] rfl (by kernel_rfl) (by kernel_rfl) (by kernel_rfl) ?_
                 obtain ⟨x_27, e_x_27, hp⟩ := bind_inv hp
                 refine SD.all1 (i := 35) (by kernel_rfl) ?_
                 refine SW.eff D_16 (i := 35) (bs' := [I, I, I, I, I, I, I, I, I, I, I, I, I, I, I, I, I, I, I, I, I, I, I, I, I, I, I, I, I, I, I, I, I, I, I, I, I, O, I, I, O, O, O, O]) rfl (.inr ⟨_, _, _, _, rfl, rfl, rfl, hg_26⟩) rfl (e_c Tryd.call9 (ok_wirelessref40_Copy F l_1 _ e_x_27) [.g 0] [vs 0] (vs 12) (by kernel_rfl) (.inl rfl)) (by kernel_rfl) rfl (by kernel_rfl) ?_
                 obtain ⟨x_28, e_x_28, hp⟩ := bind_inv hp
                 refine SD.all1 (i := 37) (by kernel_rfl) ?_
                 refine SW.eff D_16 (i := 37) (bs' := [I, I, I, I, I, I, I, I, I, I, I, I, I, I, I, I, I, I, I, I, I, I, I, I, I, I, I, I, I, I, I, I, I, I, I, I, I, I, I, I, O, O, O, O]) rfl (.inr ⟨_, _, _, _, rfl, rfl, rfl, hg_26⟩) rfl (e_c Tryd.call25 (ok_bonds_Find F x_27 a_3 _ e_x_28) [.l 12] [vs 12, .g (C_api_Address a_3)] (vi .i64 x_28) (by kernel_rfl) (.inr ⟨trivial, trivial⟩)) (by kernel_rfl) rfl (by kernel_rfl) ?_
                 refine SD.norm (itsN := [.rd 10 R_T_api_Bond l_1, .rd 2 R_T_api_Subscription b_2.Subs, .blk 30 (C_api_Bond b_2 (.s 1)), .blk 24 (C_api_Address a_3), .rd 10 R_T_api_Bond l_7, .rd 10 R_T_api_Bond x_10.1, .rd 10 R_T_api_Bond x_11, .rd 10 R_T_api_Bond x_12.1, .rd 10 R_T_api_Bond x_13.1, .rd 10 R_T_api_Bond x_22, .rd 10 R_T_api_Bond x_23, .rd 10 R_T_api_Bond x_24, .own 10 30 R_T_api_Bond x_27]) (by kernel_rfl) ?_
                 obtain ⟨x_29, e_x_29, hp⟩ := bind_inv hp
                 refine SD.all1 (i := 40) (by kernel_rfl) ?_
                 refine SW.eff D_16 (i := 40) (bs' := [I, I, I, I, I, I, I, I, I, I, I, I, I, I, I, I, I, I, I, I, I, I, I, I, I, I, I, I, I, I, I, I, I, I, I, I, I, I, I, I, I, O, O, O]) rfl (.inr ⟨_, _, _, _, rfl, rfl, rfl, hg_26⟩) rfl (e_c Tryd.call26 (ok_wirelessref40_Find F l_1 a_3 _ e_x_29) [.g 0] [vs 0, .g (C_api_Address a_3)] (vi .i64 x_29) (by kernel_rfl) (.inl rfl)) (by kernel_rfl) rfl (by kernel_rfl) ?_
                 refine SD.takes tk D_16 [(95, true)] (knS rfl hg_26 kn0) [41, 42, 43] [] [] [I, I, I, I, I, I, I, I, I, I, I, I, I, I, I, I, I, I, I, I, I, I, I, I, I, I, I, I, I, I, I, I, I, I, I, I, I, I, I, I, I, I, I, I] [(8, vb (x_28 == x_29))] rfl (by kernel_rfl) (by kernel_rfl) (by kernel_rfl) ?_
                 refine SD.done (by kernel_rfl) fun a w h => ?_
                 exact ⟨(x_28 == x_29), hp, h.at (js := [.g 0, .g 1]) (by kernel_rfl)⟩
               · replace hp := if_f hp hg_26
                 refine SD.takes tk D_16 [(95, false)] (knS rfl hg_26 kn0) [34, 35, 36, 37, 38, 39, 40, 41, 42, 43] [] [] [I, I, I, I, I, I, I, I, I, I, I, I, I, I, I, I, I, I, I, I, I, I, I, I, I, I, I, I, I, I, I, I, I, I, I, I, I, I, I, I, I, I, I, I] [(8, vb false)] rfl (by kernel_rfl) (by kernel_rfl) (by kernel_rfl) ?_
                 refine SD.done (by kernel_rfl) fun a w h => ?_
                 exact ⟨false, hp, h.at (js := [.g 0, .g 1]) (by kernel_rfl)⟩
             · replace hp := if_f hp hg_21
               refine SD.takes tk D_16 [(85, false)] (knS rfl hg_21 kn0) [24, 25, 26, 27, 28, 29, 30, 31, 32, 33] [] [] [I, I, I, I, I, I, I, I, I, I, I, I, I, I, I, I, I, I, I, I, I, I, I, I, I, I, I, I, I, I, I, I, I, I, O, O, O, O, O, O, O, O, O, O] [(0, vs 0), (6, vp 3 0), (95, vb false)] rfl (by kernel_rfl) (by kernel_rfl) (by kernel_rfl) ?_
               refine SD.takes tk D_16 [(95, false)] (knS rfl rfl kn0) [34, 35, 36, 37, 38, 39, 40, 41, 42, 43] [] [] [I, I, I, I, I, I, I, I, I, I, I, I, I, I, I, I, I, I, I, I, I, I, I, I, I, I, I, I, I, I, I, I, I, I, I, I, I, I, I, I, I, I, I, I] [(8, vb false)] rfl (by kernel_rfl) (by kernel_rfl) (by kernel_rfl) ?_
               refine SD.done (by kernel_rfl) fun a w h => ?_
               exact ⟨false, hp, h.at (js := [.g 0, .g 1]) (by kernel_rfl)⟩
           · replace hp := if_f hp hg_19
             refine SD.takes tk D_16 [(80, false)] (knS rfl hg_19 kn0) [19, 20, 21, 22, 23] [] [] [I, I, I, I, I, I, I, I, I, I, I, I, I, I, I, I, I, I, I, I, I, I, I, I, O, O, O, O, O, O, O, O, O, O, O, O, O, O, O, O, O, O, O, O] [(0, vs 0), (3, vi .i64 i_4), (6, vp 3 0), (85, vb false)] rfl (by kernel_rfl) (by kernel_rfl) (by kernel_rfl) ?_
             refine SD.takes tk D_16 [(85, false)] (knS rfl rfl kn0) [24, 25, 26, 27, 28, 29, 30, 31, 32, 33] [] [] [I, I, I, I, I, I, I, I, I, I, I, I, I, I, I, I, I, I, I, I, I, I, I, I, I, I, I, I, I, I, I, I, I, I, O, O, O, O, O, O, O, O, O, O] [(0, vs 0), (6, vp 3 0), (95, vb false)] rfl (by kernel_rfl) (by kernel_rfl) (by kernel_rfl) ?_
             refine SD.takes tk D_16 [(95, false)] (knS rfl rfl kn0) [34, 35, 36, 37, 38, 39, 40, 41, 42, 43] [] [] [I, I, I, I, I, I, I, I, I, I, I, I, I, I, I, I, I, I, I, I, I, I, I, I, I, I, I, I, I, I, I, I, I, I, I, I, I, I, I, I, I, I, I, I] [(8, vb false)] rfl (by kernel_rfl) (by kernel_rfl) (by kernel_rfl) ?_
             refine SD.done (by kernel_rfl) fun a w h => ?_
             exact ⟨false, hp, h.at (js := [.g 0, .g 1]) (by kernel_rfl)⟩
         · replace hp := if_f hp hg_17
           refine SD.takes tk D_16 [(70, false)] (knS rfl hg_17 kn0) [9, 10, 11, 12, 13, 14, 15, 16, 17, 18] [] [] [I, I, I, I, I, I, I, I, I, I, I, I, I, I, I, I, I, I, I, O, O, O, O, O, O, O, O, O, O, O, O, O, O, O, O, O, O, O, O, O, O, O, O, O] [(0, vs 0), (3, vi .i64 i_4), (6, vp 3 0), (15, vs 7), (17, vs 8), (80, vb (false && (x_12.2 == x_13.2)))] rfl (by kernel_rfl) (by kernel_rfl) (by kernel_rfl) ?_
           rcases Bool.eq_false_or_eq_true ((false && (x_12.2 == x_13.2))) with hg_30 | hg_30
           · replace hp := if_t hp hg_30
             refine SD.takes tk D_16 [(80, true)] (knS rfl hg_30 kn0) [19, 20] [] [] [I, I, I, I, I, I, I, I, I, I, I, I, I, I, I, I, I, I, I, I, I, O, O, O, O, O, O, O, O, O, O, O, O, O, O, O, O, O, O, O, O, O, O, O] [(0, vs 0), (3, vi .i64 i_4), (6, vp 3 0), (80, vb (false && (x_12.2 == x_13.2))), (81, vs 7), (82, vs 8)] rfl (by kernel_rfl) (by kernel_rfl) (by kernel_rfl) ?_
             obtain ⟨x_31, e_x_31, hp⟩ := bind_inv hp
             refine SD.all1 (i := 21) (by kernel_rfl) ?_
             refine SW.eff D_16 (i := 21) (bs' := [I, I, I, I, I, I, I, I, I, I, I, I, I, I, I, I, I, I, I, I, I, I, O, O, O, O, O, O, O, O, O, O, O, O, O, O, O, O, O, O, O, O, O, O]) rfl (.inr ⟨_, _, _, _, rfl, rfl, rfl, hg_30⟩) rfl (e_c Tryd.call22 (ok_wirelessref40_Same F x_12.1 x_13.1 _ e_x_31) [.g 7, .g 8] [vs 7, vs 8] (vb x_31) (by kernel_rfl) (.inl rfl)) (by kernel_rfl) rfl (by kernel_rfl) ?_
             refine SD.takes tk D_16 [(80, true)] (knS rfl hg_30 kn0) [22, 23] [] [] [I, I, I, I, I, I, I, I, I, I, I, I, I, I, I, I, I, I, I, I, I, I, I, I, O, O, O, O, O, O, O, O, O, O, O, O, O, O, O, O, O, O, O, O] [(0, vs 0), (3, vi .i64 i_4), (6, vp 3 0), (85, vb x_31)] rfl (by kernel_rfl) (by kernel_rfl) (by kernel_rfl) ?_
             rcases Bool.eq_false_or_eq_true (x_31) with hg_32 | hg_32
             · replace hp := if_t hp hg_32
               refine SD.takes tk D_16 [(85, true)] (knS rfl hg_32 kn0) [24, 26, 28, 29] [] [] [I, I, I, I, I, I, I, I, I, I, I, I, I, I, I, I, I, I, I, I, I, I, I, I, I, O, I, O, I, I, O, O, O, O, O, O, O, O, O, O, O, O, O, O] [(0, vs 0), (6, vp 3 0), (85, vb x_31), (86, vs 0), (88, vi .i64 i_4), (90, vs 0), (91, vi .i64 i_4)] rfl (by kernel_rfl) (by kernel_rfl) (by kernel_rfl) ?_
               obtain ⟨x_33, e_x_33, hp⟩ := bind_inv hp
               refine SD.all1 (i := 25) (by kernel_rfl) ?_
               refine SW.eff D_16 (i := 25) (bs' := [I, I, I, I, I, I, I, I, I, I, I, I, I, I, I, I, I, I, I, I, I, I, I, I, I, I, I, O, I, I, O, O, O, O, O, O, O, O, O, O, O, O, O, O]) rfl (.inr ⟨_, _, _, _, rfl, rfl, rfl, hg_32⟩) rfl (e_c Tryd.call9 (ok_wirelessref40_Copy F l_1 _ e_x_33) [.g 0] [vs 0] (vs 9) (by kernel_rfl) (.inl rfl)) (by kernel_rfl) rfl (by kernel_rfl) ?_
               refine SD.norm (itsN := [.rd 10 R_T_api_Bond l_1, .rd 2 R_T_api_Subscription b_2.Subs, .blk 30 (C_api_Bond b_2 (.s 1)), .blk 24 (C_api_Address a_3), .rd 10 R_T_api_Bond l_7, .rd 10 R_T_api_Bond x_10.1, .rd 10 R_T_api_Bond x_11, .rd 10 R_T_api_Bond x_12.1, .rd 10 R_T_api_Bond x_13.1, .own 10 30 R_T_api_Bond x_33]) (by kernel_rfl) ?_
               obtain ⟨x_34, e_x_34, hp⟩ := bind_inv hp
               refine SD.pre (pre_frz (i := 9) (sz := 10) (E := 30) (R := R_T_api_Bond) (l := x_33) (by kernel_rfl)) ?_
               refine SD.all1 (i := 27) (by kernel_rfl) ?_
               refine SW.eff D_16 (i := 27) (bs' := [I, I, I, I, I, I, I, I, I, I, I, I, I, I, I, I, I, I, I, I, I, I, I, I, I, I, I, I, I, I, O, O, O, O, O, O, O, O, O, O, O, O, O, O]) rfl (.inr ⟨_, _, _, _, rfl, rfl, rfl, hg_32⟩) rfl (e_c Tryd.call23 (ok_bonds_Touch F x_33 i_4 _ e_x_34) [.g 9] [vs 9, vi .i64 i_4] (vs 10) (by kernel_rfl) (.inl rfl)) (by kernel_rfl) rfl (by kernel_rfl) ?_
               obtain ⟨x_35, e_x_35, hp⟩ := bind_inv hp
               refine SD.all1 (i := 30) (by kernel_rfl) ?_
               refine SW.eff D_16 (i := 30) (bs' := [I, I, I, I, I, I, I, I, I, I, I, I, I, I, I, I, I, I, I, I, I, I, I, I, I, I, I, I, I, I, I, O, O, O, O, O, O, O, O, O, O, O, O, O]) rfl (.inr ⟨_, _, _, _, rfl, rfl, rfl, hg_32⟩) rfl (e_c Tryd.call24 (ok_wirelessref40_Touch F l_1 i_4 _ e_x_35) [.g 0] [vs 0, vi .i64 i_4] (vs 11) (by kernel_rfl) (.inl rfl)) (by kernel_rfl) rfl (by kernel_rfl) ?_
               refine SD.norm (itsN := [.rd 10 R_T_api_Bond l_1, .rd 2 R_T_api_Subscription b_2.Subs, .blk 30 (C_api_Bond b_2 (.s 1)), .blk 24 (C_api_Address a_3), .rd 10 R_T_api_Bond l_7, .rd 10 R_T_api_Bond x_10.1, .rd 10 R_T_api_Bond x_11, .rd 10 R_T_api_Bond x_12.1, .rd 10 R_T_api_Bond x_13.1, .rd 10 R_T_api_Bond x_33, .rd 10 R_T_api_Bond x_34, .rd 10 R_T_api_Bond x_35]) (by kernel_rfl) ?_
               obtain ⟨x_36, e_x_36, hp⟩ := bind_inv hp
               refine SD.all1 (i := 31) (by kernel_rfl) ?_
               refine SW.eff D_16 (i := 31) (bs' := [I, I, I, I, I, I, I, I, I, I, I, I, I, I, I, I, I, I, I, I, I, I, I, I, I, I, I, I, I, I, I, I, O, O, O, O, O, O, O, O, O, O, O, O]) rfl (.inr ⟨_, _, _, _, rfl, rfl, rfl, hg_32⟩) rfl (e_c Tryd.call22 (ok_wirelessref40_Same F x_34 x_35 _ e_x_36) [.g 10, .g 11] [vs 10, vs 11] (vb x_36) (by kernel_rfl) (.inl rfl)) (by kernel_rfl) rfl (by kernel_rfl) ?_
               refine SD.takes tk D_16 [(85, true)] (knS rfl hg_32 kn0) [32, 33] [] [] [I, I, I, I, I, I, I, I, I, I, I, I, I, I, I, I, I, I, I, I, I, I, I, I, I, I, I, I, I, I, I, I, I, I, O, O, O, O, O, O, O, O, O, O] [(0, vs 0), (6, vp 3 0), (95, vb x_36)] rfl (by kernel_rfl) (by kernel_rfl) (by kernel_rfl) ?_
               rcases Bool.eq_false_or_eq_true (x_36) with hg_37 | hg_37
               · replace hp := if_t hp hg_37
                 refine SD.takes tk D_16 [(95, true)] (knS rfl hg_37 kn0) [34, 36, 38, 39] [] [] [I, I, I, I, I, I, I, I, I, I, I, I, I, I, I, I, I, I, I, I, I, I, I, I, I, I, I, I, I, I, I, I, I, I, I, O, I, O, I, I, O, O, O, O] [(95, vb x_36), (96, vs 0), (98, .g (C_api_Address a_3)), (100, vs 0), (101, .g (C_api_Address a_3))] rfl (by kernel_rfl) (by kernel_rfl) (by kernel_rfl) ?_
                 obtain ⟨x_38, e_x_38, hp⟩ := bind_inv hp
                 refine SD.all1 (i := 35) (by kernel_rfl) ?_
                 refine SW.eff D_16 (i := 35) (bs' := [I, I, I, I, I, I, I, I, I, I, I, I, I, I, I, I, I, I, I, I, I, I, I, I, I, I, I, I, I, I, I, I, I, I, I, I, I, O, I, I, O, O, O, O]) rfl (.inr ⟨_, _, _, _, rfl, rfl, rfl, hg_37⟩) rfl (e_c Tryd.call9 (ok_wirelessref40_Copy F l_1 _ e_x_38) [.g 0] [vs 0] (vs 12) (by kernel_rfl) (.inl rfl)) (by kernel_rfl) rfl (by kernel_rfl) ?_
                 refine SD.norm (itsN := [.rd 10 R_T_api_Bond l_1, .rd 2 R_T_api_Subscription b_2.Subs, .blk 30 (C_api_Bond b_2 (.s 1)), .blk 24 (C_api_Address a_3), .rd 10 R_T_api_Bond l_7, .rd 10 R_T_api_Bond x_10.1, .rd 10 R_T_api_Bond x_11, .rd 10 R_T_api_Bond x_12.1, .rd 10 R_T_api_Bond x_13.1, .rd 10 R_T_api_Bond x_33, .rd 10 R_T_api_Bond x_34, .rd 10 R_T_api_Bond x_35, .own 10 30 R_T_api_Bond x_38]) (by kernel_rfl) ?_
                 obtain ⟨x_39, e_x_39, hp⟩ := bind_inv hp
                 refine SD.all1 (i := 37) (by kernel_rfl) ?_
                 refine SW.eff D_16 (i := 37) (bs' := [I, I, I, I, I, I, I, I, I, I, I, I, I, I, I, I, I, I, I, I, I, I, I, I, I, I, I, I, I, I, I, I, I, I, I, I, I, I, I, I, O, O, O, O]) rfl (.inr ⟨_, _, _, _, rfl, rfl, rfl, hg_37⟩) rfl (e_c Tryd.call25 (ok_bonds_Find F x_38 a_3 _ e_x_39) [.l 12] [vs 12, .g (C_api_Address a_3)] (vi .i64 x_39) (by kernel_rfl) (.inr ⟨trivial, trivial⟩)) (by kernel_rfl) rfl (by kernel_rfl) ?_
                 obtain ⟨x_40, e_x_40, hp⟩ := bind_inv hp
                 refine SD.all1 (i := 40) (by kernel_rfl) ?_
                 refine SW.eff D_16 (i := 40) (bs' := [I, I, I, I, I, I, I, I, I, I, I, I, I, I, I, I, I, I, I, I, I, I, I, I, I, I, I, I, I, I, I, I, I, I, I, I, I, I, I, I, I, O, O, O]) rfl (.inr ⟨_, _, _, _, rfl, rfl, rfl, hg_37⟩) rfl (e_c Tryd.call26 (ok_wirelessref40_Find F l_1 a_3 _ e_x_40) [.g 0] [vs 0, .g (C_api_Address a_3)] (vi .i64 x_40) (by kernel_rfl) (.inl rfl)) (by kernel_rfl) rfl (by kernel_rfl) ?_
                 refine SD.norm (itsN := [.rd 10 R_T_api_Bond l_1, .rd 2 R_T_api_Subscription b_2.Subs, .blk 30 (C_api_Bond b_2 (.s 1)), .blk 24 (C_api_Address a_3), .rd 10 R_T_api_Bond l_7, .rd 10 R_T_api_Bond x_10.1, .rd 10 R_T_api_Bond x_11, .rd 10 R_T_api_Bond x_12.1, .rd 10 R_T_api_Bond x_13.1, .rd 10 R_T_api_Bond x_33, .rd 10 R_T_api_Bond x_34, .rd 10 R_T_api_Bond x_35, .own 10 30 R_T_api_Bond x_38]) (by kernel_rfl) ?_
                 refine SD.takes tk D_16 [(95, true)] (knS rfl hg_37 kn0) [41, 42, 43] [] [] [I, I, I, I, I, I, I, I, I, I, I, I, I, I, I, I, I, I, I, I, I, I, I, I, I, I, I, I, I, I, I, I, I, I, I, I, I, I, I, I, I, I, I, I] [(8, vb (x_39 == x_40))] rfl (by kernel_rfl) (by kernel_rfl) (by kernel_rfl) ?_
                 refine SD.done (by kernel_rfl) fun a w h => ?_
                 exact ⟨(x_39 == x_40), hp, h.at (js := [.g 0, .g 1]) (by kernel_rfl)⟩
               · replace hp := if_f hp hg_37
                 refine SD.takes tk D_16 [(95, false)] (knS rfl hg_37 kn0) [34, 35, 36, 37, 38, 39, 40, 41, 42, 43] [] [] [I, I, I, I, I, I, I, I, I, I, I, I, I, I, I, I, I, I, I, I, I, I, I, I, I, I, I, I, I, I, I, I, I, I, I, I, I, I, I, I, I, I, I, I] [(8, vb false)] rfl (by kernel_rfl) (by kernel_rfl) (by kernel_rfl) ?_
                 refine SD.done (by kernel_rfl) fun a w h => ?_
                 exact ⟨false, hp, h.at (js := [.g 0, .g 1]) (by kernel_rfl)⟩
             · replace hp := if_f hp hg_32
               refine SD.takes tk D_16 [(85, false)] (knS rfl hg_32 kn0) [24, 25, 26, 27, 28, 29, 30, 31, 32, 33] [] [] [I, I, I, I, I, I, I, I, I, I, I, I, I, I, I, I, I, I, I, I, I, I, I, I, I, I, I, I, I, I, I, I, I, I, O, O, O, O, O, O, O, O, O, O] [(0, vs 0), (6, vp 3 0), (95, vb false)] rfl (by kernel_rfl) (by kernel_rfl) (by kernel_rfl) ?_
               refine SD.takes tk D_16 [(95, false)] (knS rfl rfl kn0) [34, 35, 36, 37, 38, 39, 40, 41, 42, 43] [] [] [I, I, I, I, I, I, I, I, I, I, I, I, I, I, I, I, I, I, I, I, I, I, I, I, I, I, I, I, I, I, I, I, I, I, I, I, I, I, I, I, I, I, I, I] [(8, vb false)] rfl (by kernel_rfl) (by kernel_rfl) (by kernel_rfl) ?_
               refine SD.done (by kernel_rfl) fun a w h => ?_
               exact ⟨false, hp, h.at (js := [.g 0, .g 1]) (by kernel_rfl)⟩
           · replace hp := if_f hp hg_30
             refine SD.takes tk D_16 [(80, false)] (knS rfl hg_30 kn0) [19, 20, 21, 22, 23] [] [] [I, I, I, I, I, I, I, I, I, I, I, I, I, I, I, I, I, I, I, I, I, I, I, I, O, O, O, O, O, O, O, O, O, O, O, O, O, O, O, O, O, O, O, O] [(0, vs 0), (3, vi .i64 i_4), (6, vp 3 0), (85, vb false)] rfl (by kernel_rfl) (by kernel_rfl) (by kernel_rfl) ?_
             refine SD.takes tk D_16 [(85, false)] (knS rfl rfl kn0) [24, 25, 26, 27, 28, 29, 30, 31, 32, 33] [] [] [I, I, I, I, I, I, I, I, I, I, I, I, I, I, I, I, I, I, I, I, I, I, I, I, I, I, I, I, I, I, I, I, I, I, O, O, O, O, O, O, O, O, O, O] [(0, vs 0), (6, vp 3 0), (95, vb false)] rfl (by kernel_rfl) (by kernel_rfl) (by kernel_rfl) ?_
             refine SD.takes tk D_16 [(95, false)] (knS rfl rfl kn0) [34, 35, 36, 37, 38, 39, 40, 41, 42, 43] [] [] [I, I, I, I, I, I, I, I, I, I, I, I, I, I, I, I, I, I, I, I, I, I, I, I, I, I, I, I, I, I, I, I, I, I, I, I, I, I, I, I, I, I, I, I] [(8, vb false)] rfl (by kernel_rfl) (by kernel_rfl) (by kernel_rfl) ?_
             refine SD.done (by kernel_rfl) fun a w h => ?_
             exact ⟨false, hp, h.at (js := [.g 0, .g 1]) (by kernel_rfl)⟩
       · rintro a w ⟨z_14, hp, h⟩
         refine h.go ?_
         obtain rfl := some_inv' hp
         exact SC.re (js := [.g 0, .g 1]) tk (by kernel_rfl)
end V
end Go.Proofs.YtbdhonofhlpdoaaDoor
