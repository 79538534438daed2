/-
  Walks, written by program: each Go function returns what its pure twin says.
-/
import Derived.Test.YtbdhonofhlpdoaaDoorRep
namespace Go.Proofs.YtbdhonofhlpdoaaDoor
namespace V
theorem ok_wirelesslaw40_one (F : Nat) (n_1 : Int) (r : T_api_Bond) (hp : wirelesslaw40_one F n_1 = some r) : Spec Tryd.prog 36 [vi .u64 n_1] [] (.g [ci .i64 r.Peer.Address.Kind, ci .u64 r.Peer.Address.Bits, ci .u64 r.Peer.IRK, ci .u64 r.LTK, ci .u64 r.Mark, cb r.Strong, ci .u64 r.Hash, cb r.Aware, .s 0, ci .i64 r.Used]) [.rd 2 R_T_api_Subscription r.Subs] := by
 refine Spec.enter Tryd.func36 rfl Tryd.ntmps36 rfl rfl fun fx => ?_
 refine SC.seq ?_
 refine SC.reg ?_
 refine SL.eff (e_alloc (E := 30) tk (C_api_Bond (T_api_Bond.mk (T_api_Identity.mk (T_api_Address.mk 0 0) 0) 0 0 false 0 false [] 0) nl) (by kernel_rfl)) rfl (by kernel_rfl) ?_
 refine SL.nilThen ?_
 refine SC.r tk [(2, vp 0 0)] [(0, 30, (C_api_Bond (T_api_Bond.mk (T_api_Identity.mk (T_api_Address.mk 1 n_1) 9) 7 0 false 0 false [] (w64 n_1)) nl))] [] [] (by kernel_rfl) ?_
 obtain rfl := some_inv' hp
 exact SC.re (js := [.n]) tk (by kernel_rfl)

theorem ok_address_mask (F : Nat) (bits_1 : Int) (r : Int) (hp : address_mask F bits_1 = some r) : Spec Tryd.prog 71 [vi .i64 bits_1] [] (vi .u64 r) [] := by
 refine Spec.enter Tryd.func71 rfl Tryd.ntmps71 rfl rfl fun fx => ?_
 refine SC.r tk [(0, vi .i64 bits_1)] [] [] [] (by kernel_rfl) ?_
 obtain ⟨x_2, e_x_2, hp⟩ := bind_inv hp
 refine SC.r tk [(2, vi .u64 (wu64 (x_2 - 1)))] [] [.bin .shl .u64 1 bits_1 x_2 e_x_2] [1, bits_1] (by kernel_rfl) ?_
 obtain rfl := some_inv' hp
 exact SC.re (js := []) tk (by kernel_rfl)

theorem ok_address_part (F : Nat) (a_1 : T_api_Address) (r : Int × Int) (hp : address_part F a_1 = some r) : Spec Tryd.prog 70 [.g (C_api_Address a_1)] [] (.u [.inl (ci .u64 r.1), .inl (ci .i64 r.2)]) [] := by
 refine Spec.enter Tryd.func70 rfl Tryd.ntmps70 rfl rfl fun fx => ?_
 refine SC.seq ?_
 refine SC.reg ?_
 refine SL.eff (e_box (E := 24) (C_api_Address a_1) (by kernel_rfl)) rfl (by kernel_rfl) ?_
 refine SL.sim tk 2 [(1, vp 0 0)] [] [] [] (by kernel_rfl) ?_
 refine SL.nilThen ?_
 refine SC.seq ?_
 refine SC.r tk [(1, vp 0 0), (6, vb (a_1.Kind == 3))] [] [] [] (by kernel_rfl) ?_
 refine SC.if' rfl hp (fun hp => ?_) (fun hp => ?_)
 · refine SC.cut (fun a w => ∃ (x_2 : Int), address_part_j1 F x_2 = some r ∧ A 16 0 fx [(2, vi .u64 x_2), (3, vi .i64 22)] [] a w) ?_ ?_
   · refine SC.draw MO [true] (by kernel_rfl) fun kap_3 D_4 => ?_
     refine SD.takes tk D_4 [] kn0 [0, 1, 2] [.bin .shr .u64 a_1.Bits 24 (shrp a_1.Bits 24) (by kernel_rfl)] [a_1.Bits, 24] [I, I, I, O, O, O, O] [(9, vi .u64 (shrp a_1.Bits 24))] rfl (by kernel_rfl) (by kernel_rfl) (by kernel_rfl) ?_
     obtain ⟨x_5, e_x_5, hp⟩ := bind_inv hp
     refine SD.all1 (i := 3) (by kernel_rfl) ?_
     refine SW.eff D_4 (i := 3) (bs' := [I, I, I, I, O, O, O]) rfl (.inl rfl) rfl (e_c Tryd.call71 (ok_address_mask F 22 _ e_x_5) [] [vi .i64 22] (vi .u64 x_5) (by kernel_rfl) (.inl rfl)) (by kernel_rfl) rfl (by kernel_rfl) ?_
     refine SD.takes tk D_4 [] kn0 [4, 5, 6] [] [] [I, I, I, I, I, I, I] [(2, vi .u64 (iand .u64 (shrp a_1.Bits 24) x_5)), (3, vi .i64 22)] rfl (by kernel_rfl) (by kernel_rfl) (by kernel_rfl) ?_
     refine SD.done (by kernel_rfl) fun a w h => ?_
     exact ⟨iand .u64 (shrp a_1.Bits 24) x_5, hp, h.at (js := []) (by kernel_rfl)⟩
   · rintro a w ⟨x_2, hp, h⟩
     refine h.go ?_
     obtain rfl := some_inv' hp
     exact SC.re (js := []) tk (by kernel_rfl)
 · refine SC.skipThen ?_
   refine SC.cut (fun a w => ∃ (x_6 : Int), address_part_j2 F x_6 = some r ∧ A 16 0 fx [(2, vi .u64 x_6), (3, vi .i64 46)] [] a w) ?_ ?_
   · refine SC.draw MO [true] (by kernel_rfl) fun kap_7 D_8 => ?_
     refine SD.takes tk D_8 [] kn0 [0, 1] [] [] [I, I, O, O, O, O] [(13, vi .u64 a_1.Bits)] rfl (by kernel_rfl) (by kernel_rfl) (by kernel_rfl) ?_
     obtain ⟨x_9, e_x_9, hp⟩ := bind_inv hp
     refine SD.all1 (i := 2) (by kernel_rfl) ?_
     refine SW.eff D_8 (i := 2) (bs' := [I, I, I, O, O, O]) rfl (.inl rfl) rfl (e_c Tryd.call71 (ok_address_mask F 46 _ e_x_9) [] [vi .i64 46] (vi .u64 x_9) (by kernel_rfl) (.inl rfl)) (by kernel_rfl) rfl (by kernel_rfl) ?_
     refine SD.takes tk D_8 [] kn0 [3, 4, 5] [] [] [I, I, I, I, I, I] [(2, vi .u64 (iand .u64 a_1.Bits x_9)), (3, vi .i64 46)] rfl (by kernel_rfl) (by kernel_rfl) (by kernel_rfl) ?_
     refine SD.done (by kernel_rfl) fun a w h => ?_
     exact ⟨iand .u64 a_1.Bits x_9, hp, h.at (js := []) (by kernel_rfl)⟩
   · rintro a w ⟨x_6, hp, h⟩
     refine h.go ?_
     obtain rfl := some_inv' hp
     exact SC.re (js := []) tk (by kernel_rfl)

theorem ok_address_Check (F : Nat) (a_1 : T_api_Address) (r : Int) (hp : address_Check F a_1 = some r) : Spec Tryd.prog 48 [.g (C_api_Address a_1)] [] (vi .i64 r) [] := by
 refine Spec.enter Tryd.func48 rfl Tryd.ntmps48 rfl rfl fun fx => ?_
 refine SC.seq ?_
 refine SC.reg ?_
 refine SL.eff (e_box (E := 24) (C_api_Address a_1) (by kernel_rfl)) rfl (by kernel_rfl) ?_
 refine SL.sim tk 1 [(1, vp 0 0)] [] [] [] (by kernel_rfl) ?_
 refine SL.nilThen ?_
 refine SC.seq ?_
 refine SC.block ?_
 refine SC.r tk [(1, vp 0 0), (5, vb ((decide (a_1.Kind ≤ 0)) || (decide (a_1.Kind ≥ 5))))] [] [] [] (by kernel_rfl) ?_
 refine SC.if' rfl hp (fun hp => ?_) (fun hp => ?_)
 · refine SC.r tk [(2, vi .i64 12)] [] [] [] (by kernel_rfl) ?_
   obtain rfl := some_inv' hp
   exact SC.re (js := []) tk (by kernel_rfl)
 · refine SC.r tk [(1, vp 0 0), (14, vb ((shrp a_1.Bits 48) != 0))] [] [.bin .shr .u64 a_1.Bits 48 (shrp a_1.Bits 48) (by kernel_rfl)] [a_1.Bits, 48] (by kernel_rfl) ?_
   refine SC.if' rfl hp (fun hp => ?_) (fun hp => ?_)
   · refine SC.r tk [(2, vi .i64 5)] [] [] [] (by kernel_rfl) ?_
     obtain rfl := some_inv' hp
     exact SC.re (js := []) tk (by kernel_rfl)
   · refine SC.r tk [(1, vp 0 0), (19, vb (a_1.Kind == 1))] [] [] [] (by kernel_rfl) ?_
     refine SC.if' rfl hp (fun hp => ?_) (fun hp => ?_)
     · refine SC.r tk [(2, vi .i64 0)] [] [] [] (by kernel_rfl) ?_
       obtain rfl := some_inv' hp
       exact SC.re (js := []) tk (by kernel_rfl)
     · refine SC.skipThen ?_
       refine SC.seq ?_
       refine SC.reg ?_
       refine SL.sim tk 1 [(1, vp 0 0), (24, .g (C_api_Address a_1))] [] [] [] (by kernel_rfl) ?_
       obtain ⟨x_2, e_x_2, hp⟩ := bind_inv hp
       refine SL.eff (e_c Tryd.call70 (ok_address_part F a_1 _ e_x_2) [] [.g (C_api_Address a_1)] (.u [.inl (ci .u64 x_2.1), .inl (ci .i64 x_2.2)]) (by kernel_rfl) (.inl rfl)) rfl (by kernel_rfl) ?_
       refine SL.sim tk 5 [(1, vp 0 0), (3, vi .u64 x_2.1), (4, vi .i64 x_2.2)] [] [] [] (by kernel_rfl) ?_
       refine SL.nilThen ?_
       refine SC.seq ?_
       refine SC.cut (fun a w => ∃ (z_3 : Bool), address_Check_j1 F z_3 = some r ∧ A 46 0 fx [(45, vb z_3)] [] a w) ?_ ?_
       · refine SC.draw MO [true] (by kernel_rfl) fun kap_4 D_5 => ?_
         refine SD.takes tk D_5 [] kn0 [0, 1, 2, 3, 4] [.bin .shr .u64 a_1.Bits 46 (shrp a_1.Bits 46) (by kernel_rfl)] [a_1.Bits, 46] [I, I, I, I, I, O, O, O, O, O, O, O, O, O, O, O, O, O] [(3, vi .u64 x_2.1), (4, vi .i64 x_2.2), (30, vi .u64 (shrp a_1.Bits 46)), (32, vi .i64 a_1.Kind)] rfl (by kernel_rfl) (by kernel_rfl) (by kernel_rfl) ?_
         obtain ⟨x_6, e_x_6, hp⟩ := bind_inv hp
         refine SD.all1 (i := 5) (by kernel_rfl) ?_
         refine SW.eff D_5 (i := 5) (bs' := [I, I, I, I, I, I, O, O, O, O, O, O, O, O, O, O, O, O]) rfl (.inl rfl) rfl (e_gix (E := 22) (g := 0) (kk := .u64) (l := [0, 0, 3, 1, 0]) tk rfl rfl e_x_6 (by kernel_rfl)) (by kernel_rfl) rfl (by kernel_rfl) ?_
         refine SD.norm (itsN := [.blk 24 (C_api_Address a_1), .elt none false [ci .u64 x_6]]) (by kernel_rfl) ?_
         refine SD.all1 (i := 6) (by kernel_rfl) ?_
         refine SW.eff D_5 (i := 6) (v := vi .u64 x_6) (bs' := [I, I, I, I, I, I, I, O, O, O, O, O, O, O, O, O, O, O]) rfl (.inl rfl) rfl (e_val tk (by kernel_rfl)) (by kernel_rfl) rfl (by kernel_rfl) ?_
         refine SD.takes tk D_5 [] kn0 [7, 8, 9, 10, 11, 12] [] [] [I, I, I, I, I, I, I, I, I, I, I, I, I, O, O, O, O, O] [(3, vi .u64 x_2.1), (4, vi .i64 x_2.2), (40, vb (((shrp a_1.Bits 46) != x_6) || (x_2.1 == 0)))] rfl (by kernel_rfl) (by kernel_rfl) (by kernel_rfl) ?_
         rcases Bool.eq_false_or_eq_true ((((shrp a_1.Bits 46) != x_6) || (x_2.1 == 0))) with hg_7 | hg_7
         · replace hp := if_t hp hg_7
           refine SD.takes tk D_5 [(40, true)] (knS rfl hg_7 kn0) [13, 14, 15, 16, 17] [] [] [I, I, I, I, I, I, I, I, I, I, I, I, I, I, I, I, I, I] [(45, vb true)] rfl (by kernel_rfl) (by kernel_rfl) (by kernel_rfl) ?_
           refine SD.done (by kernel_rfl) fun a w h => ?_
           exact ⟨true, hp, h.at (js := []) (by kernel_rfl)⟩
         · replace hp := if_f hp hg_7
           refine SD.takes tk D_5 [(40, false)] (knS rfl hg_7 kn0) [13, 14] [] [] [I, I, I, I, I, I, I, I, I, I, I, I, I, I, I, O, O, O] [(40, vb (((shrp a_1.Bits 46) != x_6) || (x_2.1 == 0))), (41, vi .u64 x_2.1), (42, vi .i64 x_2.2)] rfl (by kernel_rfl) (by kernel_rfl) (by kernel_rfl) ?_
           obtain ⟨x_8, e_x_8, hp⟩ := bind_inv hp
           refine SD.all1 (i := 15) (by kernel_rfl) ?_
           refine SW.eff D_5 (i := 15) (bs' := [I, I, I, I, I, I, I, I, I, I, I, I, I, I, I, I, O, O]) rfl (.inr ⟨_, _, _, _, rfl, rfl, rfl, hg_7⟩) rfl (e_c Tryd.call71 (ok_address_mask F x_2.2 _ e_x_8) [] [vi .i64 x_2.2] (vi .u64 x_8) (by kernel_rfl) (.inl rfl)) (by kernel_rfl) rfl (by kernel_rfl) ?_
           refine SD.norm (itsN := [.blk 24 (C_api_Address a_1), .elt none false [ci .u64 x_6]]) (by kernel_rfl) ?_
           refine SD.takes tk D_5 [(40, false)] (knS rfl hg_7 kn0) [16, 17] [] [] [I, I, I, I, I, I, I, I, I, I, I, I, I, I, I, I, I, I] [(45, vb (x_2.1 == x_8))] rfl (by kernel_rfl) (by kernel_rfl) (by kernel_rfl) ?_
           refine SD.done (by kernel_rfl) fun a w h => ?_
           exact ⟨(x_2.1 == x_8), hp, h.at (js := []) (by kernel_rfl)⟩
       · rintro a w ⟨z_3, hp, h⟩
         refine h.go ?_
         refine SC.if' rfl hp (fun hp => ?_) (fun hp => ?_)
         · refine SC.r tk [(2, vi .i64 1)] [] [] [] (by kernel_rfl) ?_
           obtain rfl := some_inv' hp
           exact SC.re (js := []) tk (by kernel_rfl)
         · refine SC.skipThen ?_
           refine SC.r tk [(2, vi .i64 0)] [] [] [] (by kernel_rfl) ?_
           obtain rfl := some_inv' hp
           exact SC.re (js := []) tk (by kernel_rfl)

theorem ok_bonds_Check (F : Nat) (b_1 : T_api_Bond) (r : Int) (hp : bonds_Check F b_1 = some r) : Spec Tryd.prog 14 [.g (C_api_Bond b_1 (.s 0))] [.rd 2 R_T_api_Subscription b_1.Subs] (vi .i64 r) [.gone] := by
 refine Spec.enter Tryd.func14 rfl Tryd.ntmps14 rfl rfl fun fx => ?_
 refine SC.seq ?_
 refine SC.reg ?_
 refine SL.eff (e_box (E := 30) (C_api_Bond b_1 (.s 0)) (by kernel_rfl)) rfl (by kernel_rfl) ?_
 refine SL.sim tk 1 [(1, vp 1 0)] [] [] [] (by kernel_rfl) ?_
 refine SL.nilThen ?_
 refine SC.seq ?_
 refine SC.seq ?_
 refine SC.reg ?_
 refine SL.sim tk 3 [(1, vp 1 0), (8, .g (C_api_Address b_1.Peer.Address))] [] [] [] (by kernel_rfl) ?_
 obtain ⟨x_2, e_x_2, hp⟩ := bind_inv hp
 refine SL.eff (e_c Tryd.call48 (ok_address_Check F b_1.Peer.Address _ e_x_2) [] [.g (C_api_Address b_1.Peer.Address)] (vi .i64 x_2) (by kernel_rfl) (.inl rfl)) rfl (by kernel_rfl) ?_
 refine SL.sim tk 1 [(1, vp 1 0), (3, vi .i64 x_2)] [] [] [] (by kernel_rfl) ?_
 refine SL.nilThen ?_
 refine SC.r tk [(1, vp 1 0), (3, vi .i64 x_2), (11, vb (x_2 != 0))] [] [] [] (by kernel_rfl) ?_
 refine SC.if' rfl hp (fun hp => ?_) (fun hp => ?_)
 · refine SC.r tk [(2, vi .i64 x_2)] [] [] [] (by kernel_rfl) ?_
   obtain rfl := some_inv' hp
   exact SC.re (js := [.g 0]) tk (by kernel_rfl)
 · refine SC.skipThen ?_
   refine SC.seq ?_
   refine SC.block ?_
   refine SC.r tk [(1, vp 1 0), (13, vb ((b_1.Peer.Address.Kind != 1) && (b_1.Peer.Address.Kind != 2)))] [] [] [] (by kernel_rfl) ?_
   refine SC.if' rfl hp (fun hp => ?_) (fun hp => ?_)
   · refine SC.r tk [(2, vi .i64 12)] [] [] [] (by kernel_rfl) ?_
     obtain rfl := some_inv' hp
     exact SC.re (js := [.g 0]) tk (by kernel_rfl)
   · refine SC.r tk [(1, vp 1 0), (26, vb ((decide (b_1.Used < 0)) || (decide (b_1.Used > 4294967295))))] [] [] [] (by kernel_rfl) ?_
     refine SC.if' rfl hp (fun hp => ?_) (fun hp => ?_)
     · refine SC.r tk [(2, vi .i64 5)] [] [] [] (by kernel_rfl) ?_
       obtain rfl := some_inv' hp
       exact SC.re (js := [.g 0]) tk (by kernel_rfl)
     · refine SC.r tk [(1, vp 1 0), (35, vb (decide ((len b_1.Subs) > 16)))] [] [] [] (by kernel_rfl) ?_
       refine SC.if' rfl hp (fun hp => ?_) (fun hp => ?_)
       · refine SC.r tk [(2, vi .i64 4)] [] [] [] (by kernel_rfl) ?_
         obtain rfl := some_inv' hp
         exact SC.re (js := [.g 0]) tk (by kernel_rfl)
       · refine SC.skipThen ?_
         refine SC.cut (fun a w => bonds_Check_j1 F = some r ∧ A 76 1 fx [] [.gone] a w) ?_ ?_
         · refine SC.r tk [(1, vp 1 0), (41, vs 0), (42, vi .i64 (len b_1.Subs)), (43, vi .i64 0)] [] [] [] (by kernel_rfl) ?_
           refine SC.block ?_
           obtain ⟨o1, hi1, ho1⟩ := bind_inv hp
           clear hp
           refine SC.loop (fun n a w => ∃ (x_3 : Int), iter (fun s => bonds_Check_l1 F b_1 s) n (x_3) = some o1 ∧ A 76 1 fx [(1, vp 1 0), (41, vs 0), (42, vi .i64 (len b_1.Subs)), (43, vi .i64 x_3)] [.rd 2 R_T_api_Subscription b_1.Subs, .blk 30 (C_api_Bond b_1 (.s 0))] a w) F (fun a w h => ⟨0, hi1, h.at (js := [.g 0, .g 1]) (by kernel_rfl)⟩) ?_
           rintro n1 a w ⟨x_3, hi1, h⟩
           obtain ⟨n1, q1, rfl, hp, hs1⟩ := iter_inv hi1
           replace hp : bonds_Check_l1 F b_1 x_3 = some q1 := hp
           clear hi1
           refine h.go ?_
           refine SC.r tk [(1, vp 1 0), (41, vs 0), (42, vi .i64 (len b_1.Subs)), (43, vi .i64 x_3), (44, vb (decide (x_3 < (len b_1.Subs))))] [] [] [] (by kernel_rfl) ?_
           refine SC.seq ?_
           refine SC.if' rfl hp (fun hp => ?_) (fun hp => ?_)
           · refine SC.skipThen ?_
             refine SC.seq ?_
             refine SC.block ?_
             refine SC.seq ?_
             refine SC.reg ?_
             obtain ⟨x_4, e_x_4, hp⟩ := bind_inv hp
             refine SL.pre (pre_ix (i := 0) (iv := x_3) (sz := 2) (R := R_T_api_Subscription) (l := b_1.Subs) (by kernel_rfl) rfl e_x_4) ?_
             refine SL.sim tk 3 [(1, vp 1 0), (41, vs 0), (42, vi .i64 (len b_1.Subs)), (43, vi .i64 x_3), (45, vi .i64 x_3), (47, .g (C_api_Subscription x_4))] [] [.el 2] [x_3] (by kernel_rfl) ?_
             refine SL.eff (e_alloc (E := 89) tk [ci .u16 0, ci .i64 0] (by kernel_rfl)) rfl (by kernel_rfl) ?_
             refine SL.sim tk 2 [(1, vp 1 0), (4, vi .i64 x_3), (5, vp 3 0), (41, vs 0), (42, vi .i64 (len b_1.Subs)), (43, vi .i64 x_3)] [(3, 89, (C_api_Subscription x_4))] [] [] (by kernel_rfl) ?_
             refine SL.nilThen ?_
             refine SC.seq ?_
             refine SC.r tk [(1, vp 1 0), (4, vi .i64 x_3), (5, vp 3 0), (41, vs 0), (42, vi .i64 (len b_1.Subs)), (43, vi .i64 x_3), (60, vb (((x_4.Handle == 0) || (decide (x_4.Bits < 0))) || (decide (x_4.Bits > 3))))] [] [] [] (by kernel_rfl) ?_
             refine SC.if' rfl hp (fun hp => ?_) (fun hp => ?_)
             · refine SC.r tk [(2, vi .i64 5)] [] [] [] (by kernel_rfl) ?_
               have ho := done_inv hp hs1
               replace hp := ho1
               try rw [ho] at hp
               obtain rfl := some_inv' hp
               exact SC.re (js := [.g 0]) tk (by kernel_rfl)
             · refine SC.skipThen ?_
               refine SC.cut (fun a w => ∃ (z_5 : Bool), bonds_Check_j2 F x_3 z_5 = some q1 ∧ A 76 1 fx [(1, vp 1 0), (41, vs 0), (42, vi .i64 (len b_1.Subs)), (43, vi .i64 x_3), (74, vb z_5)] [.rd 2 R_T_api_Subscription b_1.Subs, .blk 30 (C_api_Bond b_1 (.s 0))] a w) ?_ ?_
               · refine SC.draw MO [true, true, true, true] (by kernel_rfl) fun kap_6 D_7 => ?_
                 refine SD.takes tk D_7 [] kn0 [0, 1, 2] [] [] [I, I, I, O, O, O, O, O, O, O, O, O, O, O] [(1, vp 1 0), (4, vi .i64 x_3), (5, vp 3 0), (41, vs 0), (42, vi .i64 (len b_1.Subs)), (43, vi .i64 x_3), (63, vb (decide (x_3 > 0)))] rfl (by kernel_rfl) (by kernel_rfl) (by kernel_rfl) ?_
                 rcases Bool.eq_false_or_eq_true (decide (x_3 > 0)) with hg_8 | hg_8
                 · replace hp := if_t hp hg_8
                   refine SD.takes tk D_7 [(63, true)] (knS rfl hg_8 kn0) [3, 4, 5, 6, 7, 8] [] [] [I, I, I, I, I, I, I, I, I, O, O, O, O, O] [(1, vp 1 0), (41, vs 0), (42, vi .i64 (len b_1.Subs)), (43, vi .i64 x_3), (63, vb (decide (x_3 > 0))), (64, vp 3 0), (65, vi .u16 x_4.Handle), (66, vp 1 8), (67, vs 0), (68, vi .i64 x_3), (69, vi .i64 (w64 (x_3 - 1)))] rfl (by kernel_rfl) (by kernel_rfl) (by kernel_rfl) ?_
                   obtain ⟨x_9, e_x_9, hp⟩ := bind_inv hp
                   refine SD.pre (pre_ix (i := 0) (iv := w64 (x_3 - 1)) (sz := 2) (R := R_T_api_Subscription) (l := b_1.Subs) (by kernel_rfl) rfl e_x_9) ?_
                   refine SD.all1 (i := 9) (by kernel_rfl) ?_
                   refine SW.eff D_7 (i := 9) (v := vp 4 0) (bs' := [I, I, I, I, I, I, I, I, I, I, O, O, O, O]) rfl (.inr ⟨_, _, _, _, rfl, rfl, rfl, hg_8⟩) rfl (e_valE tk (.el 4) [w64 (x_3 - 1)] (by kernel_rfl)) (by kernel_rfl) rfl (by kernel_rfl) ?_
                   refine SD.norm (itsN := [.rd 2 R_T_api_Subscription b_1.Subs, .blk 30 (C_api_Bond b_1 (.s 0)), .elt (some (0, x_3)) false (C_api_Subscription x_4), .blk 89 (C_api_Subscription x_4), .elt (some (0, w64 (x_3 - 1))) false (C_api_Subscription x_9)]) (by kernel_rfl) ?_
                   refine SD.all1 (i := 10) (by kernel_rfl) ?_
                   refine SW.eff D_7 (i := 10) (v := vp 4 0) (bs' := [I, I, I, I, I, I, I, I, I, I, I, O, O, O]) rfl (.inr ⟨_, _, _, _, rfl, rfl, rfl, hg_8⟩) rfl (e_val tk (by kernel_rfl)) (by kernel_rfl) rfl (by kernel_rfl) ?_
                   refine SD.all1 (i := 11) (by kernel_rfl) ?_
                   refine SW.eff D_7 (i := 11) (v := vi .u16 x_9.Handle) (bs' := [I, I, I, I, I, I, I, I, I, I, I, I, O, O]) rfl (.inr ⟨_, _, _, _, rfl, rfl, rfl, hg_8⟩) rfl (e_val tk (by kernel_rfl)) (by kernel_rfl) rfl (by kernel_rfl) ?_
                   refine SD.norm (itsN := [.rd 2 R_T_api_Subscription b_1.Subs, .blk 30 (C_api_Bond b_1 (.s 0)), .elt (some (0, x_3)) false (C_api_Subscription x_4), .blk 89 (C_api_Subscription x_4), .elt (some (0, w64 (x_3 - 1))) false (C_api_Subscription x_9)]) (by kernel_rfl) ?_
                   refine SD.takes tk D_7 [(63, true)] (knS rfl hg_8 kn0) [12, 13] [] [] [I, I, I, I, I, I, I, I, I, I, I, I, I, I] [(1, vp 1 0), (41, vs 0), (42, vi .i64 (len b_1.Subs)), (43, vi .i64 x_3), (64, vp 3 0), (65, vi .u16 x_4.Handle), (66, vp 1 8), (67, vs 0), (68, vi .i64 x_3), (69, vi .i64 (w64 (x_3 - 1))), (70, vp 4 0), (71, vp 4 0), (72, vi .u16 x_9.Handle), (73, vb (decide (x_4.Handle ≤ x_9.Handle))), (74, vb (decide (x_4.Handle ≤ x_9.Handle)))] rfl (by kernel_rfl) (by kernel_rfl) (by kernel_rfl) ?_
                   refine SD.done (by kernel_rfl) fun a w h => ?_
                   exact ⟨decide (x_4.Handle ≤ x_9.Handle), hp, h.at (js := [.g 0, .g 1]) (by kernel_rfl)⟩
                 · replace hp := if_f hp hg_8
                   refine SD.takes tk D_7 [(63, false)] (knS rfl hg_8 kn0) [3, 4, 5, 6, 7, 8, 9, 10, 11, 12, 13] [] [] [I, I, I, I, I, I, I, I, I, I, I, I, I, I] [(1, vp 1 0), (41, vs 0), (42, vi .i64 (len b_1.Subs)), (43, vi .i64 x_3), (64, .u []), (65, .u []), (66, .u []), (67, .u []), (68, .u []), (69, .u []), (70, .u []), (71, .u []), (72, .u []), (73, .u []), (74, vb false)] rfl (by kernel_rfl) (by kernel_rfl) (by kernel_rfl) ?_
                   refine SD.done (by kernel_rfl) fun a w h => ?_
                   exact ⟨false, hp, h.at (js := [.g 0, .g 1]) (by kernel_rfl)⟩
               · rintro a w ⟨z_5, hp, h⟩
                 refine h.go ?_
                 refine SC.if' rfl hp (fun hp => ?_) (fun hp => ?_)
                 · refine SC.r tk [(2, vi .i64 13)] [] [] [] (by kernel_rfl) ?_
                   have ho := done_inv hp hs1
                   replace hp := ho1
                   try rw [ho] at hp
                   obtain rfl := some_inv' hp
                   exact SC.re (js := [.g 0]) tk (by kernel_rfl)
                 · refine SC.skipThen ?_
                   refine SC.reg ?_
                   refine SL.sim tk 2 [(1, vp 1 0), (41, vs 0), (42, vi .i64 (len b_1.Subs)), (43, vi .i64 (w64 (x_3 + 1)))] [] [] [] (by kernel_rfl) ?_
                   refine SL.nilJ fun a w h => ?_
                   exact ⟨n1, Nat.lt_succ_self _, w64 (x_3 + 1), next_inv hp hs1, h.at (js := [.g 0, .g 1]) (by kernel_rfl)⟩
           · refine SC.exitJ rfl fun a w h => ?_
             have ho := done_inv hp hs1
             replace hp := ho1
             try rw [ho] at hp
             exact ⟨hp, h.at (js := [.g 0]) (by kernel_rfl)⟩
         · rintro a w ⟨hp, h⟩
           refine h.go ?_
           refine SC.r tk [(2, vi .i64 0)] [] [] [] (by kernel_rfl) ?_
           obtain rfl := some_inv' hp
           exact SC.re (js := [.g 0]) tk (by kernel_rfl)

theorem ok_octets_sized (F : Nat) (n_1 : Int) (r : Bool) (hp : octets_sized F n_1 = some r) : Spec Tryd.prog 69 [vi .i64 n_1] [] (vb r) [] := by
 refine Spec.enter Tryd.func69 rfl Tryd.ntmps69 rfl rfl fun fx => ?_
 refine SC.r tk [(0, vi .i64 n_1)] [] [] [] (by kernel_rfl) ?_
 refine SC.r tk [(2, vb ((decide (n_1 ≥ 1)) && (decide (n_1 ≤ 8))))] [] [] [] (by kernel_rfl) ?_
 obtain rfl := some_inv' hp
 exact SC.re (js := []) tk (by kernel_rfl)

theorem ok_octets_Put (F : Nat) (fields_1 : (List T_api_Field)) (r : (List Int) × Int) (hp : octets_Put F fields_1 = some r) : Spec Tryd.prog 40 [vs 0] [.rd 2 R_T_api_Field fields_1] (.u [.inl (.s 1), .inl (ci .i64 r.2)]) [.gone, .rd 1 R8 r.1] := by
 refine Spec.enter Tryd.func40 rfl Tryd.ntmps40 rfl rfl fun fx => ?_
 refine SC.r tk [(0, vs 0)] [] [] [] (by kernel_rfl) ?_
 refine SC.r tk [(0, vs 0), (4, vn)] [] [] [] (by kernel_rfl) ?_
 refine SC.cut (fun a w => ∃ (l_2 : (List Int)), octets_Put_j1 F l_2 = some r ∧ A 49 1 fx [(4, vs 1)] [.gone, .own 1 5 R8 l_2] a w) ?_ ?_
 · refine SC.r tk [(4, vn), (8, vs 0), (9, vi .i64 (len fields_1)), (10, vi .i64 0)] [] [] [] (by kernel_rfl) ?_
   refine SC.block ?_
   obtain ⟨o1, hi1, ho1⟩ := bind_inv hp
   clear hp
   refine SC.loop (fun n a w => ∃ (l_3 : (List Int)) (x_4 : Int), iter (fun s => octets_Put_l1 F fields_1 s.1 s.2) n (l_3, x_4) = some o1 ∧ A 49 1 fx [(4, vs 1), (8, vs 0), (9, vi .i64 (len fields_1)), (10, vi .i64 x_4)] [.rd 2 R_T_api_Field fields_1, .own 1 5 R8 l_3] a w) F (fun a w h => ⟨[], 0, hi1, h.at (js := [.g 0, .n]) (by kernel_rfl)⟩) ?_
   rintro n1 a w ⟨l_3, x_4, hi1, h⟩
   obtain ⟨n1, q1, rfl, hp, hs1⟩ := iter_inv hi1
   replace hp : octets_Put_l1 F fields_1 l_3 x_4 = some q1 := hp
   clear hi1
   refine h.go ?_
   refine SC.r tk [(4, vs 1), (8, vs 0), (9, vi .i64 (len fields_1)), (10, vi .i64 x_4), (11, vb (decide (x_4 < (len fields_1))))] [] [] [] (by kernel_rfl) ?_
   refine SC.seq ?_
   refine SC.if' rfl hp (fun hp => ?_) (fun hp => ?_)
   · refine SC.skipThen ?_
     refine SC.cut (fun a w => ∃ (l_5 : (List Int)), octets_Put_j2 F x_4 l_5 = some q1 ∧ A 49 1 fx [(4, vs 1), (8, vs 0), (9, vi .i64 (len fields_1)), (10, vi .i64 x_4)] [.rd 2 R_T_api_Field fields_1, .own 1 5 R8 l_5] a w) ?_ ?_
     · refine SC.block ?_
       refine SC.seq ?_
       refine SC.reg ?_
       obtain ⟨x_6, e_x_6, hp⟩ := bind_inv hp
       refine SL.pre (pre_ix (i := 0) (iv := x_4) (sz := 2) (R := R_T_api_Field) (l := fields_1) (by kernel_rfl) rfl e_x_6) ?_
       refine SL.sim tk 2 [(4, vs 1), (8, vs 0), (9, vi .i64 (len fields_1)), (10, vi .i64 x_4), (13, .g (C_api_Field x_6))] [] [.el 2] [x_4] (by kernel_rfl) ?_
       refine SL.eff (e_alloc (E := 83) tk [ci .i64 0, ci .u64 0] (by kernel_rfl)) rfl (by kernel_rfl) ?_
       refine SL.sim tk 1 [(4, vs 1), (6, vp 3 0), (8, vs 0), (9, vi .i64 (len fields_1)), (10, vi .i64 x_4)] [(3, 83, (C_api_Field x_6))] [] [] (by kernel_rfl) ?_
       refine SL.nilThen ?_
       refine SC.seq ?_
       refine SC.seq ?_
       refine SC.reg ?_
       refine SL.sim tk 2 [(4, vs 1), (6, vp 3 0), (8, vs 0), (9, vi .i64 (len fields_1)), (10, vi .i64 x_4), (15, vi .i64 x_6.Size)] [] [] [] (by kernel_rfl) ?_
       obtain ⟨x_7, e_x_7, hp⟩ := bind_inv hp
       refine SL.eff (e_c Tryd.call69 (ok_octets_sized F x_6.Size _ e_x_7) [] [vi .i64 x_6.Size] (vb x_7) (by kernel_rfl) (.inl rfl)) rfl (by kernel_rfl) ?_
       refine SL.norm (itsN := [.rd 2 R_T_api_Field fields_1, .own 1 5 R8 l_3, .elt (some (0, x_4)) false (C_api_Field x_6), .blk 83 (C_api_Field x_6)]) (by kernel_rfl) ?_
       refine SL.sim tk 2 [(4, vs 1), (6, vp 3 0), (8, vs 0), (9, vi .i64 (len fields_1)), (10, vi .i64 x_4), (18, vb (!x_7))] [] [] [] (by kernel_rfl) ?_
       obtain ⟨z_9, hz, hpr⟩ := bind_inv hp
       clear hp
       refine SL.cutAt 13 (fun a w => A 49 1 fx [(4, vs 1), (6, vp 2 0), (8, vs 0), (9, vi .i64 (len fields_1)), (10, vi .i64 x_4), (31, vb z_9)] [.rd 2 R_T_api_Field fields_1, .own 1 5 R8 l_3, .blk 83 (C_api_Field x_6)] a w) ?_ ?_
       · have hp := hz
         rcases Bool.eq_false_or_eq_true ((!x_7)) with hg_8 | hg_8
         · replace hp := if_t hp hg_8
           refine SL.no rfl rfl hg_8 rfl ?_
           refine SL.no rfl rfl hg_8 rfl ?_
           refine SL.no rfl rfl hg_8 rfl ?_
           refine SL.no rfl rfl hg_8 rfl ?_
           refine SL.noU rfl rfl rfl ?_
           refine SL.noU rfl rfl rfl ?_
           refine SL.noU rfl rfl rfl ?_
           refine SL.noU rfl rfl rfl ?_
           refine SL.noU rfl rfl rfl ?_
           refine SL.noU rfl rfl rfl ?_
           refine SL.noU rfl rfl rfl ?_
           refine SL.no rfl rfl hg_8 rfl ?_
           refine SL.pickt rfl hg_8 rfl rfl ?_
           refine SL.nilJ fun a w h => ?_
           obtain rfl := some_inv' hp
           exact h.at (js := [.g 0, .g 1, .g 3]) (by kernel_rfl)
         · replace hp := if_f hp hg_8
           refine SL.yes rfl rfl hg_8 ?_
           refine SL.sim tk 1 [(4, vs 1), (6, vp 3 0), (8, vs 0), (9, vi .i64 (len fields_1)), (10, vi .i64 x_4), (18, vb (!x_7)), (19, vp 3 0)] [] [] [] (by kernel_rfl) ?_
           refine SL.yes rfl rfl hg_8 ?_
           refine SL.sim tk 1 [(4, vs 1), (6, vp 3 0), (8, vs 0), (9, vi .i64 (len fields_1)), (10, vi .i64 x_4), (18, vb (!x_7)), (19, vp 3 0), (20, vi .i64 x_6.Size)] [] [] [] (by kernel_rfl) ?_
           refine SL.yes rfl rfl hg_8 ?_
           refine SL.sim tk 1 [(4, vs 1), (6, vp 3 0), (8, vs 0), (9, vi .i64 (len fields_1)), (10, vi .i64 x_4), (18, vb (!x_7)), (19, vp 3 0), (20, vi .i64 x_6.Size), (21, vb (decide (x_6.Size < 8)))] [] [] [] (by kernel_rfl) ?_
           refine SL.yes rfl rfl hg_8 ?_
           refine SL.sim tk 1 [(4, vs 1), (6, vp 3 0), (8, vs 0), (9, vi .i64 (len fields_1)), (10, vi .i64 x_4), (18, vb (!x_7)), (19, vp 3 0), (20, vi .i64 x_6.Size), (21, vb (decide (x_6.Size < 8))), (22, vb (decide (x_6.Size < 8)))] [] [] [] (by kernel_rfl) ?_
           rcases Bool.eq_false_or_eq_true (decide (x_6.Size < 8)) with hg_15 | hg_15
           · replace hp := if_t hp hg_15
             refine SL.yes rfl rfl hg_15 ?_
             refine SL.sim tk 1 [(4, vs 1), (6, vp 3 0), (8, vs 0), (9, vi .i64 (len fields_1)), (10, vi .i64 x_4), (18, vb (!x_7)), (19, vp 3 0), (20, vi .i64 x_6.Size), (21, vb (decide (x_6.Size < 8))), (22, vb (decide (x_6.Size < 8))), (23, vp 3 1)] [] [] [] (by kernel_rfl) ?_
             refine SL.yes rfl rfl hg_15 ?_
             refine SL.sim tk 1 [(4, vs 1), (6, vp 3 0), (8, vs 0), (9, vi .i64 (len fields_1)), (10, vi .i64 x_4), (18, vb (!x_7)), (19, vp 3 0), (20, vi .i64 x_6.Size), (21, vb (decide (x_6.Size < 8))), (22, vb (decide (x_6.Size < 8))), (23, vp 3 1), (24, vi .u64 x_6.Value)] [] [] [] (by kernel_rfl) ?_
             refine SL.yes rfl rfl hg_15 ?_
             refine SL.sim tk 1 [(4, vs 1), (6, vp 3 0), (8, vs 0), (9, vi .i64 (len fields_1)), (10, vi .i64 x_4), (18, vb (!x_7)), (19, vp 3 0), (20, vi .i64 x_6.Size), (21, vb (decide (x_6.Size < 8))), (22, vb (decide (x_6.Size < 8))), (23, vp 3 1), (24, vi .u64 x_6.Value), (25, vp 3 0)] [] [] [] (by kernel_rfl) ?_
             refine SL.yes rfl rfl hg_15 ?_
             refine SL.sim tk 1 [(4, vs 1), (6, vp 3 0), (8, vs 0), (9, vi .i64 (len fields_1)), (10, vi .i64 x_4), (18, vb (!x_7)), (19, vp 3 0), (20, vi .i64 x_6.Size), (21, vb (decide (x_6.Size < 8))), (22, vb (decide (x_6.Size < 8))), (23, vp 3 1), (24, vi .u64 x_6.Value), (25, vp 3 0), (26, vi .i64 x_6.Size)] [] [] [] (by kernel_rfl) ?_
             refine SL.yes rfl rfl hg_15 ?_
             refine SL.sim tk 1 [(4, vs 1), (6, vp 3 0), (8, vs 0), (9, vi .i64 (len fields_1)), (10, vi .i64 x_4), (18, vb (!x_7)), (19, vp 3 0), (20, vi .i64 x_6.Size), (21, vb (decide (x_6.Size < 8))), (22, vb (decide (x_6.Size < 8))), (23, vp 3 1), (24, vi .u64 x_6.Value), (25, vp 3 0), (26, vi .i64 x_6.Size), (27, vi .i64 (w64 (8 * x_6.Size)))] [] [] [] (by kernel_rfl) ?_
             refine SL.yes rfl rfl hg_15 ?_
             obtain ⟨x_16, e_x_16, hp⟩ := bind_inv hp
             refine SL.sim tk 1 [(4, vs 1), (6, vp 3 0), (8, vs 0), (9, vi .i64 (len fields_1)), (10, vi .i64 x_4), (18, vb (!x_7)), (19, vp 3 0), (20, vi .i64 x_6.Size), (21, vb (decide (x_6.Size < 8))), (22, vb (decide (x_6.Size < 8))), (23, vp 3 1), (24, vi .u64 x_6.Value), (25, vp 3 0), (26, vi .i64 x_6.Size), (27, vi .i64 (w64 (8 * x_6.Size))), (28, vi .u64 x_16)] [] [.bin .shr .u64 x_6.Value (w64 (8 * x_6.Size)) x_16 e_x_16] [x_6.Value, w64 (8 * x_6.Size)] (by kernel_rfl) ?_
             refine SL.yes rfl rfl hg_15 ?_
             refine SL.sim tk 1 [(4, vs 1), (6, vp 3 0), (8, vs 0), (9, vi .i64 (len fields_1)), (10, vi .i64 x_4), (18, vb (!x_7)), (19, vp 3 0), (20, vi .i64 x_6.Size), (21, vb (decide (x_6.Size < 8))), (22, vb (decide (x_6.Size < 8))), (23, vp 3 1), (24, vi .u64 x_6.Value), (25, vp 3 0), (26, vi .i64 x_6.Size), (27, vi .i64 (w64 (8 * x_6.Size))), (28, vi .u64 x_16), (29, vb (x_16 != 0))] [] [] [] (by kernel_rfl) ?_
             refine SL.yes rfl rfl hg_8 ?_
             refine SL.pickt rfl hg_15 rfl rfl ?_
             refine SL.pickf rfl hg_8 rfl rfl ?_
             refine SL.nilJ fun a w h => ?_
             obtain rfl := some_inv' hp
             exact h.at (js := [.g 0, .g 1, .g 3]) (by kernel_rfl)
           · replace hp := if_f hp hg_15
             refine SL.no rfl rfl hg_15 rfl ?_
             refine SL.no rfl rfl hg_15 rfl ?_
             refine SL.no rfl rfl hg_15 rfl ?_
             refine SL.no rfl rfl hg_15 rfl ?_
             refine SL.no rfl rfl hg_15 rfl ?_
             refine SL.no rfl rfl hg_15 rfl ?_
             refine SL.no rfl rfl hg_15 rfl ?_
             refine SL.yes rfl rfl hg_8 ?_
             refine SL.pickf rfl hg_15 rfl rfl ?_
             refine SL.pickf rfl hg_8 rfl rfl ?_
             refine SL.nilJ fun a w h => ?_
             obtain rfl := some_inv' hp
             exact h.at (js := [.g 0, .g 1, .g 3]) (by kernel_rfl)
       · intro a w h
         have hp := hpr; clear hpr hz
         refine h.goL ?_
         refine SL.nilThen ?_
         refine SC.if' rfl hp (fun hp => ?_) (fun hp => ?_)
         · refine SC.r tk [(2, vn), (3, vi .i64 5)] [] [] [] (by kernel_rfl) ?_
           have ho := done_inv hp hs1
           replace hp := ho1
           try rw [ho] at hp
           obtain rfl := some_inv' hp
           exact SC.re (js := [.g 0, .n]) tk (by kernel_rfl)
         · refine SC.skipThen ?_
           refine SC.r tk [(4, vs 1), (6, vp 2 0), (8, vs 0), (9, vi .i64 (len fields_1)), (10, vi .i64 x_4), (33, vi .i64 x_6.Size), (34, vi .i64 0)] [] [] [] (by kernel_rfl) ?_
           refine SC.block ?_
           obtain ⟨o2, hi2, ho2⟩ := bind_inv hp
           clear hp
           refine SC.loop (fun n a w => ∃ (l_10 : (List Int)) (x_11 : Int), iter (fun s => octets_Put_l2 F x_6 s.1 s.2) n (l_10, x_11) = some o2 ∧ A 49 1 fx [(4, vs 1), (6, vp 2 0), (8, vs 0), (9, vi .i64 (len fields_1)), (10, vi .i64 x_4), (33, vi .i64 x_6.Size), (34, vi .i64 x_11)] [.rd 2 R_T_api_Field fields_1, .own 1 5 R8 l_10, .blk 83 (C_api_Field x_6)] a w) F (fun a w h => ⟨l_3, 0, hi2, h.at (js := [.g 0, .g 1, .g 2]) (by kernel_rfl)⟩) ?_
           rintro n2 a w ⟨l_10, x_11, hi2, h⟩
           obtain ⟨n2, q2, rfl, hp, hs2⟩ := iter_inv hi2
           replace hp : octets_Put_l2 F x_6 l_10 x_11 = some q2 := hp
           clear hi2
           refine h.go ?_
           refine SC.r tk [(4, vs 1), (6, vp 2 0), (8, vs 0), (9, vi .i64 (len fields_1)), (10, vi .i64 x_4), (33, vi .i64 x_6.Size), (34, vi .i64 x_11), (35, vb (decide (x_11 < x_6.Size)))] [] [] [] (by kernel_rfl) ?_
           refine SC.seq ?_
           refine SC.if' rfl hp (fun hp => ?_) (fun hp => ?_)
           · refine SC.skipThen ?_
             refine SC.seq ?_
             refine SC.block ?_
             refine SC.r tk [(4, vs 1), (6, vp 2 0), (7, vi .i64 x_11), (8, vs 0), (9, vi .i64 (len fields_1)), (10, vi .i64 x_4), (33, vi .i64 x_6.Size), (34, vi .i64 x_11)] [] [] [] (by kernel_rfl) ?_
             refine SC.reg ?_
             obtain ⟨x_12, e_x_12, hp⟩ := bind_inv hp
             refine SL.sim tk 7 [(4, vs 1), (6, vp 2 0), (8, vs 0), (9, vi .i64 (len fields_1)), (10, vi .i64 x_4), (33, vi .i64 x_6.Size), (34, vi .i64 x_11), (37, vs 1), (43, vi .u8 (wu8 x_12))] [] [.bin .shr .u64 x_6.Value (w64 (8 * x_11)) x_12 e_x_12] [x_6.Value, w64 (8 * x_11)] (by kernel_rfl) ?_
             refine SL.eff (e_lit (sz := 1) (E := 5) (R := R8) (by_ := 1) tk [[ci .u8 (wu8 x_12)]] [wu8 x_12] (by kernel_rfl) ⟨Clo.int, trivial⟩ rfl (by kernel_rfl) (by kernel_rfl)) rfl (by kernel_rfl) ?_
             obtain ⟨l_13, e_l_13, hp⟩ := bind_inv hp
             refine SL.eff (e_app (i := 1) (l := l_10) (sz := 1) (E := 5) (R := R8) (by_ := 1) (m := [wu8 x_12]) tk rfl (by kernel_rfl) rfl (.o 5 (by kernel_rfl)) e_l_13 (by kernel_rfl)) rfl (by kernel_rfl) ?_
             refine SL.sim tk 1 [(4, vs 4), (6, vp 2 0), (8, vs 0), (9, vi .i64 (len fields_1)), (10, vi .i64 x_4), (33, vi .i64 x_6.Size), (34, vi .i64 x_11)] [] [] [] (by kernel_rfl) ?_
             refine SL.nilThen ?_
             refine SC.reg ?_
             refine SL.sim tk 2 [(4, vs 4), (6, vp 2 0), (8, vs 0), (9, vi .i64 (len fields_1)), (10, vi .i64 x_4), (33, vi .i64 x_6.Size), (34, vi .i64 (w64 (x_11 + 1)))] [] [] [] (by kernel_rfl) ?_
             refine SL.nilJ fun a w h => ?_
             exact ⟨n2, Nat.lt_succ_self _, l_13, w64 (x_11 + 1), next_inv hp hs2, h.at (js := [.g 0, .g 4, .g 2]) (by kernel_rfl)⟩
           · refine SC.exitJ rfl fun a w h => ?_
             have ho := done_inv hp hs2
             replace hp := ho2
             try rw [ho] at hp
             exact ⟨l_10, hp, h.at (js := [.g 0, .g 1]) (by kernel_rfl)⟩
     · rintro a w ⟨l_5, hp, h⟩
       refine h.go ?_
       refine SC.reg ?_
       refine SL.sim tk 2 [(4, vs 1), (8, vs 0), (9, vi .i64 (len fields_1)), (10, vi .i64 (w64 (x_4 + 1)))] [] [] [] (by kernel_rfl) ?_
       refine SL.nilJ fun a w h => ?_
       exact ⟨n1, Nat.lt_succ_self _, l_5, w64 (x_4 + 1), next_inv hp hs1, h.at (js := [.g 0, .g 1]) (by kernel_rfl)⟩
   · refine SC.exitJ rfl fun a w h => ?_
     have ho := done_inv hp hs1
     replace hp := ho1
     try rw [ho] at hp
     exact ⟨l_3, hp, h.at (js := [.g 0, .g 1]) (by kernel_rfl)⟩
 · rintro a w ⟨l_2, hp, h⟩
   refine h.go ?_
   refine SC.r tk [(2, vs 1), (3, vi .i64 0)] [] [] [] (by kernel_rfl) ?_
   obtain rfl := some_inv' hp
   exact SC.re (js := [.g 0, .z 1]) tk (by kernel_rfl)

theorem ok_address_Encode (F : Nat) (a_1 : T_api_Address) (r : (List Int) × Int) (hp : address_Encode F a_1 = some r) : Spec Tryd.prog 37 [.g (C_api_Address a_1)] [] (.u [.inl (.s 0), .inl (ci .i64 r.2)]) [.rd 1 R8 r.1] := by
 refine Spec.enter Tryd.func37 rfl Tryd.ntmps37 rfl rfl fun fx => ?_
 refine SC.seq ?_
 refine SC.reg ?_
 refine SL.eff (e_box (E := 24) (C_api_Address a_1) (by kernel_rfl)) rfl (by kernel_rfl) ?_
 refine SL.sim tk 2 [(1, vp 0 0)] [] [] [] (by kernel_rfl) ?_
 refine SL.nilThen ?_
 refine SC.seq ?_
 refine SC.seq ?_
 refine SC.reg ?_
 refine SL.sim tk 1 [(1, vp 0 0), (5, .g (C_api_Address a_1))] [] [] [] (by kernel_rfl) ?_
 obtain ⟨x_2, e_x_2, hp⟩ := bind_inv hp
 refine SL.eff (e_c Tryd.call48 (ok_address_Check F a_1 _ e_x_2) [] [.g (C_api_Address a_1)] (vi .i64 x_2) (by kernel_rfl) (.inl rfl)) rfl (by kernel_rfl) ?_
 refine SL.sim tk 1 [(1, vp 0 0), (4, vi .i64 x_2)] [] [] [] (by kernel_rfl) ?_
 refine SL.nilThen ?_
 refine SC.r tk [(1, vp 0 0), (4, vi .i64 x_2), (8, vb (x_2 != 0))] [] [] [] (by kernel_rfl) ?_
 refine SC.if' rfl hp (fun hp => ?_) (fun hp => ?_)
 · refine SC.r tk [(2, vn), (3, vi .i64 x_2)] [] [] [] (by kernel_rfl) ?_
   obtain rfl := some_inv' hp
   exact SC.re (js := [.n]) tk (by kernel_rfl)
 · refine SC.skipThen ?_
   refine SC.seq ?_
   refine SC.reg ?_
   refine SL.sim tk 7 [(13, .g [ci .i64 1, ci .u64 (wu64 a_1.Kind)]), (16, .g [ci .i64 6, ci .u64 a_1.Bits])] [] [] [] (by kernel_rfl) ?_
   refine SL.eff (e_lit (sz := 2) (E := 83) (R := R_T_api_Field) (by_ := 16) tk [[ci .i64 1, ci .u64 (wu64 a_1.Kind)], [ci .i64 6, ci .u64 a_1.Bits]] [(T_api_Field.mk 1 (wu64 a_1.Kind)), (T_api_Field.mk 6 a_1.Bits)] (by kernel_rfl) ⟨(clo_T_api_Field (x := (T_api_Field.mk 1 (wu64 a_1.Kind)))), ⟨(clo_T_api_Field (x := (T_api_Field.mk 6 a_1.Bits))), trivial⟩⟩ rfl (by kernel_rfl) (by kernel_rfl)) rfl (by kernel_rfl) ?_
   refine SL.norm (itsN := [.blk 24 (C_api_Address a_1), .own 2 83 R_T_api_Field [(T_api_Field.mk 1 (wu64 a_1.Kind)), (T_api_Field.mk 6 a_1.Bits)]]) (by kernel_rfl) ?_
   obtain ⟨x_3, e_x_3, hp⟩ := bind_inv hp
   refine SL.pre (pre_frz (i := 1) (sz := 2) (E := 83) (R := R_T_api_Field) (l := [(T_api_Field.mk 1 (wu64 a_1.Kind)), (T_api_Field.mk 6 a_1.Bits)]) (by kernel_rfl)) ?_
   refine SL.eff (e_c Tryd.call40 (ok_octets_Put F [(T_api_Field.mk 1 (wu64 a_1.Kind)), (T_api_Field.mk 6 a_1.Bits)] _ e_x_3) [.g 1] [vs 1] (.u [.inl (.s 2), .inl (ci .i64 x_3.2)]) (by kernel_rfl) (.inl rfl)) rfl (by kernel_rfl) ?_
   refine SL.sim tk 4 [(2, vs 2), (3, vi .i64 x_3.2)] [] [] [] (by kernel_rfl) ?_
   refine SL.nilThen ?_
   obtain rfl := some_inv' hp
   exact SC.re (js := [.g 2]) tk (by kernel_rfl)

theorem ok_bonds_Encode_1 (F : Nat) (size_1 : Int) (n_2 : Int) (r : T_api_Field) (hp : bonds_Encode_1 F size_1 n_2 = some r) : Spec Tryd.prog 38 [vi .i64 size_1, vi .u64 n_2] [] (.g [ci .i64 r.Size, ci .u64 r.Value]) [] := by
 refine Spec.enter Tryd.func38 rfl Tryd.ntmps38 rfl rfl fun fx => ?_
 refine SC.seq ?_
 refine SC.reg ?_
 refine SL.eff (e_alloc (E := 83) tk [ci .i64 0, ci .u64 0] (by kernel_rfl)) rfl (by kernel_rfl) ?_
 refine SL.nilThen ?_
 refine SC.r tk [(4, vp 0 0)] [(0, 83, [ci .i64 size_1, ci .u64 n_2])] [] [] (by kernel_rfl) ?_
 obtain rfl := some_inv' hp
 exact SC.re (js := []) tk (by kernel_rfl)

theorem ok_bonds_flags (F : Nat) (b_1 : T_api_Bond) (r : Int) (hp : bonds_flags F b_1 = some r) : Spec Tryd.prog 39 [.g (C_api_Bond b_1 (.s 0))] [.rd 2 R_T_api_Subscription b_1.Subs] (vi .u64 r) [.gone] := by
 refine Spec.enter Tryd.func39 rfl Tryd.ntmps39 rfl rfl fun fx => ?_
 refine SC.seq ?_
 refine SC.reg ?_
 refine SL.eff (e_box (E := 30) (C_api_Bond b_1 (.s 0)) (by kernel_rfl)) rfl (by kernel_rfl) ?_
 refine SL.sim tk 1 [(1, vp 1 0)] [] [] [] (by kernel_rfl) ?_
 refine SL.nilThen ?_
 refine SC.r tk [(1, vp 1 0), (3, vi .u64 0)] [] [] [] (by kernel_rfl) ?_
 refine SC.cut (fun a w => ∃ (x_2 : Int), bonds_flags_j1 F b_1 x_2 = some r ∧ A 13 1 fx [(1, vp 1 0), (3, vi .u64 x_2)] [.rd 2 R_T_api_Subscription b_1.Subs, .blk 30 (C_api_Bond b_1 (.s 0))] a w) ?_ ?_
 · refine SC.r tk [(1, vp 1 0), (3, vi .u64 0), (5, vb b_1.Strong)] [] [] [] (by kernel_rfl) ?_
   refine SC.if' rfl hp (fun hp => ?_) (fun hp => ?_)
   · refine SC.reg ?_
     refine SL.sim tk 3 [(1, vp 1 0), (3, vi .u64 1)] [] [] [] (by kernel_rfl) ?_
     refine SL.nilJ fun a w h => ?_
     exact ⟨1, hp, h.at (js := [.g 0, .g 1]) (by kernel_rfl)⟩
   · refine SC.skipJ fun a w h => ?_
     exact ⟨0, hp, h.at (js := [.g 0, .g 1]) (by kernel_rfl)⟩
 · rintro a w ⟨x_2, hp, h⟩
   refine h.go ?_
   refine SC.cut (fun a w => ∃ (x_3 : Int), bonds_flags_j2 F x_3 = some r ∧ A 13 1 fx [(3, vi .u64 x_3)] [.gone] a w) ?_ ?_
   · refine SC.r tk [(3, vi .u64 x_2), (9, vb b_1.Aware)] [] [] [] (by kernel_rfl) ?_
     refine SC.if' rfl hp (fun hp => ?_) (fun hp => ?_)
     · refine SC.reg ?_
       refine SL.sim tk 3 [(3, vi .u64 (wu64 (x_2 + 2)))] [] [] [] (by kernel_rfl) ?_
       refine SL.nilJ fun a w h => ?_
       exact ⟨wu64 (x_2 + 2), hp, h.at (js := [.g 0]) (by kernel_rfl)⟩
     · refine SC.skipJ fun a w h => ?_
       exact ⟨x_2, hp, h.at (js := [.g 0]) (by kernel_rfl)⟩
   · rintro a w ⟨x_3, hp, h⟩
     refine h.go ?_
     refine SC.r tk [(2, vi .u64 x_3)] [] [] [] (by kernel_rfl) ?_
     obtain rfl := some_inv' hp
     exact SC.re (js := [.g 0]) tk (by kernel_rfl)

theorem ok_octets_Join (F : Nat) (parts_1 : (List (List Int))) (r : (List Int)) (hp : octets_Join F parts_1 = some r) : Spec Tryd.prog 41 [vs 0] [.rd 1 (RSl 1 R8) parts_1] (vs 1) [.gone, .rd 1 R8 r] := by
 refine Spec.enter Tryd.func41 rfl Tryd.ntmps41 rfl rfl fun fx => ?_
 refine SC.r tk [(0, vs 0)] [] [] [] (by kernel_rfl) ?_
 refine SC.r tk [(0, vs 0), (3, vn)] [] [] [] (by kernel_rfl) ?_
 refine SC.cut (fun a w => ∃ (l_2 : (List Int)), octets_Join_j1 F l_2 = some r ∧ A 17 1 fx [(3, vs 1)] [.gone, .own 1 5 R8 l_2] a w) ?_ ?_
 · refine SC.r tk [(3, vn), (6, vs 0), (7, vi .i64 (len parts_1)), (8, vi .i64 0)] [] [] [] (by kernel_rfl) ?_
   refine SC.block ?_
   obtain ⟨o1, hi1, ho1⟩ := bind_inv hp
   clear hp
   refine SC.loop (fun n a w => ∃ (l_3 : (List Int)) (x_4 : Int), iter (fun s => octets_Join_l1 F parts_1 s.1 s.2) n (l_3, x_4) = some o1 ∧ A 17 1 fx [(3, vs 1), (6, vs 0), (7, vi .i64 (len parts_1)), (8, vi .i64 x_4)] [.rd 1 (RSl 1 R8) parts_1, .own 1 5 R8 l_3] a w) F (fun a w h => ⟨[], 0, hi1, h.at (js := [.g 0, .n]) (by kernel_rfl)⟩) ?_
   rintro n1 a w ⟨l_3, x_4, hi1, h⟩
   obtain ⟨n1, q1, rfl, hp, hs1⟩ := iter_inv hi1
   replace hp : octets_Join_l1 F parts_1 l_3 x_4 = some q1 := hp
   clear hi1
   refine h.go ?_
   refine SC.r tk [(3, vs 1), (6, vs 0), (7, vi .i64 (len parts_1)), (8, vi .i64 x_4), (9, vb (decide (x_4 < (len parts_1))))] [] [] [] (by kernel_rfl) ?_
   refine SC.seq ?_
   refine SC.if' rfl hp (fun hp => ?_) (fun hp => ?_)
   · refine SC.skipThen ?_
     refine SC.seq ?_
     refine SC.block ?_
     obtain ⟨x_5, e_x_5, hp⟩ := bind_inv hp
     refine SC.pre (pre_ix (i := 0) (iv := x_4) (sz := 1) (R := (RSl 1 R8)) (l := parts_1) (by kernel_rfl) rfl e_x_5) ?_
     refine SC.r tk [(3, vs 1), (5, vs 3), (6, vs 0), (7, vi .i64 (len parts_1)), (8, vi .i64 x_4)] [] [.el 2] [x_4] (by kernel_rfl) ?_
     refine SC.reg ?_
     refine SL.sim tk 2 [(3, vs 1), (6, vs 0), (7, vi .i64 (len parts_1)), (8, vi .i64 x_4), (12, vs 1), (13, vs 3)] [] [] [] (by kernel_rfl) ?_
     obtain ⟨l_6, e_l_6, hp⟩ := bind_inv hp
     refine SL.eff (e_app (i := 1) (l := l_3) (sz := 1) (E := 5) (R := R8) (by_ := 1) (m := x_5) tk rfl (by kernel_rfl) rfl (.r (by kernel_rfl)) e_l_6 (by kernel_rfl)) rfl (by kernel_rfl) ?_
     refine SL.sim tk 1 [(3, vs 4), (6, vs 0), (7, vi .i64 (len parts_1)), (8, vi .i64 x_4)] [] [] [] (by kernel_rfl) ?_
     refine SL.nilThen ?_
     refine SC.reg ?_
     refine SL.sim tk 2 [(3, vs 4), (6, vs 0), (7, vi .i64 (len parts_1)), (8, vi .i64 (w64 (x_4 + 1)))] [] [] [] (by kernel_rfl) ?_
     refine SL.nilJ fun a w h => ?_
     exact ⟨n1, Nat.lt_succ_self _, l_6, w64 (x_4 + 1), next_inv hp hs1, h.at (js := [.g 0, .g 4]) (by kernel_rfl)⟩
   · refine SC.exitJ rfl fun a w h => ?_
     have ho := done_inv hp hs1
     replace hp := ho1
     try rw [ho] at hp
     exact ⟨l_3, hp, h.at (js := [.g 0, .g 1]) (by kernel_rfl)⟩
 · rintro a w ⟨l_2, hp, h⟩
   refine h.go ?_
   refine SC.r tk [(2, vs 1)] [] [] [] (by kernel_rfl) ?_
   obtain rfl := some_inv' hp
   exact SC.re (js := [.g 0, .z 1]) tk (by kernel_rfl)

theorem ok_bonds_Encode (F : Nat) (b_1 : T_api_Bond) (r : (List Int) × Int) (hp : bonds_Encode F b_1 = some r) : Spec Tryd.prog 10 [.g (C_api_Bond b_1 (.s 0))] [.rd 2 R_T_api_Subscription b_1.Subs] (.u [.inl (.s 1), .inl (ci .i64 r.2)]) [.gone, .rd 1 R8 r.1] := by
 refine Spec.enter Tryd.func10 rfl Tryd.ntmps10 rfl rfl fun fx => ?_
 refine SC.seq ?_
 refine SC.reg ?_
 refine SL.eff (e_box (E := 30) (C_api_Bond b_1 (.s 0)) (by kernel_rfl)) rfl (by kernel_rfl) ?_
 refine SL.sim tk 2 [(1, vp 1 0)] [] [] [] (by kernel_rfl) ?_
 refine SL.nilThen ?_
 refine SC.seq ?_
 refine SC.seq ?_
 refine SC.reg ?_
 refine SL.sim tk 1 [(1, vp 1 0), (13, .g (C_api_Bond b_1 (.s 0)))] [] [] [] (by kernel_rfl) ?_
 obtain ⟨x_2, e_x_2, hp⟩ := bind_inv hp
 refine SL.eff (e_c Tryd.call14 (ok_bonds_Check F b_1 _ e_x_2) [.g 0] [.g (C_api_Bond b_1 (.s 0))] (vi .i64 x_2) (by kernel_rfl) (.inl rfl)) rfl (by kernel_rfl) ?_
 refine SL.sim tk 1 [(1, vp 1 0), (4, vi .i64 x_2)] [] [] [] (by kernel_rfl) ?_
 refine SL.nilThen ?_
 refine SC.r tk [(1, vp 1 0), (4, vi .i64 x_2), (16, vb (x_2 != 0))] [] [] [] (by kernel_rfl) ?_
 refine SC.if' rfl hp (fun hp => ?_) (fun hp => ?_)
 · refine SC.r tk [(2, vn), (3, vi .i64 x_2)] [] [] [] (by kernel_rfl) ?_
   obtain rfl := some_inv' hp
   exact SC.re (js := [.g 0, .n]) tk (by kernel_rfl)
 · refine SC.skipThen ?_
   refine SC.seq ?_
   refine SC.reg ?_
   refine SL.sim tk 3 [(1, vp 1 0), (21, .g (C_api_Address b_1.Peer.Address))] [] [] [] (by kernel_rfl) ?_
   obtain ⟨x_3, e_x_3, hp⟩ := bind_inv hp
   refine SL.eff (e_c Tryd.call37 (ok_address_Encode F b_1.Peer.Address _ e_x_3) [] [.g (C_api_Address b_1.Peer.Address)] (.u [.inl (.s 2), .inl (ci .i64 x_3.2)]) (by kernel_rfl) (.inl rfl)) rfl (by kernel_rfl) ?_
   refine SL.norm (itsN := [.rd 2 R_T_api_Subscription b_1.Subs, .blk 30 (C_api_Bond b_1 (.s 0)), .rd 1 R8 x_3.1]) (by kernel_rfl) ?_
   refine SL.sim tk 5 [(1, vp 1 0), (5, vs 2)] [] [] [] (by kernel_rfl) ?_
   refine SL.nilThen ?_
   refine SC.r tk [(1, vp 1 0), (5, vs 2), (7, .f 38 [])] [] [] [] (by kernel_rfl) ?_
   refine SC.cut (fun a w => ∃ (l_4 : (List T_api_Field)), bonds_Encode_j1 F b_1 x_3 l_4 = some r ∧ A 91 1 fx [(1, vp 1 0), (5, vs 2), (7, .f 38 []), (8, vs 3)] [.rd 2 R_T_api_Subscription b_1.Subs, .blk 30 (C_api_Bond b_1 (.s 0)), .rd 1 R8 x_3.1, .own 2 83 R_T_api_Field l_4] a w) ?_ ?_
   · refine SC.draw MO [true, true, true] (by kernel_rfl) fun kap_16 D_17 => ?_
     refine SD.takes tk D_17 [] kn0 [0, 1, 2, 3, 5, 6, 7, 9, 10, 11, 13, 14, 17, 18, 19, 21, 22, 23, 24, 26, 27, 28, 29, 30] [] [] [I, I, I, I, O, I, I, I, O, I, I, I, O, I, I, O, O, I, I, I, O, I, I, I, I, O, I, I, I, I, I, O, O, O] [(1, vp 1 0), (5, vs 2), (7, .f 38 []), (25, .f 38 []), (28, vi .u64 b_1.Peer.IRK), (30, .f 38 []), (32, vi .u64 b_1.LTK), (34, .f 38 []), (36, vi .u64 b_1.Mark), (38, .f 38 []), (39, .g (C_api_Bond b_1 (.s 0))), (42, .f 38 []), (44, vi .u64 b_1.Hash), (46, .f 38 []), (49, vi .u64 (wu64 b_1.Used)), (51, .f 38 []), (55, vi .u64 (wu64 (len b_1.Subs)))] rfl (by kernel_rfl) (by kernel_rfl) (by kernel_rfl) ?_
     obtain ⟨x_18, e_x_18, hp⟩ := bind_inv hp
     refine SD.all1 (i := 4) (by kernel_rfl) ?_
     refine SW.eff D_17 (i := 4) (bs' := [I, I, I, I, I, I, I, I, O, I, I, I, O, I, I, O, O, I, I, I, O, I, I, I, I, O, I, I, I, I, I, O, O, O]) rfl (.inl rfl) rfl (e_c Tryd.call38 (ok_bonds_Encode_1 F 8 b_1.Peer.IRK _ e_x_18) [] [vi .i64 8, vi .u64 b_1.Peer.IRK] (.g (C_api_Field x_18)) (by kernel_rfl) (.inl rfl)) (by kernel_rfl) rfl (by kernel_rfl) ?_
     obtain ⟨x_19, e_x_19, hp⟩ := bind_inv hp
     refine SD.all1 (i := 8) (by kernel_rfl) ?_
     refine SW.eff D_17 (i := 8) (bs' := [I, I, I, I, I, I, I, I, I, I, I, I, O, I, I, O, O, I, I, I, O, I, I, I, I, O, I, I, I, I, I, O, O, O]) rfl (.inl rfl) rfl (e_c Tryd.call38 (ok_bonds_Encode_1 F 8 b_1.LTK _ e_x_19) [] [vi .i64 8, vi .u64 b_1.LTK] (.g (C_api_Field x_19)) (by kernel_rfl) (.inl rfl)) (by kernel_rfl) rfl (by kernel_rfl) ?_
     refine SD.norm (itsN := [.rd 2 R_T_api_Subscription b_1.Subs, .blk 30 (C_api_Bond b_1 (.s 0)), .rd 1 R8 x_3.1]) (by kernel_rfl) ?_
     obtain ⟨x_20, e_x_20, hp⟩ := bind_inv hp
     refine SD.all1 (i := 12) (by kernel_rfl) ?_
     refine SW.eff D_17 (i := 12) (bs' := [I, I, I, I, I, I, I, I, I, I, I, I, I, I, I, O, O, I, I, I, O, I, I, I, I, O, I, I, I, I, I, O, O, O]) rfl (.inl rfl) rfl (e_c Tryd.call38 (ok_bonds_Encode_1 F 8 b_1.Mark _ e_x_20) [] [vi .i64 8, vi .u64 b_1.Mark] (.g (C_api_Field x_20)) (by kernel_rfl) (.inl rfl)) (by kernel_rfl) rfl (by kernel_rfl) ?_
     obtain ⟨x_21, e_x_21, hp⟩ := bind_inv hp
     refine SD.all1 (i := 15) (by kernel_rfl) ?_
     refine SW.eff D_17 (i := 15) (bs' := [I, I, I, I, I, I, I, I, I, I, I, I, I, I, I, I, O, I, I, I, O, I, I, I, I, O, I, I, I, I, I, O, O, O]) rfl (.inl rfl) rfl (e_c Tryd.call39 (ok_bonds_flags F b_1 _ e_x_21) [.g 0] [.g (C_api_Bond b_1 (.s 0))] (vi .u64 x_21) (by kernel_rfl) (.inl rfl)) (by kernel_rfl) rfl (by kernel_rfl) ?_
     refine SD.norm (itsN := [.rd 2 R_T_api_Subscription b_1.Subs, .blk 30 (C_api_Bond b_1 (.s 0)), .rd 1 R8 x_3.1]) (by kernel_rfl) ?_
     obtain ⟨x_22, e_x_22, hp⟩ := bind_inv hp
     refine SD.all1 (i := 16) (by kernel_rfl) ?_
     refine SW.eff D_17 (i := 16) (bs' := [I, I, I, I, I, I, I, I, I, I, I, I, I, I, I, I, I, I, I, I, O, I, I, I, I, O, I, I, I, I, I, O, O, O]) rfl (.inl rfl) rfl (e_c Tryd.call38 (ok_bonds_Encode_1 F 1 x_21 _ e_x_22) [] [vi .i64 1, vi .u64 x_21] (.g (C_api_Field x_22)) (by kernel_rfl) (.inl rfl)) (by kernel_rfl) rfl (by kernel_rfl) ?_
     obtain ⟨x_23, e_x_23, hp⟩ := bind_inv hp
     refine SD.all1 (i := 20) (by kernel_rfl) ?_
     refine SW.eff D_17 (i := 20) (bs' := [I, I, I, I, I, I, I, I, I, I, I, I, I, I, I, I, I, I, I, I, I, I, I, I, I, O, I, I, I, I, I, O, O, O]) rfl (.inl rfl) rfl (e_c Tryd.call38 (ok_bonds_Encode_1 F 8 b_1.Hash _ e_x_23) [] [vi .i64 8, vi .u64 b_1.Hash] (.g (C_api_Field x_23)) (by kernel_rfl) (.inl rfl)) (by kernel_rfl) rfl (by kernel_rfl) ?_
     refine SD.norm (itsN := [.rd 2 R_T_api_Subscription b_1.Subs, .blk 30 (C_api_Bond b_1 (.s 0)), .rd 1 R8 x_3.1]) (by kernel_rfl) ?_
     obtain ⟨x_24, e_x_24, hp⟩ := bind_inv hp
     refine SD.all1 (i := 25) (by kernel_rfl) ?_
     refine SW.eff D_17 (i := 25) (bs' := [I, I, I, I, I, I, I, I, I, I, I, I, I, I, I, I, I, I, I, I, I, I, I, I, I, I, I, I, I, I, I, O, O, O]) rfl (.inl rfl) rfl (e_c Tryd.call38 (ok_bonds_Encode_1 F 4 (wu64 b_1.Used) _ e_x_24) [] [vi .i64 4, vi .u64 (wu64 b_1.Used)] (.g (C_api_Field x_24)) (by kernel_rfl) (.inl rfl)) (by kernel_rfl) rfl (by kernel_rfl) ?_
     obtain ⟨x_25, e_x_25, hp⟩ := bind_inv hp
     refine SD.all1 (i := 31) (by kernel_rfl) ?_
     refine SW.eff D_17 (i := 31) (bs' := [I, I, I, I, I, I, I, I, I, I, I, I, I, I, I, I, I, I, I, I, I, I, I, I, I, I, I, I, I, I, I, I, O, O]) rfl (.inl rfl) rfl (e_c Tryd.call38 (ok_bonds_Encode_1 F 1 (wu64 (len b_1.Subs)) _ e_x_25) [] [vi .i64 1, vi .u64 (wu64 (len b_1.Subs))] (.g (C_api_Field x_25)) (by kernel_rfl) (.inl rfl)) (by kernel_rfl) rfl (by kernel_rfl) ?_
     refine SD.norm (itsN := [.rd 2 R_T_api_Subscription b_1.Subs, .blk 30 (C_api_Bond b_1 (.s 0)), .rd 1 R8 x_3.1]) (by kernel_rfl) ?_
     refine SD.all1 (i := 32) (by kernel_rfl) ?_
     refine SW.eff D_17 (i := 32) (bs' := [I, I, I, I, I, I, I, I, I, I, I, I, I, I, I, I, I, I, I, I, I, I, I, I, I, I, I, I, I, I, I, I, I, O]) rfl (.inl rfl) rfl (e_lit (sz := 2) (E := 83) (R := R_T_api_Field) (by_ := 16) tk [(C_api_Field x_18), (C_api_Field x_19), (C_api_Field x_20), (C_api_Field x_22), (C_api_Field x_23), (C_api_Field x_24), (C_api_Field x_25)] [x_18, x_19, x_20, x_22, x_23, x_24, x_25] (by kernel_rfl) ⟨(clo_T_api_Field (x := x_18)), ⟨(clo_T_api_Field (x := x_19)), ⟨(clo_T_api_Field (x := x_20)), ⟨(clo_T_api_Field (x := x_22)), ⟨(clo_T_api_Field (x := x_23)), ⟨(clo_T_api_Field (x := x_24)), ⟨(clo_T_api_Field (x := x_25)), trivial⟩⟩⟩⟩⟩⟩⟩ rfl (by kernel_rfl) (by kernel_rfl)) (by kernel_rfl) rfl (by kernel_rfl) ?_
     refine SD.takes tk D_17 [] kn0 [33] [] [] [I, I, I, I, I, I, I, I, I, I, I, I, I, I, I, I, I, I, I, I, I, I, I, I, I, I, I, I, I, I, I, I, I, I] [(1, vp 1 0), (5, vs 2), (7, .f 38 []), (8, vs 3)] rfl (by kernel_rfl) (by kernel_rfl) (by kernel_rfl) ?_
     refine SD.done (by kernel_rfl) fun a w h => ?_
     exact ⟨[x_18, x_19, x_20, x_22, x_23, x_24, x_25], hp, h.at (js := [.g 0, .g 1, .g 2, .g 3]) (by kernel_rfl)⟩
   · rintro a w ⟨l_4, hp, h⟩
     refine h.go ?_
     refine SC.cut (fun a w => ∃ (l_5 : (List T_api_Field)), bonds_Encode_j2 F x_3 l_5 = some r ∧ A 91 1 fx [(5, vs 1), (8, vs 2)] [.gone, .rd 1 R8 x_3.1, .own 2 83 R_T_api_Field l_5] a w) ?_ ?_
     · refine SC.r tk [(5, vs 2), (7, .f 38 []), (8, vs 3), (59, vs 0), (60, vi .i64 (len b_1.Subs)), (61, vi .i64 0)] [] [] [] (by kernel_rfl) ?_
       refine SC.block ?_
       obtain ⟨o1, hi1, ho1⟩ := bind_inv hp
       clear hp
       refine SC.loop (fun n a w => ∃ (l_8 : (List T_api_Field)) (x_9 : Int), iter (fun s => bonds_Encode_l1 F b_1 s.1 s.2) n (l_8, x_9) = some o1 ∧ A 91 1 fx [(5, vs 1), (7, .f 38 []), (8, vs 2), (59, vs 0), (60, vi .i64 (len b_1.Subs)), (61, vi .i64 x_9)] [.rd 2 R_T_api_Subscription b_1.Subs, .rd 1 R8 x_3.1, .own 2 83 R_T_api_Field l_8] a w) F (fun a w h => ⟨l_4, 0, hi1, h.at (js := [.g 0, .g 2, .g 3]) (by kernel_rfl)⟩) ?_
       rintro n1 a w ⟨l_8, x_9, hi1, h⟩
       obtain ⟨n1, q1, rfl, hp, hs1⟩ := iter_inv hi1
       replace hp : bonds_Encode_l1 F b_1 l_8 x_9 = some q1 := hp
       clear hi1
       refine h.go ?_
       refine SC.r tk [(5, vs 1), (7, .f 38 []), (8, vs 2), (59, vs 0), (60, vi .i64 (len b_1.Subs)), (61, vi .i64 x_9), (62, vb (decide (x_9 < (len b_1.Subs))))] [] [] [] (by kernel_rfl) ?_
       refine SC.seq ?_
       refine SC.if' rfl hp (fun hp => ?_) (fun hp => ?_)
       · refine SC.skipThen ?_
         refine SC.seq ?_
         refine SC.block ?_
         refine SC.seq ?_
         refine SC.reg ?_
         obtain ⟨x_10, e_x_10, hp⟩ := bind_inv hp
         refine SL.pre (pre_ix (i := 0) (iv := x_9) (sz := 2) (R := R_T_api_Subscription) (l := b_1.Subs) (by kernel_rfl) rfl e_x_10) ?_
         refine SL.sim tk 2 [(5, vs 1), (7, .f 38 []), (8, vs 2), (59, vs 0), (60, vi .i64 (len b_1.Subs)), (61, vi .i64 x_9), (64, .g (C_api_Subscription x_10))] [] [.el 3] [x_9] (by kernel_rfl) ?_
         refine SL.eff (e_alloc (E := 89) tk [ci .u16 0, ci .i64 0] (by kernel_rfl)) rfl (by kernel_rfl) ?_
         refine SL.sim tk 1 [(5, vs 1), (7, .f 38 []), (8, vs 2), (10, vp 4 0), (59, vs 0), (60, vi .i64 (len b_1.Subs)), (61, vi .i64 x_9)] [(4, 89, (C_api_Subscription x_10))] [] [] (by kernel_rfl) ?_
         refine SL.nilThen ?_
         refine SC.draw MO [true, true, false, true, true] (by kernel_rfl) fun kap_11 D_12 => ?_
         refine SD.takes tk D_12 [] kn0 [0, 1, 2, 3, 4, 6, 7, 8, 9] [] [] [I, I, I, I, I, O, I, I, I, I, O, O, O, O] [(5, vs 1), (7, .f 38 []), (8, vs 2), (59, vs 0), (60, vi .i64 (len b_1.Subs)), (61, vi .i64 x_9), (65, vs 2), (66, .f 38 []), (69, vi .u64 (wu64 x_10.Handle)), (71, .f 38 []), (74, vi .u64 (wu64 x_10.Bits))] rfl (by kernel_rfl) (by kernel_rfl) (by kernel_rfl) ?_
         obtain ⟨x_13, e_x_13, hp⟩ := bind_inv hp
         refine SD.all1 (i := 5) (by kernel_rfl) ?_
         refine SW.eff D_12 (i := 5) (bs' := [I, I, I, I, I, I, I, I, I, I, O, O, O, O]) rfl (.inl rfl) rfl (e_c Tryd.call38 (ok_bonds_Encode_1 F 2 (wu64 x_10.Handle) _ e_x_13) [] [vi .i64 2, vi .u64 (wu64 x_10.Handle)] (.g (C_api_Field x_13)) (by kernel_rfl) (.inl rfl)) (by kernel_rfl) rfl (by kernel_rfl) ?_
         refine SD.norm (itsN := [.rd 2 R_T_api_Subscription b_1.Subs, .rd 1 R8 x_3.1, .own 2 83 R_T_api_Field l_8, .elt (some (0, x_9)) false (C_api_Subscription x_10), .blk 89 (C_api_Subscription x_10)]) (by kernel_rfl) ?_
         obtain ⟨x_14, e_x_14, hp⟩ := bind_inv hp
         refine SD.all1 (i := 10) (by kernel_rfl) ?_
         refine SW.eff D_12 (i := 10) (bs' := [I, I, I, I, I, I, I, I, I, I, I, O, O, O]) rfl (.inl rfl) rfl (e_c Tryd.call38 (ok_bonds_Encode_1 F 1 (wu64 x_10.Bits) _ e_x_14) [] [vi .i64 1, vi .u64 (wu64 x_10.Bits)] (.g (C_api_Field x_14)) (by kernel_rfl) (.inl rfl)) (by kernel_rfl) rfl (by kernel_rfl) ?_
         refine SD.all1 (i := 11) (by kernel_rfl) ?_
         refine SW.eff D_12 (i := 11) (bs' := [I, I, I, I, I, I, I, I, I, I, I, I, O, O]) rfl (.inl rfl) rfl (e_lit (sz := 2) (E := 83) (R := R_T_api_Field) (by_ := 16) tk [(C_api_Field x_13), (C_api_Field x_14)] [x_13, x_14] (by kernel_rfl) ⟨(clo_T_api_Field (x := x_13)), ⟨(clo_T_api_Field (x := x_14)), trivial⟩⟩ rfl (by kernel_rfl) (by kernel_rfl)) (by kernel_rfl) rfl (by kernel_rfl) ?_
         refine SD.norm (itsN := [.rd 2 R_T_api_Subscription b_1.Subs, .rd 1 R8 x_3.1, .own 2 83 R_T_api_Field l_8, .elt (some (0, x_9)) false (C_api_Subscription x_10), .blk 89 (C_api_Subscription x_10), .own 2 83 R_T_api_Field [x_13, x_14]]) (by kernel_rfl) ?_
         obtain ⟨l_15, e_l_15, hp⟩ := bind_inv hp
         refine SD.all1 (i := 12) (by kernel_rfl) ?_
         refine SW.eff D_12 (i := 12) (bs' := [I, I, I, I, I, I, I, I, I, I, I, I, I, O]) rfl (.inl rfl) rfl (e_app (i := 2) (l := l_8) (sz := 2) (E := 83) (R := R_T_api_Field) (by_ := 16) (m := [x_13, x_14]) tk rfl (by kernel_rfl) rfl (.o 83 (by kernel_rfl)) e_l_15 (by kernel_rfl)) (by kernel_rfl) rfl (by kernel_rfl) ?_
         refine SD.takes tk D_12 [] kn0 [13] [] [] [I, I, I, I, I, I, I, I, I, I, I, I, I, I] [(5, vs 1), (7, .f 38 []), (8, vs 6), (59, vs 0), (60, vi .i64 (len b_1.Subs)), (61, vi .i64 x_9)] rfl (by kernel_rfl) (by kernel_rfl) (by kernel_rfl) ?_
         refine SD.doneThen (by kernel_rfl) ?_
         refine SC.reg ?_
         refine SL.sim tk 2 [(5, vs 1), (7, .f 38 []), (8, vs 6), (59, vs 0), (60, vi .i64 (len b_1.Subs)), (61, vi .i64 (w64 (x_9 + 1)))] [] [] [] (by kernel_rfl) ?_
         refine SL.nilJ fun a w h => ?_
         exact ⟨n1, Nat.lt_succ_self _, l_15, w64 (x_9 + 1), next_inv hp hs1, h.at (js := [.g 0, .g 1, .g 6]) (by kernel_rfl)⟩
       · refine SC.exitJ rfl fun a w h => ?_
         have ho := done_inv hp hs1
         replace hp := ho1
         try rw [ho] at hp
         exact ⟨l_8, hp, h.at (js := [.g 0, .g 1, .g 2]) (by kernel_rfl)⟩
     · rintro a w ⟨l_5, hp, h⟩
       refine h.go ?_
       refine SC.seq ?_
       refine SC.reg ?_
       refine SL.sim tk 1 [(5, vs 1), (80, vs 2)] [] [] [] (by kernel_rfl) ?_
       obtain ⟨x_6, e_x_6, hp⟩ := bind_inv hp
       refine SL.pre (pre_frz (i := 2) (sz := 2) (E := 83) (R := R_T_api_Field) (l := l_5) (by kernel_rfl)) ?_
       refine SL.eff (e_c Tryd.call40 (ok_octets_Put F l_5 _ e_x_6) [.g 2] [vs 2] (.u [.inl (.s 3), .inl (ci .i64 x_6.2)]) (by kernel_rfl) (.inl rfl)) rfl (by kernel_rfl) ?_
       refine SL.sim tk 5 [(5, vs 1), (11, vs 3), (12, vi .i64 x_6.2)] [] [] [] (by kernel_rfl) ?_
       refine SL.nilThen ?_
       refine SC.seq ?_
       refine SC.r tk [(5, vs 1), (11, vs 3), (12, vi .i64 x_6.2), (85, vb (x_6.2 != 0))] [] [] [] (by kernel_rfl) ?_
       refine SC.if' rfl hp (fun hp => ?_) (fun hp => ?_)
       · refine SC.r tk [(2, vn), (3, vi .i64 x_6.2)] [] [] [] (by kernel_rfl) ?_
         obtain rfl := some_inv' hp
         exact SC.re (js := [.g 0, .n]) tk (by kernel_rfl)
       · refine SC.skipThen ?_
         refine SC.seq ?_
         refine SC.reg ?_
         refine SL.sim tk 2 [(87, vs 1), (88, vs 3)] [] [] [] (by kernel_rfl) ?_
         refine SL.eff (e_lit (sz := 1) (E := 31) (R := (RSl 1 R8)) (by_ := 24) tk [[.s 1], [.s 3]] [x_3.1, x_6.1] (by kernel_rfl) ⟨(Clo.sl (by kernel_rfl)), ⟨(Clo.sl (by kernel_rfl)), trivial⟩⟩ rfl (by kernel_rfl) (by kernel_rfl)) rfl (by kernel_rfl) ?_
         obtain ⟨x_7, e_x_7, hp⟩ := bind_inv hp
         refine SL.pre (pre_frz (i := 4) (sz := 1) (E := 31) (R := (RSl 1 R8)) (l := [x_3.1, x_6.1]) (by kernel_rfl)) ?_
         refine SL.eff (e_c Tryd.call41 (ok_octets_Join F [x_3.1, x_6.1] _ e_x_7) [.g 4] [vs 4] (vs 5) (by kernel_rfl) (.inl rfl)) rfl (by kernel_rfl) ?_
         refine SL.norm (itsN := [.gone, .rd 1 R8 x_3.1, .rd 2 R_T_api_Field l_5, .rd 1 R8 x_6.1, .rd 1 (RSl 1 R8) [x_3.1, x_6.1], .rd 1 R8 x_7]) (by kernel_rfl) ?_
         refine SL.sim tk 2 [(2, vs 5), (3, vi .i64 0)] [] [] [] (by kernel_rfl) ?_
         refine SL.nilThen ?_
         obtain rfl := some_inv' hp
         exact SC.re (js := [.g 0, .g 5]) tk (by kernel_rfl)

theorem ok_octets_Take (F : Nat) (b_1 : (List Int)) (sizes_2 : (List Int)) (r : (List Int) × (List Int) × Int) (hp : octets_Take F b_1 sizes_2 = some r) : Spec Tryd.prog 45 [vs 0, vs 1] [.rd 1 R8 b_1, .rd 1 (RInt .i64) sizes_2] (.u [.inl (.s 2), .inl (.s 3), .inl (ci .i64 r.2.2)]) [.gone, .gone, .rd 1 (RInt .u64) r.1, .rd 1 R8 r.2.1] := by
 refine Spec.enter Tryd.func45 rfl Tryd.ntmps45 rfl rfl fun fx => ?_
 refine SC.r tk [(0, vs 0), (1, vs 1)] [] [] [] (by kernel_rfl) ?_
 refine SC.r tk [(0, vs 0), (1, vs 1), (7, vi .i64 0)] [] [] [] (by kernel_rfl) ?_
 refine SC.cut (fun a w => ∃ (x_3 : Int), octets_Take_j1 F b_1 sizes_2 x_3 = some r ∧ A 65 2 fx [(0, vs 0), (1, vs 1), (7, vi .i64 x_3)] [.rd 1 R8 b_1, .rd 1 (RInt .i64) sizes_2] a w) ?_ ?_
 · refine SC.r tk [(0, vs 0), (1, vs 1), (7, vi .i64 0), (15, vs 1), (16, vi .i64 (len sizes_2)), (17, vi .i64 0)] [] [] [] (by kernel_rfl) ?_
   refine SC.block ?_
   obtain ⟨o3, hi3, ho3⟩ := bind_inv hp
   clear hp
   refine SC.loop (fun n a w => ∃ (x_20 : Int) (x_21 : Int), iter (fun s => octets_Take_l3 F sizes_2 s.1 s.2) n (x_20, x_21) = some o3 ∧ A 65 2 fx [(0, vs 0), (1, vs 1), (7, vi .i64 x_20), (15, vs 1), (16, vi .i64 (len sizes_2)), (17, vi .i64 x_21)] [.rd 1 R8 b_1, .rd 1 (RInt .i64) sizes_2] a w) F (fun a w h => ⟨0, 0, hi3, h.at (js := [.g 0, .g 1]) (by kernel_rfl)⟩) ?_
   rintro n3 a w ⟨x_20, x_21, hi3, h⟩
   obtain ⟨n3, q3, rfl, hp, hs3⟩ := iter_inv hi3
   replace hp : octets_Take_l3 F sizes_2 x_20 x_21 = some q3 := hp
   clear hi3
   refine h.go ?_
   refine SC.r tk [(0, vs 0), (1, vs 1), (7, vi .i64 x_20), (15, vs 1), (16, vi .i64 (len sizes_2)), (17, vi .i64 x_21), (18, vb (decide (x_21 < (len sizes_2))))] [] [] [] (by kernel_rfl) ?_
   refine SC.seq ?_
   refine SC.if' rfl hp (fun hp => ?_) (fun hp => ?_)
   · refine SC.skipThen ?_
     refine SC.seq ?_
     refine SC.block ?_
     obtain ⟨x_22, e_x_22, hp⟩ := bind_inv hp
     refine SC.pre (pre_ix (i := 1) (iv := x_21) (sz := 1) (R := (RInt .i64)) (l := sizes_2) (by kernel_rfl) rfl e_x_22) ?_
     refine SC.r tk [(0, vs 0), (1, vs 1), (7, vi .i64 x_20), (9, vi .i64 x_22), (15, vs 1), (16, vi .i64 (len sizes_2)), (17, vi .i64 x_21)] [] [.el 2] [x_21] (by kernel_rfl) ?_
     refine SC.seq ?_
     refine SC.seq ?_
     refine SC.reg ?_
     refine SL.sim tk 1 [(0, vs 0), (1, vs 1), (7, vi .i64 x_20), (9, vi .i64 x_22), (15, vs 1), (16, vi .i64 (len sizes_2)), (17, vi .i64 x_21), (21, vi .i64 x_22)] [] [] [] (by kernel_rfl) ?_
     obtain ⟨x_23, e_x_23, hp⟩ := bind_inv hp
     refine SL.eff (e_c Tryd.call69 (ok_octets_sized F x_22 _ e_x_23) [] [vi .i64 x_22] (vb x_23) (by kernel_rfl) (.inl rfl)) rfl (by kernel_rfl) ?_
     refine SL.sim tk 1 [(0, vs 0), (1, vs 1), (7, vi .i64 x_20), (9, vi .i64 x_22), (15, vs 1), (16, vi .i64 (len sizes_2)), (17, vi .i64 x_21), (23, vb (!x_23))] [] [] [] (by kernel_rfl) ?_
     refine SL.nilThen ?_
     refine SC.if' rfl hp (fun hp => ?_) (fun hp => ?_)
     · refine SC.r tk [(4, vn), (5, vn), (6, vi .i64 5)] [] [] [] (by kernel_rfl) ?_
       have ho := done_inv hp hs3
       replace hp := ho3
       try rw [ho] at hp
       obtain rfl := some_inv' hp
       exact SC.re (js := [.g 0, .g 1, .n, .n]) tk (by kernel_rfl)
     · refine SC.skipThen ?_
       refine SC.reg ?_
       refine SL.sim tk 4 [(0, vs 0), (1, vs 1), (7, vi .i64 (w64 (x_20 + x_22))), (15, vs 1), (16, vi .i64 (len sizes_2)), (17, vi .i64 x_21)] [] [] [] (by kernel_rfl) ?_
       refine SL.nilThen ?_
       refine SC.reg ?_
       refine SL.sim tk 2 [(0, vs 0), (1, vs 1), (7, vi .i64 (w64 (x_20 + x_22))), (15, vs 1), (16, vi .i64 (len sizes_2)), (17, vi .i64 (w64 (x_21 + 1)))] [] [] [] (by kernel_rfl) ?_
       refine SL.nilJ fun a w h => ?_
       exact ⟨n3, Nat.lt_succ_self _, w64 (x_20 + x_22), w64 (x_21 + 1), next_inv hp hs3, h.at (js := [.g 0, .g 1]) (by kernel_rfl)⟩
   · refine SC.exitJ rfl fun a w h => ?_
     have ho := done_inv hp hs3
     replace hp := ho3
     try rw [ho] at hp
     exact ⟨x_20, hp, h.at (js := [.g 0, .g 1]) (by kernel_rfl)⟩
 · rintro a w ⟨x_3, hp, h⟩
   refine h.go ?_
   refine SC.seq ?_
   refine SC.r tk [(0, vs 0), (1, vs 1), (31, vb (decide ((len b_1) < x_3)))] [] [] [] (by kernel_rfl) ?_
   refine SC.if' rfl hp (fun hp => ?_) (fun hp => ?_)
   · refine SC.r tk [(4, vn), (5, vn), (6, vi .i64 3)] [] [] [] (by kernel_rfl) ?_
     obtain rfl := some_inv' hp
     exact SC.re (js := [.g 0, .g 1, .n, .n]) tk (by kernel_rfl)
   · refine SC.skipThen ?_
     refine SC.r tk [(0, vs 0), (1, vs 1), (10, vn)] [] [] [] (by kernel_rfl) ?_
     refine SC.cut (fun a w => ∃ (l_4 : (List Int)) (l_5 : (List Int)), octets_Take_j2 F l_4 l_5 = some r ∧ A 65 2 fx [(0, vs 2), (10, vs 3)] [.gone, .gone, .rd 1 R8 l_4, .own 1 22 (RInt .u64) l_5] a w) ?_ ?_
     · refine SC.r tk [(0, vs 0), (10, vn), (32, vs 1), (33, vi .i64 (len sizes_2)), (34, vi .i64 0)] [] [] [] (by kernel_rfl) ?_
       refine SC.block ?_
       obtain ⟨o1, hi1, ho1⟩ := bind_inv hp
       clear hp
       refine SC.loop (fun n a w => ∃ (l_7 : (List Int)) (l_8 : (List Int)) (x_9 : Int), iter (fun s => octets_Take_l1 F sizes_2 s.1 s.2.1 s.2.2) n (l_7, l_8, x_9) = some o1 ∧ A 65 2 fx [(0, vs 2), (10, vs 3), (32, vs 1), (33, vi .i64 (len sizes_2)), (34, vi .i64 x_9)] [.gone, .rd 1 (RInt .i64) sizes_2, .rd 1 R8 l_7, .own 1 22 (RInt .u64) l_8] a w) F (fun a w h => ⟨b_1, [], 0, hi1, h.at (js := [.g 0, .g 1, .g 0, .n]) (by kernel_rfl)⟩) ?_
       rintro n1 a w ⟨l_7, l_8, x_9, hi1, h⟩
       obtain ⟨n1, q1, rfl, hp, hs1⟩ := iter_inv hi1
       replace hp : octets_Take_l1 F sizes_2 l_7 l_8 x_9 = some q1 := hp
       clear hi1
       refine h.go ?_
       refine SC.r tk [(0, vs 2), (10, vs 3), (32, vs 1), (33, vi .i64 (len sizes_2)), (34, vi .i64 x_9), (35, vb (decide (x_9 < (len sizes_2))))] [] [] [] (by kernel_rfl) ?_
       refine SC.seq ?_
       refine SC.if' rfl hp (fun hp => ?_) (fun hp => ?_)
       · refine SC.skipThen ?_
         refine SC.cut (fun a w => ∃ (l_10 : (List Int)) (l_11 : (List Int)), octets_Take_j3 F x_9 l_10 l_11 = some q1 ∧ A 65 2 fx [(0, vs 2), (10, vs 3), (32, vs 1), (33, vi .i64 (len sizes_2)), (34, vi .i64 x_9)] [.gone, .rd 1 (RInt .i64) sizes_2, .rd 1 R8 l_10, .own 1 22 (RInt .u64) l_11] a w) ?_ ?_
         · refine SC.block ?_
           obtain ⟨x_12, e_x_12, hp⟩ := bind_inv hp
           refine SC.pre (pre_ix (i := 1) (iv := x_9) (sz := 1) (R := (RInt .i64)) (l := sizes_2) (by kernel_rfl) rfl e_x_12) ?_
           refine SC.r tk [(0, vs 2), (10, vs 3), (12, vi .i64 x_12), (32, vs 1), (33, vi .i64 (len sizes_2)), (34, vi .i64 x_9)] [] [.el 4] [x_9] (by kernel_rfl) ?_
           refine SC.r tk [(0, vs 2), (10, vs 3), (12, vi .i64 x_12), (13, vi .u64 0), (32, vs 1), (33, vi .i64 (len sizes_2)), (34, vi .i64 x_9)] [] [] [] (by kernel_rfl) ?_
           refine SC.cut (fun a w => ∃ (x_13 : Int), octets_Take_j4 F l_7 l_8 x_9 x_12 x_13 = some q1 ∧ A 65 2 fx [(0, vs 2), (10, vs 3), (12, vi .i64 x_12), (13, vi .u64 x_13), (32, vs 1), (33, vi .i64 (len sizes_2)), (34, vi .i64 x_9)] [.gone, .rd 1 (RInt .i64) sizes_2, .rd 1 R8 l_7, .own 1 22 (RInt .u64) l_8] a w) ?_ ?_
           · refine SC.r tk [(0, vs 2), (10, vs 3), (12, vi .i64 x_12), (13, vi .u64 0), (32, vs 1), (33, vi .i64 (len sizes_2)), (34, vi .i64 x_9), (38, vi .i64 x_12), (39, vi .i64 0)] [] [] [] (by kernel_rfl) ?_
             refine SC.block ?_
             obtain ⟨o2, hi2, ho2⟩ := bind_inv hp
             clear hp
             refine SC.loop (fun n a w => ∃ (x_16 : Int) (x_17 : Int), iter (fun s => octets_Take_l2 F l_7 x_12 s.1 s.2) n (x_16, x_17) = some o2 ∧ A 65 2 fx [(0, vs 2), (10, vs 3), (12, vi .i64 x_12), (13, vi .u64 x_16), (32, vs 1), (33, vi .i64 (len sizes_2)), (34, vi .i64 x_9), (38, vi .i64 x_12), (39, vi .i64 x_17)] [.gone, .rd 1 (RInt .i64) sizes_2, .rd 1 R8 l_7, .own 1 22 (RInt .u64) l_8] a w) F (fun a w h => ⟨0, 0, hi2, h.at (js := [.g 0, .g 1, .g 2, .g 3]) (by kernel_rfl)⟩) ?_
             rintro n2 a w ⟨x_16, x_17, hi2, h⟩
             obtain ⟨n2, q2, rfl, hp, hs2⟩ := iter_inv hi2
             replace hp : octets_Take_l2 F l_7 x_12 x_16 x_17 = some q2 := hp
             clear hi2
             refine h.go ?_
             refine SC.r tk [(0, vs 2), (10, vs 3), (12, vi .i64 x_12), (13, vi .u64 x_16), (32, vs 1), (33, vi .i64 (len sizes_2)), (34, vi .i64 x_9), (38, vi .i64 x_12), (39, vi .i64 x_17), (40, vb (decide (x_17 < x_12)))] [] [] [] (by kernel_rfl) ?_
             refine SC.seq ?_
             refine SC.if' rfl hp (fun hp => ?_) (fun hp => ?_)
             · refine SC.skipThen ?_
               refine SC.seq ?_
               refine SC.block ?_
               refine SC.r tk [(0, vs 2), (10, vs 3), (12, vi .i64 x_12), (13, vi .u64 x_16), (14, vi .i64 x_17), (32, vs 1), (33, vi .i64 (len sizes_2)), (34, vi .i64 x_9), (38, vi .i64 x_12), (39, vi .i64 x_17)] [] [] [] (by kernel_rfl) ?_
               refine SC.reg ?_
               obtain ⟨x_18, e_x_18, hp⟩ := bind_inv hp
               obtain ⟨x_19, e_x_19, hp⟩ := bind_inv hp
               refine SL.pre (pre_ix (i := 2) (iv := x_17) (sz := 1) (R := R8) (l := l_7) (by kernel_rfl) rfl e_x_18) ?_
               refine SL.sim tk 11 [(0, vs 2), (10, vs 3), (12, vi .i64 x_12), (13, vi .u64 (ior .u64 x_16 x_19)), (32, vs 1), (33, vi .i64 (len sizes_2)), (34, vi .i64 x_9), (38, vi .i64 x_12), (39, vi .i64 x_17)] [] [.el 4, .bin .shl .u64 (wu64 x_18) (w64 (8 * x_17)) x_19 e_x_19] [x_17, wu64 x_18, w64 (8 * x_17)] (by kernel_rfl) ?_
               refine SL.nilThen ?_
               refine SC.reg ?_
               refine SL.sim tk 2 [(0, vs 2), (10, vs 3), (12, vi .i64 x_12), (13, vi .u64 (ior .u64 x_16 x_19)), (32, vs 1), (33, vi .i64 (len sizes_2)), (34, vi .i64 x_9), (38, vi .i64 x_12), (39, vi .i64 (w64 (x_17 + 1)))] [] [] [] (by kernel_rfl) ?_
               refine SL.nilJ fun a w h => ?_
               exact ⟨n2, Nat.lt_succ_self _, ior .u64 x_16 x_19, w64 (x_17 + 1), next_inv hp hs2, h.at (js := [.g 0, .g 1, .g 2, .g 3]) (by kernel_rfl)⟩
             · refine SC.exitJ rfl fun a w h => ?_
               have ho := done_inv hp hs2
               replace hp := ho2
               try rw [ho] at hp
               exact ⟨x_16, hp, h.at (js := [.g 0, .g 1, .g 2, .g 3]) (by kernel_rfl)⟩
           · rintro a w ⟨x_13, hp, h⟩
             refine h.go ?_
             refine SC.seq ?_
             refine SC.reg ?_
             refine SL.sim tk 2 [(0, vs 2), (10, vs 3), (12, vi .i64 x_12), (32, vs 1), (33, vi .i64 (len sizes_2)), (34, vi .i64 x_9), (53, vs 3), (54, vi .u64 x_13)] [] [] [] (by kernel_rfl) ?_
             refine SL.eff (e_lit (sz := 1) (E := 22) (R := (RInt .u64)) (by_ := 8) tk [[ci .u64 x_13]] [x_13] (by kernel_rfl) ⟨Clo.int, trivial⟩ rfl (by kernel_rfl) (by kernel_rfl)) rfl (by kernel_rfl) ?_
             obtain ⟨l_14, e_l_14, hp⟩ := bind_inv hp
             refine SL.eff (e_app (i := 3) (l := l_8) (sz := 1) (E := 22) (R := (RInt .u64)) (by_ := 8) (m := [x_13]) tk rfl (by kernel_rfl) rfl (.o 22 (by kernel_rfl)) e_l_14 (by kernel_rfl)) rfl (by kernel_rfl) ?_
             refine SL.sim tk 1 [(0, vs 2), (10, vs 5), (12, vi .i64 x_12), (32, vs 1), (33, vi .i64 (len sizes_2)), (34, vi .i64 x_9)] [] [] [] (by kernel_rfl) ?_
             refine SL.nilThen ?_
             refine SC.reg ?_
             refine SL.sim tk 2 [(0, vs 2), (10, vs 5), (32, vs 1), (33, vi .i64 (len sizes_2)), (34, vi .i64 x_9), (57, vs 2), (58, vi .i64 x_12)] [] [] [] (by kernel_rfl) ?_
             obtain ⟨l_15, e_l_15, hp⟩ := bind_inv hp
             refine SL.eff (e_sub (sz := 1) (E := 5) (R := R8) (by_ := 1) (l := l_7) tk rfl (.inl ⟨2, rfl, (by kernel_rfl)⟩) rfl rfl e_l_15 (by kernel_rfl)) rfl (by kernel_rfl) ?_
             refine SL.sim tk 1 [(0, vs 6), (10, vs 5), (32, vs 1), (33, vi .i64 (len sizes_2)), (34, vi .i64 x_9)] [] [] [] (by kernel_rfl) ?_
             refine SL.nilJ fun a w h => ?_
             exact ⟨l_15, l_14, hp, h.at (js := [.g 0, .g 1, .g 6, .g 5]) (by kernel_rfl)⟩
         · rintro a w ⟨l_10, l_11, hp, h⟩
           refine h.go ?_
           refine SC.reg ?_
           refine SL.sim tk 2 [(0, vs 2), (10, vs 3), (32, vs 1), (33, vi .i64 (len sizes_2)), (34, vi .i64 (w64 (x_9 + 1)))] [] [] [] (by kernel_rfl) ?_
           refine SL.nilJ fun a w h => ?_
           exact ⟨n1, Nat.lt_succ_self _, l_10, l_11, w64 (x_9 + 1), next_inv hp hs1, h.at (js := [.g 0, .g 1, .g 2, .g 3]) (by kernel_rfl)⟩
       · refine SC.exitJ rfl fun a w h => ?_
         have ho := done_inv hp hs1
         replace hp := ho1
         try rw [ho] at hp
         exact ⟨l_7, l_8, hp, h.at (js := [.g 0, .g 1, .g 2, .g 3]) (by kernel_rfl)⟩
     · rintro a w ⟨l_4, l_5, hp, h⟩
       refine h.go ?_
       refine SC.seq ?_
       refine SC.reg ?_
       refine SL.sim tk 2 [(61, vs 3), (62, vs 2)] [] [] [] (by kernel_rfl) ?_
       refine SL.eff (e_lit (sz := 1) (E := 31) (R := (RSl 1 R8)) (by_ := 24) tk [[.s 2]] [l_4] (by kernel_rfl) ⟨(Clo.sl (by kernel_rfl)), trivial⟩ rfl (by kernel_rfl) (by kernel_rfl)) rfl (by kernel_rfl) ?_
       obtain ⟨x_6, e_x_6, hp⟩ := bind_inv hp
       refine SL.pre (pre_frz (i := 4) (sz := 1) (E := 31) (R := (RSl 1 R8)) (l := [l_4]) (by kernel_rfl)) ?_
       refine SL.eff (e_c Tryd.call41 (ok_octets_Join F [l_4] _ e_x_6) [.g 4] [vs 4] (vs 5) (by kernel_rfl) (.inl rfl)) rfl (by kernel_rfl) ?_
       refine SL.sim tk 3 [(4, vs 3), (5, vs 5), (6, vi .i64 0)] [] [] [] (by kernel_rfl) ?_
       refine SL.nilThen ?_
       obtain rfl := some_inv' hp
       exact SC.re (js := [.g 0, .g 1, .z 3, .g 5]) tk (by kernel_rfl)

theorem ok_address_Decode (F : Nat) (b_1 : (List Int)) (r : T_api_Address × (List Int) × Int) (hp : address_Decode F b_1 = some r) : Spec Tryd.prog 44 [vs 0] [.rd 1 R8 b_1] (.u [.inr [ci .i64 r.1.Kind, ci .u64 r.1.Bits], .inl (.s 1), .inl (ci .i64 r.2.2)]) [.gone, .rd 1 R8 r.2.1] := by
 refine Spec.enter Tryd.func44 rfl Tryd.ntmps44 rfl rfl fun fx => ?_
 refine SC.seq ?_
 refine SC.reg ?_
 refine SL.eff (e_alloc (E := 24) tk [ci .i64 0, ci .u64 0] (by kernel_rfl)) rfl (by kernel_rfl) ?_
 refine SL.sim tk 2 [(0, vs 0), (2, vp 1 0)] [] [] [] (by kernel_rfl) ?_
 refine SL.nilThen ?_
 refine SC.seq ?_
 refine SC.reg ?_
 refine SL.sim tk 1 [(2, vp 1 0), (11, vs 0)] [] [] [] (by kernel_rfl) ?_
 refine SL.eff (e_lit (sz := 1) (E := 3) (R := (RInt .i64)) (by_ := 8) tk [[ci .i64 1], [ci .i64 6]] [1, 6] (by kernel_rfl) ⟨Clo.int, ⟨Clo.int, trivial⟩⟩ rfl (by kernel_rfl) (by kernel_rfl)) rfl (by kernel_rfl) ?_
 obtain ⟨x_2, e_x_2, hp⟩ := bind_inv hp
 refine SL.pre (pre_frz (i := 2) (sz := 1) (E := 3) (R := (RInt .i64)) (l := [1, 6]) (by kernel_rfl)) ?_
 refine SL.eff (e_c Tryd.call45 (ok_octets_Take F b_1 [1, 6] _ e_x_2) [.g 0, .g 2] [vs 0, vs 2] (.u [.inl (.s 3), .inl (.s 4), .inl (ci .i64 x_2.2.2)]) (by kernel_rfl) (.inl rfl)) rfl (by kernel_rfl) ?_
 refine SL.norm (itsN := [.rd 1 R8 b_1, .blk 24 [ci .i64 0, ci .u64 0], .rd 1 (RInt .i64) [1, 6], .rd 1 (RInt .u64) x_2.1, .rd 1 R8 x_2.2.1]) (by kernel_rfl) ?_
 refine SL.sim tk 7 [(2, vp 1 0), (5, vs 3), (6, vs 4), (7, vi .i64 x_2.2.2)] [] [] [] (by kernel_rfl) ?_
 refine SL.nilThen ?_
 refine SC.seq ?_
 refine SC.r tk [(2, vp 1 0), (5, vs 3), (6, vs 4), (7, vi .i64 x_2.2.2), (18, vb (x_2.2.2 != 0))] [] [] [] (by kernel_rfl) ?_
 refine SC.if' rfl hp (fun hp => ?_) (fun hp => ?_)
 · refine SC.r tk [(2, vp 1 0), (3, vn), (4, vi .i64 x_2.2.2)] [(1, 24, [ci .i64 0, ci .u64 0])] [] [] (by kernel_rfl) ?_
   obtain rfl := some_inv' hp
   exact SC.re (js := [.g 0, .n]) tk (by kernel_rfl)
 · refine SC.skipThen ?_
   refine SC.cut (fun a w => ∃ (c_5 : T_api_Address), address_Decode_j1 F x_2 c_5 = some r ∧ A 37 1 fx [(2, vp 1 0), (6, vs 2), (8, vp 3 0)] [.gone, .blk 24 [ci .i64 0, ci .u64 0], .rd 1 R8 x_2.2.1, .blk 24 (C_api_Address c_5)] a w) ?_ ?_
   · obtain ⟨x_7, e_x_7, hp⟩ := bind_inv hp
     obtain ⟨x_8, e_x_8, hp⟩ := bind_inv hp
     refine SC.pre (pre_ix (i := 3) (iv := 0) (sz := 1) (R := (RInt .u64)) (l := x_2.1) (by kernel_rfl) rfl e_x_7) ?_
     refine SC.pre (pre_ix (i := 3) (iv := 1) (sz := 1) (R := (RInt .u64)) (l := x_2.1) (by kernel_rfl) rfl e_x_8) ?_
     refine SC.draw MO [I, I, I, I, I, I, I] (by kernel_rfl) fun kap_9 D_10 => ?_
     refine SD.takes tk D_10 [] kn0 [0, 1, 2, 3, 4, 5, 6, 7] [.el 5, .el 6] [0, 1] [I, I, I, I, I, I, I, I, O, O] [(2, vp 1 0), (6, vs 4), (28, .g [ci .i64 (w64 x_7), ci .u64 x_8])] rfl (by kernel_rfl) (by kernel_rfl) (by kernel_rfl) ?_
     refine SD.all1 (i := 8) (by kernel_rfl) ?_
     refine SW.eff D_10 (i := 8) (bs' := [I, I, I, I, I, I, I, I, I, O]) rfl (.inl rfl) rfl (e_alloc (E := 24) tk [ci .i64 0, ci .u64 0] (by kernel_rfl)) (by kernel_rfl) rfl (by kernel_rfl) ?_
     refine SD.all1 (i := 9) (by kernel_rfl) ?_
     refine SW.store D_10 tk (i := 9) (q := 7) (T := 24) (cs := [ci .i64 (w64 x_7), ci .u64 x_8]) (bs' := [I, I, I, I, I, I, I, I, I, I]) rfl (by kernel_rfl) rfl rfl (by kernel_rfl) ?_
     refine SD.norm (itsN := [.rd 1 R8 b_1, .blk 24 [ci .i64 0, ci .u64 0], .rd 1 (RInt .i64) [1, 6], .rd 1 (RInt .u64) x_2.1, .rd 1 R8 x_2.2.1, .elt (some (3, 0)) false [ci .u64 x_7], .elt (some (3, 1)) false [ci .u64 x_8], .blk 24 [ci .i64 (w64 x_7), ci .u64 x_8]]) (by kernel_rfl) ?_
     refine SD.done (by kernel_rfl) fun a w h => ?_
     exact ⟨(T_api_Address.mk (w64 x_7) x_8), hp, h.at (js := [.g 0, .g 1, .g 4, .g 7]) (by kernel_rfl)⟩
   · rintro a w ⟨c_5, hp, h⟩
     refine h.go ?_
     refine SC.seq ?_
     refine SC.seq ?_
     refine SC.reg ?_
     refine SL.sim tk 1 [(2, vp 1 0), (6, vs 2), (8, vp 3 0), (29, .g (C_api_Address c_5))] [] [] [] (by kernel_rfl) ?_
     obtain ⟨x_6, e_x_6, hp⟩ := bind_inv hp
     refine SL.eff (e_c Tryd.call48 (ok_address_Check F c_5 _ e_x_6) [] [.g (C_api_Address c_5)] (vi .i64 x_6) (by kernel_rfl) (.inl rfl)) rfl (by kernel_rfl) ?_
     refine SL.sim tk 1 [(2, vp 1 0), (6, vs 2), (8, vp 3 0), (9, vi .i64 x_6)] [] [] [] (by kernel_rfl) ?_
     refine SL.nilThen ?_
     refine SC.r tk [(2, vp 1 0), (6, vs 2), (8, vp 3 0), (9, vi .i64 x_6), (32, vb (x_6 != 0))] [] [] [] (by kernel_rfl) ?_
     refine SC.if' rfl hp (fun hp => ?_) (fun hp => ?_)
     · refine SC.r tk [(2, vp 1 0), (3, vn), (4, vi .i64 x_6)] [(1, 24, [ci .i64 0, ci .u64 0])] [] [] (by kernel_rfl) ?_
       obtain rfl := some_inv' hp
       exact SC.re (js := [.g 0, .n]) tk (by kernel_rfl)
     · refine SC.skipThen ?_
       refine SC.r tk [(2, vp 1 0), (3, vs 2), (4, vi .i64 0)] [(1, 24, (C_api_Address c_5))] [] [] (by kernel_rfl) ?_
       obtain rfl := some_inv' hp
       exact SC.re (js := [.g 0, .g 2]) tk (by kernel_rfl)

theorem ok_bonds_Decode (F : Nat) (b_1 : (List Int)) (r : T_api_Bond × Int) (hp : bonds_Decode F b_1 = some r) : Spec Tryd.prog 12 [vs 0] [.rd 1 R8 b_1] (.u [.inr [ci .i64 r.1.Peer.Address.Kind, ci .u64 r.1.Peer.Address.Bits, ci .u64 r.1.Peer.IRK, ci .u64 r.1.LTK, ci .u64 r.1.Mark, cb r.1.Strong, ci .u64 r.1.Hash, cb r.1.Aware, .s 1, ci .i64 r.1.Used], .inl (ci .i64 r.2)]) [.gone, .rd 2 R_T_api_Subscription r.1.Subs] := by
 refine Spec.enter Tryd.func12 rfl Tryd.ntmps12 rfl rfl fun fx => ?_
 refine SC.seq ?_
 refine SC.reg ?_
 refine SL.eff (e_alloc (E := 30) tk (C_api_Bond (T_api_Bond.mk (T_api_Identity.mk (T_api_Address.mk 0 0) 0) 0 0 false 0 false [] 0) nl) (by kernel_rfl)) rfl (by kernel_rfl) ?_
 refine SL.sim tk 1 [(0, vs 0), (2, vp 1 0)] [] [] [] (by kernel_rfl) ?_
 refine SL.nilThen ?_
 refine SC.seq ?_
 refine SC.seq ?_
 refine SC.reg ?_
 refine SL.sim tk 4 [(0, vs 0), (2, vp 1 0), (16, vb (decide ((len b_1) < 45)))] [] [] [] (by kernel_rfl) ?_
 obtain ⟨z_3, hz, hpr⟩ := bind_inv hp
 clear hp
 refine SL.cutAt 10 (fun a w => A 123 1 fx [(0, vs 0), (2, vp 1 0), (26, vb z_3)] [.rd 1 R8 b_1, .blk 30 (C_api_Bond (T_api_Bond.mk (T_api_Identity.mk (T_api_Address.mk 0 0) 0) 0 0 false 0 false [] 0) nl)] a w) ?_ ?_
 · have hp := hz
   rcases Bool.eq_false_or_eq_true (decide ((len b_1) < 45)) with hg_2 | hg_2
   · replace hp := if_t hp hg_2
     refine SL.no rfl rfl hg_2 rfl ?_
     refine SL.no rfl rfl hg_2 rfl ?_
     refine SL.no rfl rfl hg_2 rfl ?_
     refine SL.no rfl rfl hg_2 rfl ?_
     refine SL.no rfl rfl hg_2 rfl ?_
     refine SL.no rfl rfl hg_2 rfl ?_
     refine SL.no rfl rfl hg_2 rfl ?_
     refine SL.no rfl rfl hg_2 rfl ?_
     refine SL.no rfl rfl hg_2 rfl ?_
     refine SL.pickt rfl hg_2 rfl rfl ?_
     refine SL.nilJ fun a w h => ?_
     obtain rfl := some_inv' hp
     exact h.at (js := [.g 0, .g 1]) (by kernel_rfl)
   · replace hp := if_f hp hg_2
     refine SL.yes rfl rfl hg_2 ?_
     refine SL.sim tk 1 [(0, vs 0), (2, vp 1 0), (16, vb (decide ((len b_1) < 45))), (17, vs 0)] [] [] [] (by kernel_rfl) ?_
     refine SL.yes rfl rfl hg_2 ?_
     refine SL.sim tk 1 [(0, vs 0), (2, vp 1 0), (16, vb (decide ((len b_1) < 45))), (18, vi .i64 (len b_1))] [] [] [] (by kernel_rfl) ?_
     refine SL.yes rfl rfl hg_2 ?_
     refine SL.sim tk 1 [(0, vs 0), (2, vp 1 0), (16, vb (decide ((len b_1) < 45))), (18, vi .i64 (len b_1)), (19, vs 0)] [] [] [] (by kernel_rfl) ?_
     refine SL.yes rfl rfl hg_2 ?_
     obtain ⟨x_1320, e_x_1320, hp⟩ := bind_inv hp
     refine SL.pre (pre_ix (i := 0) (iv := 44) (sz := 1) (R := R8) (l := b_1) (by kernel_rfl) rfl e_x_1320) ?_
     refine SL.sim tk 1 [(0, vs 0), (2, vp 1 0), (16, vb (decide ((len b_1) < 45))), (18, vi .i64 (len b_1)), (20, vp 2 0)] [] [.el 2] [44] (by kernel_rfl) ?_
     refine SL.yes rfl rfl hg_2 ?_
     refine SL.sim tk 1 [(0, vs 0), (2, vp 1 0), (16, vb (decide ((len b_1) < 45))), (18, vi .i64 (len b_1)), (21, vi .u8 x_1320)] [] [] [] (by kernel_rfl) ?_
     refine SL.yes rfl rfl hg_2 ?_
     refine SL.sim tk 1 [(0, vs 0), (2, vp 1 0), (16, vb (decide ((len b_1) < 45))), (18, vi .i64 (len b_1)), (22, vi .i64 (w64 x_1320))] [] [] [] (by kernel_rfl) ?_
     refine SL.yes rfl rfl hg_2 ?_
     refine SL.sim tk 1 [(0, vs 0), (2, vp 1 0), (16, vb (decide ((len b_1) < 45))), (18, vi .i64 (len b_1)), (23, vi .i64 (w64 (3 * (w64 x_1320))))] [] [] [] (by kernel_rfl) ?_
     refine SL.yes rfl rfl hg_2 ?_
     refine SL.sim tk 1 [(0, vs 0), (2, vp 1 0), (16, vb (decide ((len b_1) < 45))), (18, vi .i64 (len b_1)), (24, vi .i64 (w64 (45 + (w64 (3 * (w64 x_1320))))))] [] [] [] (by kernel_rfl) ?_
     refine SL.yes rfl rfl hg_2 ?_
     refine SL.sim tk 1 [(0, vs 0), (2, vp 1 0), (16, vb (decide ((len b_1) < 45))), (25, vb (decide ((len b_1) < (w64 (45 + (w64 (3 * (w64 x_1320))))))))] [] [] [] (by kernel_rfl) ?_
     refine SL.pickf rfl hg_2 rfl rfl ?_
     refine SL.nilJ fun a w h => ?_
     obtain rfl := some_inv' hp
     exact h.at (js := [.g 0, .g 1]) (by kernel_rfl)
 · intro a w h
   have hp := hpr; clear hpr hz
   refine h.goL ?_
   refine SL.nilThen ?_
   refine SC.if' rfl hp (fun hp => ?_) (fun hp => ?_)
   · refine SC.r tk [(2, vp 1 0), (3, vi .i64 3)] [(1, 30, (C_api_Bond (T_api_Bond.mk (T_api_Identity.mk (T_api_Address.mk 0 0) 0) 0 0 false 0 false [] 0) nl))] [] [] (by kernel_rfl) ?_
     obtain rfl := some_inv' hp
     exact SC.re (js := [.g 0, .n]) tk (by kernel_rfl)
   · refine SC.skipThen ?_
     refine SC.seq ?_
     refine SC.reg ?_
     refine SL.sim tk 1 [(0, vs 0), (2, vp 1 0), (29, vs 0)] [] [] [] (by kernel_rfl) ?_
     obtain ⟨x_4, e_x_4, hp⟩ := bind_inv hp
     refine SL.eff (e_c Tryd.call44 (ok_address_Decode F b_1 _ e_x_4) [.g 0] [vs 0] (.u [.inr (C_api_Address x_4.1), .inl (.s 2), .inl (ci .i64 x_4.2.2)]) (by kernel_rfl) (.inl rfl)) rfl (by kernel_rfl) ?_
     refine SL.sim tk 4 [(0, vs 0), (2, vp 1 0), (31, .g (C_api_Address x_4.1)), (32, vs 2), (33, vi .i64 x_4.2.2)] [] [] [] (by kernel_rfl) ?_
     refine SL.eff (e_alloc (E := 24) tk [ci .i64 0, ci .u64 0] (by kernel_rfl)) rfl (by kernel_rfl) ?_
     refine SL.sim tk 3 [(0, vs 0), (2, vp 1 0), (4, vp 3 0), (6, vi .i64 x_4.2.2)] [(3, 24, (C_api_Address x_4.1))] [] [] (by kernel_rfl) ?_
     refine SL.nilThen ?_
     refine SC.seq ?_
     refine SC.reg ?_
     refine SL.sim tk 1 [(0, vs 0), (2, vp 1 0), (4, vp 3 0), (6, vi .i64 x_4.2.2), (35, vs 0)] [] [] [] (by kernel_rfl) ?_
     obtain ⟨l_5, e_l_5, hp⟩ := bind_inv hp
     refine SL.eff (e_sub (sz := 1) (E := 5) (R := R8) (by_ := 1) (l := b_1) tk rfl (.inl ⟨0, rfl, (by kernel_rfl)⟩) rfl rfl e_l_5 (by kernel_rfl)) rfl (by kernel_rfl) ?_
     refine SL.norm (itsN := [.rd 1 R8 b_1, .blk 30 (C_api_Bond (T_api_Bond.mk (T_api_Identity.mk (T_api_Address.mk 0 0) 0) 0 0 false 0 false [] 0) nl), .rd 1 R8 x_4.2.1, .blk 24 (C_api_Address x_4.1), .rd 1 R8 l_5]) (by kernel_rfl) ?_
     refine SL.eff (e_lit (sz := 1) (E := 3) (R := (RInt .i64)) (by_ := 8) tk [[ci .i64 8], [ci .i64 8], [ci .i64 8], [ci .i64 1], [ci .i64 8], [ci .i64 4], [ci .i64 1]] [8, 8, 8, 1, 8, 4, 1] (by kernel_rfl) ⟨Clo.int, ⟨Clo.int, ⟨Clo.int, ⟨Clo.int, ⟨Clo.int, ⟨Clo.int, ⟨Clo.int, trivial⟩⟩⟩⟩⟩⟩⟩ rfl (by kernel_rfl) (by kernel_rfl)) rfl (by kernel_rfl) ?_
     obtain ⟨x_6, e_x_6, hp⟩ := bind_inv hp
     refine SL.pre (pre_frz (i := 5) (sz := 1) (E := 3) (R := (RInt .i64)) (l := [8, 8, 8, 1, 8, 4, 1]) (by kernel_rfl)) ?_
     refine SL.eff (e_c Tryd.call45 (ok_octets_Take F l_5 [8, 8, 8, 1, 8, 4, 1] _ e_x_6) [.g 4, .g 5] [vs 4, vs 5] (.u [.inl (.s 6), .inl (.s 7), .inl (ci .i64 x_6.2.2)]) (by kernel_rfl) (.inl rfl)) rfl (by kernel_rfl) ?_
     refine SL.sim tk 7 [(0, vs 0), (2, vp 1 0), (4, vp 3 0), (6, vi .i64 x_4.2.2), (7, vs 6), (8, vs 7)] [] [] [] (by kernel_rfl) ?_
     refine SL.nilThen ?_
     refine SC.seq ?_
     refine SC.seq ?_
     refine SC.reg ?_
     obtain ⟨x_7, e_x_7, hp⟩ := bind_inv hp
     refine SL.pre (pre_ix (i := 0) (iv := 44) (sz := 1) (R := R8) (l := b_1) (by kernel_rfl) rfl e_x_7) ?_
     refine SL.sim tk 9 [(2, vp 1 0), (4, vp 3 0), (6, vi .i64 x_4.2.2), (7, vs 6), (8, vs 7), (50, vb (decide ((len x_6.2.1) > (w64 (3 * (w64 x_7))))))] [] [.el 8] [44] (by kernel_rfl) ?_
     obtain ⟨z_9, hz, hpr⟩ := bind_inv hp
     clear hp
     refine SL.cutAt 5 (fun a w => A 123 1 fx [(2, vp 1 0), (4, vp 2 0), (6, vi .i64 x_4.2.2), (7, vs 3), (8, vs 4), (55, vb z_9)] [.gone, .blk 30 (C_api_Bond (T_api_Bond.mk (T_api_Identity.mk (T_api_Address.mk 0 0) 0) 0 0 false 0 false [] 0) nl), .blk 24 (C_api_Address x_4.1), .rd 1 (RInt .u64) x_6.1, .rd 1 R8 x_6.2.1] a w) ?_ ?_
     · have hp := hz
       rcases Bool.eq_false_or_eq_true (decide ((len x_6.2.1) > (w64 (3 * (w64 x_7))))) with hg_8 | hg_8
       · replace hp := if_t hp hg_8
         refine SL.no rfl rfl hg_8 rfl ?_
         refine SL.no rfl rfl hg_8 rfl ?_
         refine SL.no rfl rfl hg_8 rfl ?_
         refine SL.no rfl rfl hg_8 rfl ?_
         refine SL.pickt rfl hg_8 rfl rfl ?_
         refine SL.nilJ fun a w h => ?_
         obtain rfl := some_inv' hp
         exact h.at (js := [.g 0, .g 1, .g 3, .g 6, .g 7]) (by kernel_rfl)
       · replace hp := if_f hp hg_8
         refine SL.yes rfl rfl hg_8 ?_
         refine SL.sim tk 1 [(2, vp 1 0), (4, vp 3 0), (6, vi .i64 x_4.2.2), (7, vs 6), (8, vs 7), (50, vb (decide ((len x_6.2.1) > (w64 (3 * (w64 x_7)))))), (51, vs 6)] [] [] [] (by kernel_rfl) ?_
         refine SL.yes rfl rfl hg_8 ?_
         obtain ⟨x_1318, e_x_1318, hp⟩ := bind_inv hp
         refine SL.pre (pre_ix (i := 6) (iv := 3) (sz := 1) (R := (RInt .u64)) (l := x_6.1) (by kernel_rfl) rfl e_x_1318) ?_
         refine SL.sim tk 1 [(2, vp 1 0), (4, vp 3 0), (6, vi .i64 x_4.2.2), (7, vs 6), (8, vs 7), (50, vb (decide ((len x_6.2.1) > (w64 (3 * (w64 x_7)))))), (52, vp 9 0)] [] [.el 9] [3] (by kernel_rfl) ?_
         refine SL.yes rfl rfl hg_8 ?_
         refine SL.sim tk 1 [(2, vp 1 0), (4, vp 3 0), (6, vi .i64 x_4.2.2), (7, vs 6), (8, vs 7), (50, vb (decide ((len x_6.2.1) > (w64 (3 * (w64 x_7)))))), (53, vi .u64 x_1318)] [] [] [] (by kernel_rfl) ?_
         refine SL.yes rfl rfl hg_8 ?_
         refine SL.sim tk 1 [(2, vp 1 0), (4, vp 3 0), (6, vi .i64 x_4.2.2), (7, vs 6), (8, vs 7), (50, vb (decide ((len x_6.2.1) > (w64 (3 * (w64 x_7)))))), (54, vb (decide (x_1318 > 3)))] [] [] [] (by kernel_rfl) ?_
         refine SL.pickf rfl hg_8 rfl rfl ?_
         refine SL.nilJ fun a w h => ?_
         obtain rfl := some_inv' hp
         exact h.at (js := [.g 0, .g 1, .g 3, .g 6, .g 7]) (by kernel_rfl)
     · intro a w h
       have hp := hpr; clear hpr hz
       refine h.goL ?_
       refine SL.nilThen ?_
       refine SC.if' rfl hp (fun hp => ?_) (fun hp => ?_)
       · refine SC.r tk [(2, vp 1 0), (3, vi .i64 2)] [(1, 30, (C_api_Bond (T_api_Bond.mk (T_api_Identity.mk (T_api_Address.mk 0 0) 0) 0 0 false 0 false [] 0) nl))] [] [] (by kernel_rfl) ?_
         obtain rfl := some_inv' hp
         exact SC.re (js := [.g 0, .n]) tk (by kernel_rfl)
       · refine SC.skipThen ?_
         refine SC.seq ?_
         refine SC.r tk [(2, vp 1 0), (4, vp 2 0), (6, vi .i64 x_4.2.2), (7, vs 3), (8, vs 4), (58, vb (x_4.2.2 != 0))] [] [] [] (by kernel_rfl) ?_
         refine SC.if' rfl hp (fun hp => ?_) (fun hp => ?_)
         · refine SC.r tk [(2, vp 1 0), (3, vi .i64 x_4.2.2)] [(1, 30, (C_api_Bond (T_api_Bond.mk (T_api_Identity.mk (T_api_Address.mk 0 0) 0) 0 0 false 0 false [] 0) nl))] [] [] (by kernel_rfl) ?_
           obtain rfl := some_inv' hp
           exact SC.re (js := [.g 0, .n]) tk (by kernel_rfl)
         · refine SC.skipThen ?_
           refine SC.cut (fun a w => ∃ (x_10 : Int) (x_11 : Int) (x_12 : Int) (z_13 : Bool) (x_14 : Int) (z_15 : Bool) (x_16 : Int), bonds_Decode_j1 F x_4 x_6 x_10 x_11 x_12 z_13 x_14 z_15 x_16 = some r ∧ A 123 1 fx [(2, vp 1 0), (7, vs 2), (8, vs 3), (10, vp 4 0)] [.gone, .blk 30 (C_api_Bond (T_api_Bond.mk (T_api_Identity.mk (T_api_Address.mk 0 0) 0) 0 0 false 0 false [] 0) nl), .rd 1 (RInt .u64) x_6.1, .rd 1 R8 x_6.2.1, .blk 30 (C_api_Bond (T_api_Bond.mk (T_api_Identity.mk x_4.1 x_10) x_11 x_12 z_13 x_14 z_15 [] x_16) nl)] a w) ?_ ?_
           · obtain ⟨x_1308, e_x_1308, hp⟩ := bind_inv hp
             obtain ⟨x_1309, e_x_1309, hp⟩ := bind_inv hp
             obtain ⟨x_1310, e_x_1310, hp⟩ := bind_inv hp
             obtain ⟨x_1311, e_x_1311, hp⟩ := bind_inv hp
             obtain ⟨x_1312, e_x_1312, hp⟩ := bind_inv hp
             obtain ⟨x_1313, e_x_1313, hp⟩ := bind_inv hp
             obtain ⟨x_1314, e_x_1314, hp⟩ := bind_inv hp
             refine SC.pre (pre_ix (i := 3) (iv := 0) (sz := 1) (R := (RInt .u64)) (l := x_6.1) (by kernel_rfl) rfl e_x_1308) ?_
             refine SC.pre (pre_ix (i := 3) (iv := 1) (sz := 1) (R := (RInt .u64)) (l := x_6.1) (by kernel_rfl) rfl e_x_1309) ?_
             refine SC.pre (pre_ix (i := 3) (iv := 2) (sz := 1) (R := (RInt .u64)) (l := x_6.1) (by kernel_rfl) rfl e_x_1310) ?_
             refine SC.pre (pre_ix (i := 3) (iv := 3) (sz := 1) (R := (RInt .u64)) (l := x_6.1) (by kernel_rfl) rfl e_x_1311) ?_
             refine SC.pre (pre_ix (i := 3) (iv := 3) (sz := 1) (R := (RInt .u64)) (l := x_6.1) (by kernel_rfl) rfl e_x_1312) ?_
             refine SC.pre (pre_ix (i := 3) (iv := 4) (sz := 1) (R := (RInt .u64)) (l := x_6.1) (by kernel_rfl) rfl e_x_1313) ?_
             refine SC.pre (pre_ix (i := 3) (iv := 5) (sz := 1) (R := (RInt .u64)) (l := x_6.1) (by kernel_rfl) rfl e_x_1314) ?_
             refine SC.draw MO [O, I, I, I, I, I, I, I, I, I, I, I] (by kernel_rfl) fun kap_1315 D_1316 => ?_
             refine SD.takes tk D_1316 [] kn0 [0, 1, 2, 3, 4, 5, 6, 7, 8, 9, 10, 11, 12, 13, 14, 15, 16, 17, 18, 19, 20, 21, 22, 23, 24, 25, 26, 27] [.el 5, .el 6, .el 7, .el 8, .bin .rem .u64 x_1311 2 (remp x_1311 2) (by kernel_rfl), .el 9, .el 10, .el 11] [0, 1, 2, 3, x_1311, 2, 3, 4, 5] [I, I, I, I, I, I, I, I, I, I, I, I, I, I, I, I, I, I, I, I, I, I, I, I, I, I, I, I, O, O] [(2, vp 1 0), (7, vs 3), (8, vs 4), (88, .g (C_api_Bond (T_api_Bond.mk (T_api_Identity.mk x_4.1 x_1308) x_1309 x_1310 ((remp x_1311 2) == 1) x_1313 (decide (x_1312 > 1)) [] (w64 x_1314)) nl))] rfl (by kernel_rfl) (by kernel_rfl) (by kernel_rfl) ?_
             refine SD.all1 (i := 28) (by kernel_rfl) ?_
             refine SW.eff D_1316 (i := 28) (bs' := [I, I, I, I, I, I, I, I, I, I, I, I, I, I, I, I, I, I, I, I, I, I, I, I, I, I, I, I, I, O]) rfl (.inl rfl) rfl (e_alloc (E := 30) tk (C_api_Bond (T_api_Bond.mk (T_api_Identity.mk (T_api_Address.mk 0 0) 0) 0 0 false 0 false [] 0) nl) (by kernel_rfl)) (by kernel_rfl) rfl (by kernel_rfl) ?_
             refine SD.all1 (i := 29) (by kernel_rfl) ?_
             refine SW.store D_1316 tk (i := 29) (q := 12) (T := 30) (cs := (C_api_Bond (T_api_Bond.mk (T_api_Identity.mk x_4.1 x_1308) x_1309 x_1310 ((remp x_1311 2) == 1) x_1313 (decide (x_1312 > 1)) [] (w64 x_1314)) nl)) (bs' := [I, I, I, I, I, I, I, I, I, I, I, I, I, I, I, I, I, I, I, I, I, I, I, I, I, I, I, I, I, I]) rfl (by kernel_rfl) rfl rfl (by kernel_rfl) ?_
             refine SD.norm (itsN := [.gone, .blk 30 (C_api_Bond (T_api_Bond.mk (T_api_Identity.mk (T_api_Address.mk 0 0) 0) 0 0 false 0 false [] 0) nl), .blk 24 (C_api_Address x_4.1), .rd 1 (RInt .u64) x_6.1, .rd 1 R8 x_6.2.1, .elt (some (3, 0)) false [ci .u64 x_1308], .elt (some (3, 1)) false [ci .u64 x_1309], .elt (some (3, 2)) false [ci .u64 x_1310], .elt (some (3, 3)) false [ci .u64 x_1311], .elt (some (3, 3)) false [ci .u64 x_1312], .elt (some (3, 4)) false [ci .u64 x_1313], .elt (some (3, 5)) false [ci .u64 x_1314], .blk 30 (C_api_Bond (T_api_Bond.mk (T_api_Identity.mk x_4.1 x_1308) x_1309 x_1310 ((remp x_1311 2) == 1) x_1313 (decide (x_1312 > 1)) [] (w64 x_1314)) nl)]) (by kernel_rfl) ?_
             refine SD.done (by kernel_rfl) fun a w h => ?_
             exact ⟨x_1308, x_1309, x_1310, ((remp x_1311 2) == 1), x_1313, decide (x_1312 > 1), w64 x_1314, hp, h.at (js := [.g 0, .g 1, .g 3, .g 4, .g 12]) (by kernel_rfl)⟩
           · rintro a w ⟨x_10, x_11, x_12, z_13, x_14, z_15, x_16, hp, h⟩
             refine h.go ?_
             refine SC.cut (fun a w => ∃ (l_17 : (List T_api_Subscription)), bonds_Decode_j2 F x_4 x_10 x_11 x_12 z_13 x_14 z_15 x_16 l_17 = some r ∧ A 123 1 fx [(2, vp 1 0), (10, vp 2 0)] [.gone, .blk 30 (C_api_Bond (T_api_Bond.mk (T_api_Identity.mk (T_api_Address.mk 0 0) 0) 0 0 false 0 false [] 0) nl), .blk 30 (C_api_Bond (T_api_Bond.mk (T_api_Identity.mk x_4.1 x_10) x_11 x_12 z_13 x_14 z_15 l_17 x_16) (.s 3)), .own 2 89 R_T_api_Subscription l_17] a w) ?_ ?_
             · obtain ⟨x_19, e_x_19, hp⟩ := bind_inv hp
               refine SC.pre (pre_ix (i := 2) (iv := 6) (sz := 1) (R := (RInt .u64)) (l := x_6.1) (by kernel_rfl) rfl e_x_19) ?_
               refine SC.r tk [(2, vp 1 0), (8, vs 3), (10, vp 4 0), (91, vi .u64 x_19), (92, vi .u64 0)] [] [.el 5] [6] (by kernel_rfl) ?_
               refine SC.block ?_
               obtain ⟨o1, hi1, ho1⟩ := bind_inv hp
               clear hp
               refine SC.loop (fun n a w => ∃ (l_20 : (List Int)) (l_21 : (List T_api_Subscription)) (x_22 : Int), iter (fun s => bonds_Decode_l1 F x_19 s.1 s.2.1 s.2.2) n (l_20, l_21, x_22) = some o1 ∧ A 123 1 fx [(2, vp 1 0), (8, vs 2), (10, vp 3 0), (91, vi .u64 x_19), (92, vi .u64 x_22)] [.gone, .blk 30 (C_api_Bond (T_api_Bond.mk (T_api_Identity.mk (T_api_Address.mk 0 0) 0) 0 0 false 0 false [] 0) nl), .rd 1 R8 l_20, .blk 30 (C_api_Bond (T_api_Bond.mk (T_api_Identity.mk x_4.1 x_10) x_11 x_12 z_13 x_14 z_15 l_21 x_16) (.s 4)), .own 2 89 R_T_api_Subscription l_21] a w) F (fun a w h => ⟨x_6.2.1, [], 0, hi1, h.at (js := [.g 0, .g 1, .g 3, .g 4, .n]) (by kernel_rfl)⟩) ?_
               rintro n1 a w ⟨l_20, l_21, x_22, hi1, h⟩
               obtain ⟨n1, q1, rfl, hp, hs1⟩ := iter_inv hi1
               replace hp : bonds_Decode_l1 F x_19 l_20 l_21 x_22 = some q1 := hp
               clear hi1
               refine h.go ?_
               refine SC.r tk [(2, vp 1 0), (8, vs 2), (10, vp 3 0), (91, vi .u64 x_19), (92, vi .u64 x_22), (93, vb (decide (x_22 < x_19)))] [] [] [] (by kernel_rfl) ?_
               refine SC.seq ?_
               refine SC.if' rfl hp (fun hp => ?_) (fun hp => ?_)
               · refine SC.skipThen ?_
                 refine SC.seq ?_
                 refine SC.block ?_
                 refine SC.r tk [(2, vp 1 0), (8, vs 2), (10, vp 3 0), (91, vi .u64 x_19), (92, vi .u64 x_22)] [] [] [] (by kernel_rfl) ?_
                 refine SC.seq ?_
                 refine SC.reg ?_
                 refine SL.sim tk 1 [(2, vp 1 0), (8, vs 2), (10, vp 3 0), (91, vi .u64 x_19), (92, vi .u64 x_22), (95, vs 2)] [] [] [] (by kernel_rfl) ?_
                 refine SL.eff (e_lit (sz := 1) (E := 3) (R := (RInt .i64)) (by_ := 8) tk [[ci .i64 2], [ci .i64 1]] [2, 1] (by kernel_rfl) ⟨Clo.int, ⟨Clo.int, trivial⟩⟩ rfl (by kernel_rfl) (by kernel_rfl)) rfl (by kernel_rfl) ?_
                 obtain ⟨x_23, e_x_23, hp⟩ := bind_inv hp
                 refine SL.pre (pre_frz (i := 5) (sz := 1) (E := 3) (R := (RInt .i64)) (l := [2, 1]) (by kernel_rfl)) ?_
                 refine SL.eff (e_c Tryd.call45 (ok_octets_Take F l_20 [2, 1] _ e_x_23) [.g 2, .g 5] [vs 2, vs 5] (.u [.inl (.s 6), .inl (.s 7), .inl (ci .i64 x_23.2.2)]) (by kernel_rfl) (.inl rfl)) rfl (by kernel_rfl) ?_
                 refine SL.sim tk 6 [(2, vp 1 0), (8, vs 7), (10, vp 3 0), (11, vs 6), (91, vi .u64 x_19), (92, vi .u64 x_22)] [] [] [] (by kernel_rfl) ?_
                 refine SL.nilThen ?_
                 obtain ⟨x_24, e_x_24, hp⟩ := bind_inv hp
                 obtain ⟨x_25, e_x_25, hp⟩ := bind_inv hp
                 refine SC.pre (pre_ix (i := 6) (iv := 0) (sz := 1) (R := (RInt .u64)) (l := x_23.1) (by kernel_rfl) rfl e_x_24) ?_
                 refine SC.pre (pre_ix (i := 6) (iv := 1) (sz := 1) (R := (RInt .u64)) (l := x_23.1) (by kernel_rfl) rfl e_x_25) ?_
                 refine SC.draw MO [O, I, I, O, O, I, I, I, I, I] (by kernel_rfl) fun kap_26 D_27 => ?_
                 refine SD.takes tk D_27 [] kn0 [2, 3, 4, 5, 6, 7, 8, 9, 10] [.el 8, .el 9] [0, 1] [O, O, I, I, I, I, I, I, I, I, I, O, O, O, O] [(2, vp 1 0), (8, vs 7), (10, vp 3 0), (91, vi .u64 x_19), (92, vi .u64 x_22), (111, .g [ci .u16 (wu16 x_24), ci .i64 (w64 x_25)])] rfl (by kernel_rfl) (by kernel_rfl) (by kernel_rfl) ?_
                 obtain ⟨l_988, e_l_988, hp⟩ := bind_inv hp
                 refine SD.lay 0 [I, I, I, I, I, I, I, I, I, I, I, I, I, I, I] [(2, vp 1 0), (8, vs 7), (10, vp 3 0), (91, vi .u64 x_19), (92, vi .u64 x_22)] [.gone, .blk 30 (C_api_Bond (T_api_Bond.mk (T_api_Identity.mk (T_api_Address.mk 0 0) 0) 0 0 false 0 false [] 0) nl), .rd 1 R8 l_20, .blk 30 (C_api_Bond (T_api_Bond.mk (T_api_Identity.mk x_4.1 x_10) x_11 x_12 z_13 x_14 z_15 l_988 x_16) (.s 11)), .gone, .rd 1 (RInt .i64) [2, 1], .rd 1 (RInt .u64) x_23.1, .rd 1 R8 x_23.2.1, .elt (some (6, 0)) false [ci .u64 x_24], .elt (some (6, 1)) false [ci .u64 x_25], .gone, .own 2 89 R_T_api_Subscription l_988] ?_ (fun c_27_0 => ?_)
                 · refine SD.doneThen (by kernel_rfl) ?_
                   refine SC.reg ?_
                   refine SL.sim tk 2 [(2, vp 1 0), (8, vs 7), (10, vp 3 0), (91, vi .u64 x_19), (92, vi .u64 (wu64 (x_22 + 1)))] [] [] [] (by kernel_rfl) ?_
                   refine SL.nilJ fun a w h => ?_
                   exact ⟨n1, Nat.lt_succ_self _, x_23.2.1, l_988, wu64 (x_22 + 1), next_inv hp hs1, h.at (js := [.g 0, .g 1, .g 7, .g 3, .g 11]) (by kernel_rfl)⟩
                 · refine SD.lay 1 [I, I, I, I, I, I, I, I, I, I, I, I, I, I, O] [(2, vp 1 0), (8, vs 7), (10, vp 3 0), (91, vi .u64 x_19), (92, vi .u64 x_22), (113, vs 11), (114, vp 3 8)] [.gone, .blk 30 (C_api_Bond (T_api_Bond.mk (T_api_Identity.mk (T_api_Address.mk 0 0) 0) 0 0 false 0 false [] 0) nl), .rd 1 R8 l_20, .blk 30 [ci .i64 x_4.1.Kind, ci .u64 x_4.1.Bits, ci .u64 x_10, ci .u64 x_11, ci .u64 x_12, cb z_13, ci .u64 x_14, cb z_15, .s 4, ci .i64 x_16], .gone, .rd 1 (RInt .i64) [2, 1], .rd 1 (RInt .u64) x_23.1, .rd 1 R8 x_23.2.1, .elt (some (6, 0)) false [ci .u64 x_24], .elt (some (6, 1)) false [ci .u64 x_25], .gone, .own 2 89 R_T_api_Subscription l_988] ?_ (fun c_27_1 => ?_)
                   · refine SD.all1 (i := 14) (by kernel_rfl) ?_
                     refine SW.store D_27 tk (i := 14) (q := 3) (T := 30) (cs := (C_api_Bond (T_api_Bond.mk (T_api_Identity.mk x_4.1 x_10) x_11 x_12 z_13 x_14 z_15 l_988 x_16) (.s 11))) (bs' := [I, I, I, I, I, I, I, I, I, I, I, I, I, I, I]) rfl (by kernel_rfl) rfl rfl (by kernel_rfl) ?_
                     exact SD.vie D_27 [.g 0, .g 1, .g 2, .g 3, .g 4, .g 5, .g 6, .g 7, .g 8, .g 9, .n, .g 11] c_27_0 (by kernel_rfl)
                   · refine SD.lay 2 [I, I, I, I, I, I, I, I, I, I, I, I, I, O, O] [(2, vp 1 0), (8, vs 7), (10, vp 3 0), (91, vi .u64 x_19), (92, vi .u64 x_22), (113, vs 11)] [.gone, .blk 30 (C_api_Bond (T_api_Bond.mk (T_api_Identity.mk (T_api_Address.mk 0 0) 0) 0 0 false 0 false [] 0) nl), .rd 1 R8 l_20, .blk 30 [ci .i64 x_4.1.Kind, ci .u64 x_4.1.Bits, ci .u64 x_10, ci .u64 x_11, ci .u64 x_12, cb z_13, ci .u64 x_14, cb z_15, .s 4, ci .i64 x_16], .gone, .rd 1 (RInt .i64) [2, 1], .rd 1 (RInt .u64) x_23.1, .rd 1 R8 x_23.2.1, .elt (some (6, 0)) false [ci .u64 x_24], .elt (some (6, 1)) false [ci .u64 x_25], .gone, .own 2 89 R_T_api_Subscription l_988] ?_ (fun c_27_2 => ?_)
                     · refine SD.all1 (i := 13) (by kernel_rfl) ?_
                       refine SW.eff D_27 (i := 13) (v := vp 3 8) (bs' := [I, I, I, I, I, I, I, I, I, I, I, I, I, I, O]) rfl (.inl rfl) rfl (e_val tk (by kernel_rfl)) (by kernel_rfl) rfl (by kernel_rfl) ?_
                       exact SD.vie D_27 [.g 0, .g 1, .g 2, .g 3, .g 4, .g 5, .g 6, .g 7, .g 8, .g 9, .n, .g 11] c_27_1 (by kernel_rfl)
                     · refine SD.lay 3 [I, I, I, I, I, I, I, I, I, I, I, I, O, O, O] [(2, vp 1 0), (8, vs 7), (10, vp 3 0), (91, vi .u64 x_19), (92, vi .u64 x_22), (102, vs 4), (112, vs 10)] [.gone, .blk 30 (C_api_Bond (T_api_Bond.mk (T_api_Identity.mk (T_api_Address.mk 0 0) 0) 0 0 false 0 false [] 0) nl), .rd 1 R8 l_20, .blk 30 (C_api_Bond (T_api_Bond.mk (T_api_Identity.mk x_4.1 x_10) x_11 x_12 z_13 x_14 z_15 l_21 x_16) (.s 4)), .own 2 89 R_T_api_Subscription l_21, .rd 1 (RInt .i64) [2, 1], .rd 1 (RInt .u64) x_23.1, .rd 1 R8 x_23.2.1, .elt (some (6, 0)) false [ci .u64 x_24], .elt (some (6, 1)) false [ci .u64 x_25], .own 2 89 R_T_api_Subscription [(T_api_Subscription.mk (wu16 x_24) (w64 x_25))]] ?_ (fun c_27_3 => ?_)
                       · refine SD.all1 (i := 12) (by kernel_rfl) ?_
                         refine SW.eff D_27 (i := 12) (bs' := [I, I, I, I, I, I, I, I, I, I, I, I, I, O, O]) rfl (.inl rfl) rfl (e_app (i := 4) (l := l_21) (sz := 2) (E := 89) (R := R_T_api_Subscription) (by_ := 16) (m := [(T_api_Subscription.mk (wu16 x_24) (w64 x_25))]) tk rfl (by kernel_rfl) rfl (.o 89 (by kernel_rfl)) e_l_988 (by kernel_rfl)) (by kernel_rfl) rfl (by kernel_rfl) ?_
                         exact SD.vie D_27 [.g 0, .g 1, .g 2, .g 3, .g 4, .g 5, .g 6, .g 7, .g 8, .g 9, .n, .g 11] c_27_2 (by kernel_rfl)
                       · refine SD.lay 4 [I, I, I, I, I, I, I, I, I, I, I, O, O, O, O] [(2, vp 1 0), (8, vs 7), (10, vp 3 0), (91, vi .u64 x_19), (92, vi .u64 x_22), (102, vs 4), (111, .g [ci .u16 (wu16 x_24), ci .i64 (w64 x_25)])] [.gone, .blk 30 (C_api_Bond (T_api_Bond.mk (T_api_Identity.mk (T_api_Address.mk 0 0) 0) 0 0 false 0 false [] 0) nl), .rd 1 R8 l_20, .blk 30 (C_api_Bond (T_api_Bond.mk (T_api_Identity.mk x_4.1 x_10) x_11 x_12 z_13 x_14 z_15 l_21 x_16) (.s 4)), .own 2 89 R_T_api_Subscription l_21, .rd 1 (RInt .i64) [2, 1], .rd 1 (RInt .u64) x_23.1, .rd 1 R8 x_23.2.1, .elt (some (6, 0)) false [ci .u64 x_24], .elt (some (6, 1)) false [ci .u64 x_25]] ?_ (fun c_27_4 => ?_)
                         · refine SD.all1 (i := 11) (by kernel_rfl) ?_
                           refine SW.eff D_27 (i := 11) (bs' := [I, I, I, I, I, I, I, I, I, I, I, I, O, O, O]) rfl (.inl rfl) rfl (e_lit (sz := 2) (E := 89) (R := R_T_api_Subscription) (by_ := 16) tk [[ci .u16 (wu16 x_24), ci .i64 (w64 x_25)]] [(T_api_Subscription.mk (wu16 x_24) (w64 x_25))] (by kernel_rfl) ⟨(clo_T_api_Subscription (x := (T_api_Subscription.mk (wu16 x_24) (w64 x_25)))), trivial⟩ rfl (by kernel_rfl) (by kernel_rfl)) (by kernel_rfl) rfl (by kernel_rfl) ?_
                           exact SD.vie D_27 [.g 0, .g 1, .g 2, .g 3, .g 4, .g 5, .g 6, .g 7, .g 8, .g 9, .g 10] c_27_3 (by kernel_rfl)
                         · refine SD.lay 4 [I, O, I, I, I, I, I, I, I, I, I, I, O, O, O] [(2, vp 1 0), (8, vs 7), (10, vp 3 0), (91, vi .u64 x_19), (92, vi .u64 x_22), (101, vp 3 8), (112, vs 10)] [.gone, .blk 30 (C_api_Bond (T_api_Bond.mk (T_api_Identity.mk (T_api_Address.mk 0 0) 0) 0 0 false 0 false [] 0) nl), .rd 1 R8 l_20, .blk 30 (C_api_Bond (T_api_Bond.mk (T_api_Identity.mk x_4.1 x_10) x_11 x_12 z_13 x_14 z_15 l_21 x_16) (.s 4)), .own 2 89 R_T_api_Subscription l_21, .rd 1 (RInt .i64) [2, 1], .rd 1 (RInt .u64) x_23.1, .rd 1 R8 x_23.2.1, .elt (some (6, 0)) false [ci .u64 x_24], .elt (some (6, 1)) false [ci .u64 x_25], .own 2 89 R_T_api_Subscription [(T_api_Subscription.mk (wu16 x_24) (w64 x_25))]] ?_ (fun c_27_5 => ?_)
                           · refine SD.all1 (i := 1) (by kernel_rfl) ?_
                             refine SW.eff D_27 (i := 1) (v := vs 4) (bs' := [I, I, I, I, I, I, I, I, I, I, I, I, O, O, O]) rfl (.inl rfl) rfl (e_val tk (by kernel_rfl)) (by kernel_rfl) rfl (by kernel_rfl) ?_
                             exact SD.vie D_27 [.g 0, .g 1, .g 2, .g 3, .g 4, .g 5, .g 6, .g 7, .g 8, .g 9, .g 10] c_27_3 (by kernel_rfl)
                           · refine SD.lay 5 [I, O, I, I, I, I, I, I, I, I, I, O, O, O, O] [(2, vp 1 0), (8, vs 7), (10, vp 3 0), (91, vi .u64 x_19), (92, vi .u64 x_22), (101, vp 3 8), (111, .g [ci .u16 (wu16 x_24), ci .i64 (w64 x_25)])] [.gone, .blk 30 (C_api_Bond (T_api_Bond.mk (T_api_Identity.mk (T_api_Address.mk 0 0) 0) 0 0 false 0 false [] 0) nl), .rd 1 R8 l_20, .blk 30 (C_api_Bond (T_api_Bond.mk (T_api_Identity.mk x_4.1 x_10) x_11 x_12 z_13 x_14 z_15 l_21 x_16) (.s 4)), .own 2 89 R_T_api_Subscription l_21, .rd 1 (RInt .i64) [2, 1], .rd 1 (RInt .u64) x_23.1, .rd 1 R8 x_23.2.1, .elt (some (6, 0)) false [ci .u64 x_24], .elt (some (6, 1)) false [ci .u64 x_25]] ?_ (fun c_27_6 => ?_)
                             · refine SD.all2 (i := 1) (j := 11) (by kernel_rfl) ?_ ?_
                               · refine SW.eff D_27 (i := 1) (v := vs 4) (bs' := [I, I, I, I, I, I, I, I, I, I, I, O, O, O, O]) rfl (.inl rfl) rfl (e_val tk (by kernel_rfl)) (by kernel_rfl) rfl (by kernel_rfl) ?_
                                 exact SD.vie D_27 [.g 0, .g 1, .g 2, .g 3, .g 4, .g 5, .g 6, .g 7, .g 8, .g 9] c_27_4 (by kernel_rfl)
                               · refine SW.eff D_27 (i := 11) (bs' := [I, O, I, I, I, I, I, I, I, I, I, I, O, O, O]) rfl (.inl rfl) rfl (e_lit (sz := 2) (E := 89) (R := R_T_api_Subscription) (by_ := 16) tk [[ci .u16 (wu16 x_24), ci .i64 (w64 x_25)]] [(T_api_Subscription.mk (wu16 x_24) (w64 x_25))] (by kernel_rfl) ⟨(clo_T_api_Subscription (x := (T_api_Subscription.mk (wu16 x_24) (w64 x_25)))), trivial⟩ rfl (by kernel_rfl) (by kernel_rfl)) (by kernel_rfl) rfl (by kernel_rfl) ?_
                                 exact SD.vie D_27 [.g 0, .g 1, .g 2, .g 3, .g 4, .g 5, .g 6, .g 7, .g 8, .g 9, .g 10] c_27_5 (by kernel_rfl)
                             · refine SD.lay 5 [O, O, I, I, I, I, I, I, I, I, I, I, O, O, O] [(2, vp 1 0), (8, vs 7), (10, vp 3 0), (91, vi .u64 x_19), (92, vi .u64 x_22), (112, vs 10)] [.gone, .blk 30 (C_api_Bond (T_api_Bond.mk (T_api_Identity.mk (T_api_Address.mk 0 0) 0) 0 0 false 0 false [] 0) nl), .rd 1 R8 l_20, .blk 30 (C_api_Bond (T_api_Bond.mk (T_api_Identity.mk x_4.1 x_10) x_11 x_12 z_13 x_14 z_15 l_21 x_16) (.s 4)), .own 2 89 R_T_api_Subscription l_21, .rd 1 (RInt .i64) [2, 1], .rd 1 (RInt .u64) x_23.1, .rd 1 R8 x_23.2.1, .elt (some (6, 0)) false [ci .u64 x_24], .elt (some (6, 1)) false [ci .u64 x_25], .own 2 89 R_T_api_Subscription [(T_api_Subscription.mk (wu16 x_24) (w64 x_25))]] ?_ (fun c_27_7 => ?_)
                               · refine SD.all1 (i := 0) (by kernel_rfl) ?_
                                 refine SW.eff D_27 (i := 0) (v := vp 3 8) (bs' := [I, O, I, I, I, I, I, I, I, I, I, I, O, O, O]) rfl (.inl rfl) rfl (e_val tk (by kernel_rfl)) (by kernel_rfl) rfl (by kernel_rfl) ?_
                                 exact SD.vie D_27 [.g 0, .g 1, .g 2, .g 3, .g 4, .g 5, .g 6, .g 7, .g 8, .g 9, .g 10] c_27_5 (by kernel_rfl)
                               · refine SD.all2 (i := 0) (j := 11) (by kernel_rfl) ?_ ?_
                                 · refine SW.eff D_27 (i := 0) (v := vp 3 8) (bs' := [I, O, I, I, I, I, I, I, I, I, I, O, O, O, O]) rfl (.inl rfl) rfl (e_val tk (by kernel_rfl)) (by kernel_rfl) rfl (by kernel_rfl) ?_
                                   refine SD.norm (itsN := [.gone, .blk 30 (C_api_Bond (T_api_Bond.mk (T_api_Identity.mk (T_api_Address.mk 0 0) 0) 0 0 false 0 false [] 0) nl), .rd 1 R8 l_20, .blk 30 (C_api_Bond (T_api_Bond.mk (T_api_Identity.mk x_4.1 x_10) x_11 x_12 z_13 x_14 z_15 l_21 x_16) (.s 4)), .own 2 89 R_T_api_Subscription l_21, .rd 1 (RInt .i64) [2, 1], .rd 1 (RInt .u64) x_23.1, .rd 1 R8 x_23.2.1, .elt (some (6, 0)) false [ci .u64 x_24], .elt (some (6, 1)) false [ci .u64 x_25]]) (by kernel_rfl) ?_
                                   exact SD.vie D_27 [.g 0, .g 1, .g 2, .g 3, .g 4, .g 5, .g 6, .g 7, .g 8, .g 9] c_27_6 (by kernel_rfl)
                                 · refine SW.eff D_27 (i := 11) (bs' := [O, O, I, I, I, I, I, I, I, I, I, I, O, O, O]) rfl (.inl rfl) rfl (e_lit (sz := 2) (E := 89) (R := R_T_api_Subscription) (by_ := 16) tk [[ci .u16 (wu16 x_24), ci .i64 (w64 x_25)]] [(T_api_Subscription.mk (wu16 x_24) (w64 x_25))] (by kernel_rfl) ⟨(clo_T_api_Subscription (x := (T_api_Subscription.mk (wu16 x_24) (w64 x_25)))), trivial⟩ rfl (by kernel_rfl) (by kernel_rfl)) (by kernel_rfl) rfl (by kernel_rfl) ?_
                                   refine SD.norm (itsN := [.gone, .blk 30 (C_api_Bond (T_api_Bond.mk (T_api_Identity.mk (T_api_Address.mk 0 0) 0) 0 0 false 0 false [] 0) nl), .rd 1 R8 l_20, .blk 30 (C_api_Bond (T_api_Bond.mk (T_api_Identity.mk x_4.1 x_10) x_11 x_12 z_13 x_14 z_15 l_21 x_16) (.s 4)), .own 2 89 R_T_api_Subscription l_21, .rd 1 (RInt .i64) [2, 1], .rd 1 (RInt .u64) x_23.1, .rd 1 R8 x_23.2.1, .elt (some (6, 0)) false [ci .u64 x_24], .elt (some (6, 1)) false [ci .u64 x_25], .own 2 89 R_T_api_Subscription [(T_api_Subscription.mk (wu16 x_24) (w64 x_25))]]) (by kernel_rfl) ?_
                                   exact SD.vie D_27 [.g 0, .g 1, .g 2, .g 3, .g 4, .g 5, .g 6, .g 7, .g 8, .g 9, .g 10] c_27_7 (by kernel_rfl)
               · refine SC.exitJ rfl fun a w h => ?_
                 have ho := done_inv hp hs1
                 replace hp := ho1
                 try rw [ho] at hp
                 exact ⟨l_21, hp, h.at (js := [.g 0, .g 1, .g 3, .g 4]) (by kernel_rfl)⟩
             · rintro a w ⟨l_17, hp, h⟩
               refine h.go ?_
               refine SC.seq ?_
               refine SC.seq ?_
               refine SC.reg ?_
               refine SL.sim tk 1 [(2, vp 1 0), (10, vp 2 0), (116, .g (C_api_Bond (T_api_Bond.mk (T_api_Identity.mk x_4.1 x_10) x_11 x_12 z_13 x_14 z_15 l_17 x_16) (.s 3)))] [] [] [] (by kernel_rfl) ?_
               obtain ⟨x_18, e_x_18, hp⟩ := bind_inv hp
               refine SL.eff (e_c Tryd.call14 (ok_bonds_Check F (T_api_Bond.mk (T_api_Identity.mk x_4.1 x_10) x_11 x_12 z_13 x_14 z_15 l_17 x_16) _ e_x_18) [.l 3] [.g (C_api_Bond (T_api_Bond.mk (T_api_Identity.mk x_4.1 x_10) x_11 x_12 z_13 x_14 z_15 l_17 x_16) (.s 3))] (vi .i64 x_18) (by kernel_rfl) (.inr ⟨trivial, trivial⟩)) rfl (by kernel_rfl) ?_
               refine SL.sim tk 1 [(2, vp 1 0), (10, vp 2 0), (12, vi .i64 x_18)] [] [] [] (by kernel_rfl) ?_
               refine SL.nilThen ?_
               refine SC.r tk [(2, vp 1 0), (10, vp 2 0), (12, vi .i64 x_18), (119, vb (x_18 != 0))] [] [] [] (by kernel_rfl) ?_
               refine SC.if' rfl hp (fun hp => ?_) (fun hp => ?_)
               · refine SC.r tk [(2, vp 1 0), (3, vi .i64 x_18)] [(1, 30, (C_api_Bond (T_api_Bond.mk (T_api_Identity.mk (T_api_Address.mk 0 0) 0) 0 0 false 0 false [] 0) nl))] [] [] (by kernel_rfl) ?_
                 obtain rfl := some_inv' hp
                 exact SC.re (js := [.g 0, .n]) tk (by kernel_rfl)
               · refine SC.skipThen ?_
                 refine SC.r tk [(2, vp 1 0), (3, vi .i64 0)] [(1, 30, (C_api_Bond (T_api_Bond.mk (T_api_Identity.mk x_4.1 x_10) x_11 x_12 z_13 x_14 z_15 l_17 x_16) (.s 3)))] [] [] (by kernel_rfl) ?_
                 obtain rfl := some_inv' hp
                 exact SC.re (js := [.g 0, .z 3]) tk (by kernel_rfl)

theorem ok_slices_Clone_api_Subscription_api_Subscription (F : Nat) (s_1 : (List T_api_Subscription)) (r : (List T_api_Subscription)) (hp : slices_Clone_api_Subscription_api_Subscription F s_1 = some r) : Spec Tryd.prog 75 [vs 0] [.rd 2 R_T_api_Subscription s_1] (vs 1) [.gone, .rd 2 R_T_api_Subscription r] := by
 refine Spec.enter Tryd.func75 rfl Tryd.ntmps75 rfl rfl fun fx => ?_
 refine SC.r tk [(0, vs 0)] [] [] [] (by kernel_rfl) ?_
 refine SC.seq ?_
 refine SC.seq ?_
 refine SC.reg ?_
 refine SL.sim tk 1 [(0, vs 0), (3, vs 0)] [] [] [] (by kernel_rfl) ?_
 refine SL.eff (e_isnil tk rfl rfl rfl rfl (by kernel_rfl)) rfl (by kernel_rfl) ?_
 refine SL.nilThen ?_
 refine SC.nilFact 0 rfl rfl (by decide) (fun hnil => ?_)
 cases hq : nilAt fx 0
 · refine SC.iff rfl ?_
   refine SC.skipThen ?_
   refine SC.seq ?_
   refine SC.reg ?_
   refine SL.eff (e_lit (sz := 2) (E := 89) (R := R_T_api_Subscription) (by_ := 16) tk [] ([] : (List T_api_Subscription)) (by kernel_rfl) trivial rfl (by kernel_rfl) (by kernel_rfl)) rfl (by kernel_rfl) ?_
   refine SL.sim tk 1 [(5, vs 1), (6, vs 0)] [] [] [] (by kernel_rfl) ?_
   obtain ⟨l_2, e_l_2, hp⟩ := bind_inv hp
   refine SL.eff (e_app (i := 1) (l := ([] : (List T_api_Subscription))) (sz := 2) (E := 89) (R := R_T_api_Subscription) (by_ := 16) (m := s_1) tk rfl (by kernel_rfl) rfl (.r (by kernel_rfl)) e_l_2 (by kernel_rfl)) rfl (by kernel_rfl) ?_
   refine SL.sim tk 1 [(2, vs 2)] [] [] [] (by kernel_rfl) ?_
   refine SL.nilThen ?_
   obtain rfl := some_inv' hp
   exact SC.re (js := [.g 0, .z 2]) tk (by kernel_rfl)
 · obtain rfl := hnil hq
   have hp : (some [] : Option ((List T_api_Subscription))) = some r := by rw [← hp]; first | rfl | simp [app]
   refine SC.ift rfl ?_
   refine SC.r tk [(2, vn)] [] [] [] (by kernel_rfl) ?_
   obtain rfl := some_inv' hp
   exact SC.re (js := [.g 0, .n]) tk (by kernel_rfl)

theorem ok_bonds_own (F : Nat) (b_1 : T_api_Bond) (r : T_api_Bond) (hp : bonds_own F b_1 = some r) : Spec Tryd.prog 52 [.g (C_api_Bond b_1 (.s 0))] [.rd 2 R_T_api_Subscription b_1.Subs] (.g [ci .i64 r.Peer.Address.Kind, ci .u64 r.Peer.Address.Bits, ci .u64 r.Peer.IRK, ci .u64 r.LTK, ci .u64 r.Mark, cb r.Strong, ci .u64 r.Hash, cb r.Aware, .s 1, ci .i64 r.Used]) [.gone, .rd 2 R_T_api_Subscription r.Subs] := by
 refine Spec.enter Tryd.func52 rfl Tryd.ntmps52 rfl rfl fun fx => ?_
 refine SC.seq ?_
 refine SC.reg ?_
 refine SL.eff (e_box (E := 30) (C_api_Bond b_1 (.s 0)) (by kernel_rfl)) rfl (by kernel_rfl) ?_
 refine SL.eff (e_alloc (E := 30) tk (C_api_Bond (T_api_Bond.mk (T_api_Identity.mk (T_api_Address.mk 0 0) 0) 0 0 false 0 false [] 0) nl) (by kernel_rfl)) rfl (by kernel_rfl) ?_
 refine SL.nilThen ?_
 refine SC.seq ?_
 refine SC.reg ?_
 refine SL.sim tk 2 [(1, vp 1 0), (2, vp 2 0), (4, vs 0)] [] [] [] (by kernel_rfl) ?_
 obtain ⟨x_2, e_x_2, hp⟩ := bind_inv hp
 refine SL.eff (e_c Tryd.call75 (ok_slices_Clone_api_Subscription_api_Subscription F b_1.Subs _ e_x_2) [.g 0] [vs 0] (vs 3) (by kernel_rfl) (.inl rfl)) rfl (by kernel_rfl) ?_
 refine SL.norm (itsN := [.rd 2 R_T_api_Subscription b_1.Subs, .blk 30 (C_api_Bond b_1 (.s 0)), .blk 30 (C_api_Bond (T_api_Bond.mk (T_api_Identity.mk (T_api_Address.mk 0 0) 0) 0 0 false 0 false [] 0) nl), .rd 2 R_T_api_Subscription x_2]) (by kernel_rfl) ?_
 refine SL.sim tk 2 [(1, vp 1 0), (2, vp 2 0)] [(1, 30, (C_api_Bond ({ b_1 with Subs := x_2 }) (.s 3)))] [] [] (by kernel_rfl) ?_
 refine SL.nilThen ?_
 refine SC.r tk [(2, vp 2 0)] [(2, 30, (C_api_Bond ({ b_1 with Subs := x_2 }) (.s 3)))] [] [] (by kernel_rfl) ?_
 obtain rfl := some_inv' hp
 exact SC.re (js := [.g 0, .g 3]) tk (by kernel_rfl)

theorem ok_bonds_clone (F : Nat) (l_1 : (List T_api_Bond)) (r : (List T_api_Bond)) (hp : bonds_clone F l_1 = some r) : Spec Tryd.prog 50 [vs 0] [.rd 10 R_T_api_Bond l_1] (vs 1) [.gone, .own 10 30 R_T_api_Bond r] := by
 refine Spec.enter Tryd.func50 rfl Tryd.ntmps50 rfl rfl fun fx => ?_
 refine SC.r tk [(0, vs 0)] [] [] [] (by kernel_rfl) ?_
 refine SC.seq ?_
 refine SC.reg ?_
 refine SL.sim tk 3 [(0, vs 0), (8, vi .i64 (w64 ((len l_1) + 1)))] [] [] [] (by kernel_rfl) ?_
 obtain ⟨l_2, e_l_2, hp⟩ := bind_inv hp
 refine SL.eff (e_makec (sz := 10) (E := 30) (R := R_T_api_Bond) tk rfl rfl rfl (fun _ _ => ⟨none, 0, rfl, Sl.nil0⟩) e_l_2 (by kernel_rfl)) rfl (by kernel_rfl) ?_
 refine SL.sim tk 1 [(0, vs 0), (3, vs 1)] [] [] [] (by kernel_rfl) ?_
 refine SL.nilThen ?_
 refine SC.cut (fun a w => ∃ (l_3 : (List T_api_Bond)), bonds_clone_j1 F l_3 = some r ∧ A 23 1 fx [(3, vs 1)] [.gone, .own 10 30 R_T_api_Bond l_3] a w) ?_ ?_
 · refine SC.r tk [(3, vs 1), (10, vs 0), (11, vi .i64 (len l_1)), (12, vi .i64 0)] [] [] [] (by kernel_rfl) ?_
   refine SC.block ?_
   obtain ⟨o1, hi1, ho1⟩ := bind_inv hp
   clear hp
   refine SC.loop (fun n a w => ∃ (l_4 : (List T_api_Bond)) (x_5 : Int), iter (fun s => bonds_clone_l1 F l_1 s.1 s.2) n (l_4, x_5) = some o1 ∧ A 23 1 fx [(3, vs 1), (10, vs 0), (11, vi .i64 (len l_1)), (12, vi .i64 x_5)] [.rd 10 R_T_api_Bond l_1, .own 10 30 R_T_api_Bond l_4] a w) F (fun a w h => ⟨l_2, 0, hi1, h.at (js := [.g 0, .g 1]) (by kernel_rfl)⟩) ?_
   rintro n1 a w ⟨l_4, x_5, hi1, h⟩
   obtain ⟨n1, q1, rfl, hp, hs1⟩ := iter_inv hi1
   replace hp : bonds_clone_l1 F l_1 l_4 x_5 = some q1 := hp
   clear hi1
   refine h.go ?_
   refine SC.r tk [(3, vs 1), (10, vs 0), (11, vi .i64 (len l_1)), (12, vi .i64 x_5), (13, vb (decide (x_5 < (len l_1))))] [] [] [] (by kernel_rfl) ?_
   refine SC.seq ?_
   refine SC.if' rfl hp (fun hp => ?_) (fun hp => ?_)
   · refine SC.skipThen ?_
     refine SC.seq ?_
     refine SC.block ?_
     refine SC.seq ?_
     refine SC.reg ?_
     obtain ⟨x_6, e_x_6, hp⟩ := bind_inv hp
     refine SL.pre (pre_ix (i := 0) (iv := x_5) (sz := 10) (R := R_T_api_Bond) (l := l_1) (by kernel_rfl) rfl e_x_6) ?_
     refine SL.sim tk 2 [(3, vs 1), (10, vs 0), (11, vi .i64 (len l_1)), (12, vi .i64 x_5), (15, .g (C_api_Bond x_6 (.s 3)))] [] [.el 2] [x_5] (by kernel_rfl) ?_
     refine SL.eff (e_alloc (E := 30) tk (C_api_Bond (T_api_Bond.mk (T_api_Identity.mk (T_api_Address.mk 0 0) 0) 0 0 false 0 false [] 0) nl) (by kernel_rfl)) rfl (by kernel_rfl) ?_
     refine SL.sim tk 1 [(3, vs 1), (5, vp 4 0), (10, vs 0), (11, vi .i64 (len l_1)), (12, vi .i64 x_5)] [(4, 30, (C_api_Bond x_6 (.s 3)))] [] [] (by kernel_rfl) ?_
     refine SL.nilThen ?_
     refine SC.reg ?_
     refine SL.sim tk 2 [(3, vs 1), (10, vs 0), (11, vi .i64 (len l_1)), (12, vi .i64 x_5), (16, vs 1), (17, .g (C_api_Bond x_6 (.s 3)))] [] [] [] (by kernel_rfl) ?_
     obtain ⟨x_7, e_x_7, hp⟩ := bind_inv hp
     refine SL.eff (e_c Tryd.call52 (ok_bonds_own F x_6 _ e_x_7) [.g 3] [.g (C_api_Bond x_6 (.s 3))] (.g (C_api_Bond x_7 (.s 5))) (by kernel_rfl) (.inl rfl)) rfl (by kernel_rfl) ?_
     refine SL.norm (itsN := [.rd 10 R_T_api_Bond l_1, .own 10 30 R_T_api_Bond l_4, .elt (some (0, x_5)) false (C_api_Bond x_6 (.s 3)), .rd 2 R_T_api_Subscription x_6.Subs, .blk 30 (C_api_Bond x_6 (.s 3)), .rd 2 R_T_api_Subscription x_7.Subs]) (by kernel_rfl) ?_
     refine SL.eff (e_lit (sz := 10) (E := 30) (R := R_T_api_Bond) (by_ := 96) tk [(C_api_Bond x_7 (.s 5))] [x_7] (by kernel_rfl) ⟨(clo_T_api_Bond (x := x_7) (Clo.sl (by kernel_rfl))), trivial⟩ rfl (by kernel_rfl) (by kernel_rfl)) rfl (by kernel_rfl) ?_
     obtain ⟨l_8, e_l_8, hp⟩ := bind_inv hp
     refine SL.eff (e_app (i := 1) (l := l_4) (sz := 10) (E := 30) (R := R_T_api_Bond) (by_ := 96) (m := [x_7]) tk rfl (by kernel_rfl) rfl (.o 30 (by kernel_rfl)) e_l_8 (by kernel_rfl)) rfl (by kernel_rfl) ?_
     refine SL.sim tk 1 [(3, vs 7), (10, vs 0), (11, vi .i64 (len l_1)), (12, vi .i64 x_5)] [] [] [] (by kernel_rfl) ?_
     refine SL.nilThen ?_
     refine SC.reg ?_
     refine SL.sim tk 2 [(3, vs 7), (10, vs 0), (11, vi .i64 (len l_1)), (12, vi .i64 (w64 (x_5 + 1)))] [] [] [] (by kernel_rfl) ?_
     refine SL.nilJ fun a w h => ?_
     exact ⟨n1, Nat.lt_succ_self _, l_8, w64 (x_5 + 1), next_inv hp hs1, h.at (js := [.g 0, .g 7]) (by kernel_rfl)⟩
   · refine SC.exitJ rfl fun a w h => ?_
     have ho := done_inv hp hs1
     replace hp := ho1
     try rw [ho] at hp
     exact ⟨l_4, hp, h.at (js := [.g 0, .g 1]) (by kernel_rfl)⟩
 · rintro a w ⟨l_3, hp, h⟩
   refine h.go ?_
   refine SC.r tk [(2, vs 1)] [] [] [] (by kernel_rfl) ?_
   obtain rfl := some_inv' hp
   exact SC.re (js := [.g 0, .g 1]) tk (by kernel_rfl)

theorem ok_bonds_greatest (F : Nat) (l_1 : (List T_api_Bond)) (r : Int) (hp : bonds_greatest F l_1 = some r) : Spec Tryd.prog 73 [vs 0] [.rd 10 R_T_api_Bond l_1] (vi .i64 r) [.gone] := by
 refine Spec.enter Tryd.func73 rfl Tryd.ntmps73 rfl rfl fun fx => ?_
 refine SC.r tk [(0, vs 0)] [] [] [] (by kernel_rfl) ?_
 refine SC.r tk [(0, vs 0), (3, vi .i64 0)] [] [] [] (by kernel_rfl) ?_
 refine SC.cut (fun a w => ∃ (x_2 : Int), bonds_greatest_j1 F x_2 = some r ∧ A 18 1 fx [(3, vi .i64 x_2)] [.gone] a w) ?_ ?_
 · refine SC.r tk [(3, vi .i64 0), (6, vs 0), (7, vi .i64 (len l_1)), (8, vi .i64 0)] [] [] [] (by kernel_rfl) ?_
   refine SC.block ?_
   obtain ⟨o1, hi1, ho1⟩ := bind_inv hp
   clear hp
   refine SC.loop (fun n a w => ∃ (x_3 : Int) (x_4 : Int), iter (fun s => bonds_greatest_l1 F l_1 s.1 s.2) n (x_3, x_4) = some o1 ∧ A 18 1 fx [(3, vi .i64 x_3), (6, vs 0), (7, vi .i64 (len l_1)), (8, vi .i64 x_4)] [.rd 10 R_T_api_Bond l_1] a w) F (fun a w h => ⟨0, 0, hi1, h.at (js := [.g 0]) (by kernel_rfl)⟩) ?_
   rintro n1 a w ⟨x_3, x_4, hi1, h⟩
   obtain ⟨n1, q1, rfl, hp, hs1⟩ := iter_inv hi1
   replace hp : bonds_greatest_l1 F l_1 x_3 x_4 = some q1 := hp
   clear hi1
   refine h.go ?_
   refine SC.r tk [(3, vi .i64 x_3), (6, vs 0), (7, vi .i64 (len l_1)), (8, vi .i64 x_4), (9, vb (decide (x_4 < (len l_1))))] [] [] [] (by kernel_rfl) ?_
   refine SC.seq ?_
   refine SC.if' rfl hp (fun hp => ?_) (fun hp => ?_)
   · refine SC.skipThen ?_
     refine SC.seq ?_
     refine SC.block ?_
     refine SC.seq ?_
     refine SC.reg ?_
     obtain ⟨x_5, e_x_5, hp⟩ := bind_inv hp
     refine SL.pre (pre_ix (i := 0) (iv := x_4) (sz := 10) (R := R_T_api_Bond) (l := l_1) (by kernel_rfl) rfl e_x_5) ?_
     refine SL.sim tk 2 [(3, vi .i64 x_3), (6, vs 0), (7, vi .i64 (len l_1)), (8, vi .i64 x_4), (11, .g (C_api_Bond x_5 (.s 2)))] [] [.el 1] [x_4] (by kernel_rfl) ?_
     refine SL.eff (e_alloc (E := 30) tk (C_api_Bond (T_api_Bond.mk (T_api_Identity.mk (T_api_Address.mk 0 0) 0) 0 0 false 0 false [] 0) nl) (by kernel_rfl)) rfl (by kernel_rfl) ?_
     refine SL.sim tk 1 [(3, vi .i64 x_3), (5, vp 3 0), (6, vs 0), (7, vi .i64 (len l_1)), (8, vi .i64 x_4)] [(3, 30, (C_api_Bond x_5 (.s 2)))] [] [] (by kernel_rfl) ?_
     refine SL.nilThen ?_
     refine SC.reg ?_
     refine SL.sim tk 5 [(3, vi .i64 (imax x_3 x_5.Used)), (6, vs 0), (7, vi .i64 (len l_1)), (8, vi .i64 x_4)] [] [] [] (by kernel_rfl) ?_
     refine SL.nilThen ?_
     refine SC.reg ?_
     refine SL.sim tk 2 [(3, vi .i64 (imax x_3 x_5.Used)), (6, vs 0), (7, vi .i64 (len l_1)), (8, vi .i64 (w64 (x_4 + 1)))] [] [] [] (by kernel_rfl) ?_
     refine SL.nilJ fun a w h => ?_
     exact ⟨n1, Nat.lt_succ_self _, imax x_3 x_5.Used, w64 (x_4 + 1), next_inv hp hs1, h.at (js := [.g 0]) (by kernel_rfl)⟩
   · refine SC.exitJ rfl fun a w h => ?_
     have ho := done_inv hp hs1
     replace hp := ho1
     try rw [ho] at hp
     exact ⟨x_3, hp, h.at (js := [.g 0]) (by kernel_rfl)⟩
 · rintro a w ⟨x_2, hp, h⟩
   refine h.go ?_
   refine SC.r tk [(2, vi .i64 x_2)] [] [] [] (by kernel_rfl) ?_
   obtain rfl := some_inv' hp
   exact SC.re (js := [.g 0]) tk (by kernel_rfl)

theorem ok_bonds_ranked (F : Nat) (l_1 : (List T_api_Bond)) (r : (List T_api_Bond)) (hp : bonds_ranked F l_1 = some r) : Spec Tryd.prog 74 [vs 0] [.rd 10 R_T_api_Bond l_1] (vs 1) [.gone, .own 10 30 R_T_api_Bond r] := by
 refine Spec.enter Tryd.func74 rfl Tryd.ntmps74 rfl rfl fun fx => ?_
 refine SC.r tk [(0, vs 0)] [] [] [] (by kernel_rfl) ?_
 refine SC.seq ?_
 refine SC.reg ?_
 refine SL.sim tk 1 [(0, vs 0), (9, vs 0)] [] [] [] (by kernel_rfl) ?_
 obtain ⟨x_2, e_x_2, hp⟩ := bind_inv hp
 refine SL.eff (e_c Tryd.call50 (ok_bonds_clone F l_1 _ e_x_2) [.g 0] [vs 0] (vs 1) (by kernel_rfl) (.inl rfl)) rfl (by kernel_rfl) ?_
 refine SL.sim tk 1 [(0, vs 0), (3, vs 1)] [] [] [] (by kernel_rfl) ?_
 refine SL.nilThen ?_
 refine SC.cut (fun a w => ∃ (l_3 : (List T_api_Bond)), bonds_ranked_j1 F l_3 = some r ∧ A 52 1 fx [(3, vs 1)] [.gone, .own 10 30 R_T_api_Bond l_3] a w) ?_ ?_
 · refine SC.r tk [(0, vs 0), (3, vs 1), (11, vs 0), (12, vi .i64 (len l_1)), (13, vi .i64 0)] [] [] [] (by kernel_rfl) ?_
   refine SC.block ?_
   obtain ⟨o1, hi1, ho1⟩ := bind_inv hp
   clear hp
   refine SC.loop (fun n a w => ∃ (l_4 : (List T_api_Bond)) (x_5 : Int), iter (fun s => bonds_ranked_l1 F l_1 s.1 s.2) n (l_4, x_5) = some o1 ∧ A 52 1 fx [(0, vs 0), (3, vs 1), (11, vs 0), (12, vi .i64 (len l_1)), (13, vi .i64 x_5)] [.rd 10 R_T_api_Bond l_1, .own 10 30 R_T_api_Bond l_4] a w) F (fun a w h => ⟨x_2, 0, hi1, h.at (js := [.g 0, .g 1]) (by kernel_rfl)⟩) ?_
   rintro n1 a w ⟨l_4, x_5, hi1, h⟩
   obtain ⟨n1, q1, rfl, hp, hs1⟩ := iter_inv hi1
   replace hp : bonds_ranked_l1 F l_1 l_4 x_5 = some q1 := hp
   clear hi1
   refine h.go ?_
   refine SC.r tk [(0, vs 0), (3, vs 1), (11, vs 0), (12, vi .i64 (len l_1)), (13, vi .i64 x_5), (14, vb (decide (x_5 < (len l_1))))] [] [] [] (by kernel_rfl) ?_
   refine SC.seq ?_
   refine SC.if' rfl hp (fun hp => ?_) (fun hp => ?_)
   · refine SC.skipThen ?_
     refine SC.cut (fun a w => ∃ (l_6 : (List T_api_Bond)), bonds_ranked_j2 F x_5 l_6 = some q1 ∧ A 52 1 fx [(0, vs 0), (3, vs 1), (11, vs 0), (12, vi .i64 (len l_1)), (13, vi .i64 x_5)] [.rd 10 R_T_api_Bond l_1, .own 10 30 R_T_api_Bond l_6] a w) ?_ ?_
     · refine SC.block ?_
       refine SC.seq ?_
       refine SC.reg ?_
       obtain ⟨x_7, e_x_7, hp⟩ := bind_inv hp
       refine SL.pre (pre_ix (i := 0) (iv := x_5) (sz := 10) (R := R_T_api_Bond) (l := l_1) (by kernel_rfl) rfl e_x_7) ?_
       refine SL.sim tk 3 [(0, vs 0), (3, vs 1), (11, vs 0), (12, vi .i64 (len l_1)), (13, vi .i64 x_5), (15, vi .i64 x_5), (17, .g (C_api_Bond x_7 (.s 3)))] [] [.el 2] [x_5] (by kernel_rfl) ?_
       refine SL.eff (e_alloc (E := 30) tk (C_api_Bond (T_api_Bond.mk (T_api_Identity.mk (T_api_Address.mk 0 0) 0) 0 0 false 0 false [] 0) nl) (by kernel_rfl)) rfl (by kernel_rfl) ?_
       refine SL.sim tk 2 [(0, vs 0), (3, vs 1), (4, vi .i64 x_5), (5, vp 4 0), (11, vs 0), (12, vi .i64 (len l_1)), (13, vi .i64 x_5)] [(4, 30, (C_api_Bond x_7 (.s 3)))] [] [] (by kernel_rfl) ?_
       refine SL.nilThen ?_
       refine SC.r tk [(0, vs 0), (3, vs 1), (4, vi .i64 x_5), (5, vp 4 0), (6, vi .i64 0), (11, vs 0), (12, vi .i64 (len l_1)), (13, vi .i64 x_5)] [] [] [] (by kernel_rfl) ?_
       refine SC.cut (fun a w => ∃ (x_8 : Int), bonds_ranked_j3 F l_4 x_5 x_8 = some q1 ∧ A 52 1 fx [(0, vs 0), (3, vs 1), (4, vi .i64 x_5), (6, vi .i64 x_8), (11, vs 0), (12, vi .i64 (len l_1)), (13, vi .i64 x_5)] [.rd 10 R_T_api_Bond l_1, .own 10 30 R_T_api_Bond l_4] a w) ?_ ?_
       · refine SC.r tk [(0, vs 0), (3, vs 1), (4, vi .i64 x_5), (5, vp 4 0), (6, vi .i64 0), (11, vs 0), (12, vi .i64 (len l_1)), (13, vi .i64 x_5), (18, vs 0), (19, vi .i64 (len l_1)), (20, vi .i64 0)] [] [] [] (by kernel_rfl) ?_
         refine SC.block ?_
         obtain ⟨o2, hi2, ho2⟩ := bind_inv hp
         clear hp
         refine SC.loop (fun n a w => ∃ (x_11 : Int) (x_12 : Int), iter (fun s => bonds_ranked_l2 F l_1 x_5 x_7 s.1 s.2) n (x_11, x_12) = some o2 ∧ A 52 1 fx [(0, vs 0), (3, vs 1), (4, vi .i64 x_5), (5, vp 2 0), (6, vi .i64 x_11), (11, vs 0), (12, vi .i64 (len l_1)), (13, vi .i64 x_5), (18, vs 0), (19, vi .i64 (len l_1)), (20, vi .i64 x_12)] [.rd 10 R_T_api_Bond l_1, .own 10 30 R_T_api_Bond l_4, .blk 30 (C_api_Bond x_7 (.s 3)), .rd 2 R_T_api_Subscription x_7.Subs] a w) F (fun a w h => ⟨0, 0, hi2, h.at (js := [.g 0, .g 1, .g 4, .g 3]) (by kernel_rfl)⟩) ?_
         rintro n2 a w ⟨x_11, x_12, hi2, h⟩
         obtain ⟨n2, q2, rfl, hp, hs2⟩ := iter_inv hi2
         replace hp : bonds_ranked_l2 F l_1 x_5 x_7 x_11 x_12 = some q2 := hp
         clear hi2
         refine h.go ?_
         refine SC.r tk [(0, vs 0), (3, vs 1), (4, vi .i64 x_5), (5, vp 2 0), (6, vi .i64 x_11), (11, vs 0), (12, vi .i64 (len l_1)), (13, vi .i64 x_5), (18, vs 0), (19, vi .i64 (len l_1)), (20, vi .i64 x_12), (21, vb (decide (x_12 < (len l_1))))] [] [] [] (by kernel_rfl) ?_
         refine SC.seq ?_
         refine SC.if' rfl hp (fun hp => ?_) (fun hp => ?_)
         · refine SC.skipThen ?_
           refine SC.cut (fun a w => ∃ (x_13 : Int), bonds_ranked_j4 F x_12 x_13 = some q2 ∧ A 52 1 fx [(0, vs 0), (3, vs 1), (4, vi .i64 x_5), (5, vp 2 0), (6, vi .i64 x_13), (11, vs 0), (12, vi .i64 (len l_1)), (13, vi .i64 x_5), (18, vs 0), (19, vi .i64 (len l_1)), (20, vi .i64 x_12)] [.rd 10 R_T_api_Bond l_1, .own 10 30 R_T_api_Bond l_4, .blk 30 (C_api_Bond x_7 (.s 3)), .rd 2 R_T_api_Subscription x_7.Subs] a w) ?_ ?_
           · refine SC.block ?_
             refine SC.seq ?_
             refine SC.reg ?_
             obtain ⟨x_14, e_x_14, hp⟩ := bind_inv hp
             refine SL.pre (pre_ix (i := 0) (iv := x_12) (sz := 10) (R := R_T_api_Bond) (l := l_1) (by kernel_rfl) rfl e_x_14) ?_
             refine SL.sim tk 3 [(0, vs 0), (3, vs 1), (4, vi .i64 x_5), (5, vp 2 0), (6, vi .i64 x_11), (11, vs 0), (12, vi .i64 (len l_1)), (13, vi .i64 x_5), (18, vs 0), (19, vi .i64 (len l_1)), (20, vi .i64 x_12), (22, vi .i64 x_12), (24, .g (C_api_Bond x_14 (.s 5)))] [] [.el 4] [x_12] (by kernel_rfl) ?_
             refine SL.eff (e_alloc (E := 30) tk (C_api_Bond (T_api_Bond.mk (T_api_Identity.mk (T_api_Address.mk 0 0) 0) 0 0 false 0 false [] 0) nl) (by kernel_rfl)) rfl (by kernel_rfl) ?_
             refine SL.sim tk 2 [(0, vs 0), (3, vs 1), (4, vi .i64 x_5), (5, vp 2 0), (6, vi .i64 x_11), (7, vi .i64 x_12), (8, vp 6 0), (11, vs 0), (12, vi .i64 (len l_1)), (13, vi .i64 x_5), (18, vs 0), (19, vi .i64 (len l_1)), (20, vi .i64 x_12)] [(6, 30, (C_api_Bond x_14 (.s 5)))] [] [] (by kernel_rfl) ?_
             refine SL.nilThen ?_
             refine SC.r tk [(0, vs 0), (3, vs 1), (4, vi .i64 x_5), (5, vp 2 0), (6, vi .i64 x_11), (11, vs 0), (12, vi .i64 (len l_1)), (13, vi .i64 x_5), (18, vs 0), (19, vi .i64 (len l_1)), (20, vi .i64 x_12), (41, vb ((decide (x_14.Used < x_7.Used)) || ((x_14.Used == x_7.Used) && (decide (x_12 < x_5)))))] [] [] [] (by kernel_rfl) ?_
             refine SC.if' rfl hp (fun hp => ?_) (fun hp => ?_)
             · refine SC.reg ?_
               refine SL.sim tk 3 [(0, vs 0), (3, vs 1), (4, vi .i64 x_5), (5, vp 2 0), (6, vi .i64 (w64 (x_11 + 1))), (11, vs 0), (12, vi .i64 (len l_1)), (13, vi .i64 x_5), (18, vs 0), (19, vi .i64 (len l_1)), (20, vi .i64 x_12)] [] [] [] (by kernel_rfl) ?_
               refine SL.nilJ fun a w h => ?_
               exact ⟨w64 (x_11 + 1), hp, h.at (js := [.g 0, .g 1, .g 2, .g 3]) (by kernel_rfl)⟩
             · refine SC.skipJ fun a w h => ?_
               exact ⟨x_11, hp, h.at (js := [.g 0, .g 1, .g 2, .g 3]) (by kernel_rfl)⟩
           · rintro a w ⟨x_13, hp, h⟩
             refine h.go ?_
             refine SC.reg ?_
             refine SL.sim tk 2 [(0, vs 0), (3, vs 1), (4, vi .i64 x_5), (5, vp 2 0), (6, vi .i64 x_13), (11, vs 0), (12, vi .i64 (len l_1)), (13, vi .i64 x_5), (18, vs 0), (19, vi .i64 (len l_1)), (20, vi .i64 (w64 (x_12 + 1)))] [] [] [] (by kernel_rfl) ?_
             refine SL.nilJ fun a w h => ?_
             exact ⟨n2, Nat.lt_succ_self _, x_13, w64 (x_12 + 1), next_inv hp hs2, h.at (js := [.g 0, .g 1, .g 2, .g 3]) (by kernel_rfl)⟩
         · refine SC.exitJ rfl fun a w h => ?_
           have ho := done_inv hp hs2
           replace hp := ho2
           try rw [ho] at hp
           exact ⟨x_11, hp, h.at (js := [.g 0, .g 1]) (by kernel_rfl)⟩
       · rintro a w ⟨x_8, hp, h⟩
         refine h.go ?_
         refine SC.reg ?_
         obtain ⟨x_9, e_x_9, hp⟩ := bind_inv hp
         refine SL.pre (pre_ixo (i := 1) (iv := x_5) (sz := 10) (E := 30) (R := R_T_api_Bond) (l := l_4) (by kernel_rfl) rfl e_x_9) ?_
         refine SL.sim tk 5 [(0, vs 0), (3, vs 1), (11, vs 0), (12, vi .i64 (len l_1)), (13, vi .i64 x_5), (47, vi .i64 x_8), (49, vp 2 9)] [] [.el 2] [x_5] (by kernel_rfl) ?_
         obtain ⟨l_10, e_l_10, hp⟩ := bind_inv hp
         refine SL.eff0 (e_updf (sz := 10) (R := R_T_api_Bond) (i := 1) (iv := x_5) (cs1 := (C_api_Bond ({ x_9 with Used := x_8 }) (.s 3))) (e := { x_9 with Used := x_8 }) tk rfl rfl rfl (by kernel_rfl) rfl rfl rfl (clo_T_api_Bond (x := { x_9 with Used := x_8 }) (Clo.sl (by kernel_rfl))) (by kernel_rfl) (by kernel_rfl) e_l_10) ?_
         refine SL.nilJ fun a w h => ?_
         exact ⟨l_10, hp, h.at (js := [.g 0, .g 1]) (by kernel_rfl)⟩
     · rintro a w ⟨l_6, hp, h⟩
       refine h.go ?_
       refine SC.reg ?_
       refine SL.sim tk 2 [(0, vs 0), (3, vs 1), (11, vs 0), (12, vi .i64 (len l_1)), (13, vi .i64 (w64 (x_5 + 1)))] [] [] [] (by kernel_rfl) ?_
       refine SL.nilJ fun a w h => ?_
       exact ⟨n1, Nat.lt_succ_self _, l_6, w64 (x_5 + 1), next_inv hp hs1, h.at (js := [.g 0, .g 1]) (by kernel_rfl)⟩
   · refine SC.exitJ rfl fun a w h => ?_
     have ho := done_inv hp hs1
     replace hp := ho1
     try rw [ho] at hp
     exact ⟨l_4, hp, h.at (js := [.g 0, .g 1]) (by kernel_rfl)⟩
 · rintro a w ⟨l_3, hp, h⟩
   refine h.go ?_
   refine SC.r tk [(2, vs 1)] [] [] [] (by kernel_rfl) ?_
   obtain rfl := some_inv' hp
   exact SC.re (js := [.g 0, .g 1]) tk (by kernel_rfl)

theorem ok_bonds_next (F : Nat) (l_1 : (List T_api_Bond)) (r : (List T_api_Bond) × Int) (hp : bonds_next F l_1 = some r) : Spec Tryd.prog 51 [vs 0] [.rd 10 R_T_api_Bond l_1] (.u [.inl (.s 1), .inl (ci .i64 r.2)]) [.gone, .own 10 30 R_T_api_Bond r.1] := by
 refine Spec.enter Tryd.func51 rfl Tryd.ntmps51 rfl rfl fun fx => ?_
 refine SC.r tk [(0, vs 0)] [] [] [] (by kernel_rfl) ?_
 refine SC.seq ?_
 refine SC.reg ?_
 refine SL.sim tk 1 [(5, vs 0)] [] [] [] (by kernel_rfl) ?_
 obtain ⟨x_2, e_x_2, hp⟩ := bind_inv hp
 refine SL.eff (e_c Tryd.call50 (ok_bonds_clone F l_1 _ e_x_2) [.g 0] [vs 0] (vs 1) (by kernel_rfl) (.inl rfl)) rfl (by kernel_rfl) ?_
 refine SL.sim tk 1 [(4, vs 1)] [] [] [] (by kernel_rfl) ?_
 refine SL.nilThen ?_
 refine SC.cut (fun a w => ∃ (l_3 : (List T_api_Bond)), bonds_next_j1 F l_3 = some r ∧ A 16 1 fx [(4, vs 1)] [.gone, .own 10 30 R_T_api_Bond l_3] a w) ?_ ?_
 · refine SC.seq ?_
   refine SC.reg ?_
   refine SL.sim tk 1 [(4, vs 1), (7, vs 1)] [] [] [] (by kernel_rfl) ?_
   obtain ⟨x_5, e_x_5, hp⟩ := bind_inv hp
   refine SL.eff (e_c Tryd.call73 (ok_bonds_greatest F x_2 _ e_x_5) [.l 1] [vs 1] (vi .i64 x_5) (by kernel_rfl) (.inr ⟨trivial, trivial⟩)) rfl (by kernel_rfl) ?_
   refine SL.norm (itsN := [.rd 10 R_T_api_Bond l_1, .own 10 30 R_T_api_Bond x_2]) (by kernel_rfl) ?_
   refine SL.sim tk 1 [(4, vs 1), (9, vb (decide (x_5 ≥ 4294967295)))] [] [] [] (by kernel_rfl) ?_
   refine SL.nilThen ?_
   refine SC.if' rfl hp (fun hp => ?_) (fun hp => ?_)
   · refine SC.reg ?_
     refine SL.sim tk 1 [(4, vs 1), (10, vs 1)] [] [] [] (by kernel_rfl) ?_
     obtain ⟨x_6, e_x_6, hp⟩ := bind_inv hp
     refine SL.pre (pre_frz (i := 1) (sz := 10) (E := 30) (R := R_T_api_Bond) (l := x_2) (by kernel_rfl)) ?_
     refine SL.eff (e_c Tryd.call74 (ok_bonds_ranked F x_2 _ e_x_6) [.g 1] [vs 1] (vs 2) (by kernel_rfl) (.inl rfl)) rfl (by kernel_rfl) ?_
     refine SL.sim tk 1 [(4, vs 2)] [] [] [] (by kernel_rfl) ?_
     refine SL.nilJ fun a w h => ?_
     exact ⟨x_6, hp, h.at (js := [.g 0, .g 2]) (by kernel_rfl)⟩
   · refine SC.skipJ fun a w h => ?_
     exact ⟨x_2, hp, h.at (js := [.g 0, .g 1]) (by kernel_rfl)⟩
 · rintro a w ⟨l_3, hp, h⟩
   refine h.go ?_
   refine SC.seq ?_
   refine SC.reg ?_
   refine SL.sim tk 2 [(12, vs 1), (13, vs 1)] [] [] [] (by kernel_rfl) ?_
   obtain ⟨x_4, e_x_4, hp⟩ := bind_inv hp
   refine SL.eff (e_c Tryd.call73 (ok_bonds_greatest F l_3 _ e_x_4) [.l 1] [vs 1] (vi .i64 x_4) (by kernel_rfl) (.inr ⟨trivial, trivial⟩)) rfl (by kernel_rfl) ?_
   refine SL.sim tk 3 [(2, vs 1), (3, vi .i64 (w64 (x_4 + 1)))] [] [] [] (by kernel_rfl) ?_
   refine SL.nilThen ?_
   obtain rfl := some_inv' hp
   exact SC.re (js := [.g 0, .g 1]) tk (by kernel_rfl)

theorem ok_bonds_Add_1 (F : Nat) (x_1 : T_api_Bond) (p_2 : T_api_Bond) (r : Bool) (hp : bonds_Add_1 F x_1 p_2 = some r) : Spec Tryd.prog 54 [.g (C_api_Bond x_1 (.s 0)), vp 1 0] [.rd 2 R_T_api_Subscription x_1.Subs, .blk 30 (C_api_Bond p_2 (.s 2)), .rd 2 R_T_api_Subscription p_2.Subs] (vb r) [.gone, .blk 30 (C_api_Bond p_2 (.s 2)), .rd 2 R_T_api_Subscription p_2.Subs] := by
 refine Spec.enter Tryd.func54 rfl Tryd.ntmps54 rfl rfl fun fx => ?_
 refine SC.seq ?_
 refine SC.reg ?_
 refine SL.eff (e_box (E := 30) (C_api_Bond x_1 (.s 0)) (by kernel_rfl)) rfl (by kernel_rfl) ?_
 refine SL.sim tk 1 [(1, vp 1 0), (2, vp 3 0)] [] [] [] (by kernel_rfl) ?_
 refine SL.nilThen ?_
 refine SC.seq ?_
 refine SC.reg ?_
 refine SL.sim tk 6 [(6, .g (C_api_Address x_1.Peer.Address)), (9, .g (C_api_Address p_2.Peer.Address))] [] [] [] (by kernel_rfl) ?_
 refine SL.eff (e_eqs tk (cs := (C_api_Address x_1.Peer.Address)) (ds := (C_api_Address p_2.Peer.Address)) [(x_1.Peer.Address.Kind == p_2.Peer.Address.Kind), (x_1.Peer.Address.Bits == p_2.Peer.Address.Bits)] ((x_1.Peer.Address.Kind == p_2.Peer.Address.Kind) && (x_1.Peer.Address.Bits == p_2.Peer.Address.Bits)) rfl rfl (by kernel_rfl) (by kernel_rfl) (by kernel_rfl) (.inl ⟨rfl, (by kernel_rfl)⟩)) rfl (by kernel_rfl) ?_
 refine SL.sim tk 1 [(3, vb ((x_1.Peer.Address.Kind == p_2.Peer.Address.Kind) && (x_1.Peer.Address.Bits == p_2.Peer.Address.Bits)))] [] [] [] (by kernel_rfl) ?_
 refine SL.nilThen ?_
 obtain rfl := some_inv' hp
 exact SC.re (js := [.g 0, .g 1, .g 2]) tk (by kernel_rfl)

theorem ok_bonds_index_api_Bond_at54 (F : Nat) (l_1 : (List T_api_Bond)) (c_2 : T_api_Bond) (r : Int) (hp : bonds_index_api_Bond_at54 F l_1 c_2 = some r) : Spec Tryd.prog 53 [vs 0, .f 54 [.p 1 0]] [.rd 10 R_T_api_Bond l_1, .blk 30 (C_api_Bond c_2 (.s 2)), .rd 2 R_T_api_Subscription c_2.Subs] (vi .i64 r) [.gone, .blk 30 (C_api_Bond c_2 (.s 2)), .rd 2 R_T_api_Subscription c_2.Subs] := by
 refine Spec.enter Tryd.func53 rfl Tryd.ntmps53 rfl rfl fun fx => ?_
 refine SC.r tk [(0, vs 0), (1, .f 54 [.p 1 0])] [] [] [] (by kernel_rfl) ?_
 refine SC.cut (fun a w => bonds_index_api_Bond_at54_j1 F = some r ∧ A 19 3 fx [] [.gone, .blk 30 (C_api_Bond c_2 (.s 2)), .rd 2 R_T_api_Subscription c_2.Subs] a w) ?_ ?_
 · refine SC.r tk [(1, .f 54 [.p 1 0]), (7, vs 0), (8, vi .i64 (len l_1)), (9, vi .i64 0)] [] [] [] (by kernel_rfl) ?_
   refine SC.block ?_
   obtain ⟨o1, hi1, ho1⟩ := bind_inv hp
   clear hp
   refine SC.loop (fun n a w => ∃ (x_3 : Int), iter (fun s => bonds_index_api_Bond_at54_l1 F l_1 c_2 s) n (x_3) = some o1 ∧ A 19 3 fx [(1, .f 54 [.p 1 0]), (7, vs 0), (8, vi .i64 (len l_1)), (9, vi .i64 x_3)] [.rd 10 R_T_api_Bond l_1, .blk 30 (C_api_Bond c_2 (.s 2)), .rd 2 R_T_api_Subscription c_2.Subs] a w) F (fun a w h => ⟨0, hi1, h.at (js := [.g 0, .g 1, .g 2]) (by kernel_rfl)⟩) ?_
   rintro n1 a w ⟨x_3, hi1, h⟩
   obtain ⟨n1, q1, rfl, hp, hs1⟩ := iter_inv hi1
   replace hp : bonds_index_api_Bond_at54_l1 F l_1 c_2 x_3 = some q1 := hp
   clear hi1
   refine h.go ?_
   refine SC.r tk [(1, .f 54 [.p 1 0]), (7, vs 0), (8, vi .i64 (len l_1)), (9, vi .i64 x_3), (10, vb (decide (x_3 < (len l_1))))] [] [] [] (by kernel_rfl) ?_
   refine SC.seq ?_
   refine SC.if' rfl hp (fun hp => ?_) (fun hp => ?_)
   · refine SC.skipThen ?_
     refine SC.seq ?_
     refine SC.block ?_
     refine SC.seq ?_
     refine SC.reg ?_
     obtain ⟨x_4, e_x_4, hp⟩ := bind_inv hp
     refine SL.pre (pre_ix (i := 0) (iv := x_3) (sz := 10) (R := R_T_api_Bond) (l := l_1) (by kernel_rfl) rfl e_x_4) ?_
     refine SL.sim tk 3 [(1, .f 54 [.p 1 0]), (7, vs 0), (8, vi .i64 (len l_1)), (9, vi .i64 x_3), (11, vi .i64 x_3), (13, .g (C_api_Bond x_4 (.s 4)))] [] [.el 3] [x_3] (by kernel_rfl) ?_
     refine SL.eff (e_alloc (E := 30) tk (C_api_Bond (T_api_Bond.mk (T_api_Identity.mk (T_api_Address.mk 0 0) 0) 0 0 false 0 false [] 0) nl) (by kernel_rfl)) rfl (by kernel_rfl) ?_
     refine SL.sim tk 2 [(1, .f 54 [.p 1 0]), (5, vi .i64 x_3), (6, vp 5 0), (7, vs 0), (8, vi .i64 (len l_1)), (9, vi .i64 x_3)] [(5, 30, (C_api_Bond x_4 (.s 4)))] [] [] (by kernel_rfl) ?_
     refine SL.nilThen ?_
     refine SC.seq ?_
     refine SC.reg ?_
     refine SL.sim tk 2 [(1, .f 54 [.p 1 0]), (5, vi .i64 x_3), (7, vs 0), (8, vi .i64 (len l_1)), (9, vi .i64 x_3), (14, .f 54 [.p 1 0]), (15, .g (C_api_Bond x_4 (.s 4)))] [] [] [] (by kernel_rfl) ?_
     obtain ⟨x_5, e_x_5, hp⟩ := bind_inv hp
     refine SL.eff (e_c Tryd.call54 (ok_bonds_Add_1 F x_4 c_2 _ e_x_5) [.g 4, .g 1, .g 2] [.g (C_api_Bond x_4 (.s 4)), vp 1 0] (vb x_5) (by kernel_rfl) (.inl rfl)) rfl (by kernel_rfl) ?_
     refine SL.norm (itsN := [.rd 10 R_T_api_Bond l_1, .blk 30 (C_api_Bond c_2 (.s 2)), .rd 2 R_T_api_Subscription c_2.Subs, .elt (some (0, x_3)) false (C_api_Bond x_4 (.s 4)), .rd 2 R_T_api_Subscription x_4.Subs, .blk 30 (C_api_Bond x_4 (.s 4))]) (by kernel_rfl) ?_
     refine SL.nilThen ?_
     refine SC.if' rfl hp (fun hp => ?_) (fun hp => ?_)
     · refine SC.r tk [(4, vi .i64 x_3)] [] [] [] (by kernel_rfl) ?_
       have ho := done_inv hp hs1
       replace hp := ho1
       try rw [ho] at hp
       obtain rfl := some_inv' hp
       exact SC.re (js := [.g 0, .g 1, .g 2]) tk (by kernel_rfl)
     · refine SC.skipThen ?_
       refine SC.reg ?_
       refine SL.sim tk 2 [(1, .f 54 [.p 1 0]), (7, vs 0), (8, vi .i64 (len l_1)), (9, vi .i64 (w64 (x_3 + 1)))] [] [] [] (by kernel_rfl) ?_
       refine SL.nilJ fun a w h => ?_
       exact ⟨n1, Nat.lt_succ_self _, w64 (x_3 + 1), next_inv hp hs1, h.at (js := [.g 0, .g 1, .g 2]) (by kernel_rfl)⟩
   · refine SC.exitJ rfl fun a w h => ?_
     have ho := done_inv hp hs1
     replace hp := ho1
     try rw [ho] at hp
     exact ⟨hp, h.at (js := [.g 0, .g 1, .g 2]) (by kernel_rfl)⟩
 · rintro a w ⟨hp, h⟩
   refine h.go ?_
   refine SC.r tk [(4, vi .i64 (-1))] [] [] [] (by kernel_rfl) ?_
   obtain rfl := some_inv' hp
   exact SC.re (js := [.g 0, .g 1, .g 2]) tk (by kernel_rfl)

theorem ok_bonds_Add (F : Nat) (l_1 : (List T_api_Bond)) (b_2 : T_api_Bond) (r : (List T_api_Bond) × Int × Int) (hp : bonds_Add F l_1 b_2 = some r) : Spec Tryd.prog 18 [vs 0, .g (C_api_Bond b_2 (.s 1))] [.rd 10 R_T_api_Bond l_1, .rd 2 R_T_api_Subscription b_2.Subs] (.u [.inl (.s 2), .inl (ci .i64 r.2.1), .inl (ci .i64 r.2.2)]) [.gone, .gone, .rd 10 R_T_api_Bond r.1] := by
 refine Spec.enter Tryd.func18 rfl Tryd.ntmps18 rfl rfl fun fx => ?_
 refine SC.seq ?_
 refine SC.reg ?_
 refine SL.eff (e_box (E := 30) (C_api_Bond b_2 (.s 1)) (by kernel_rfl)) rfl (by kernel_rfl) ?_
 refine SL.sim tk 3 [(0, vs 0), (3, vp 2 0)] [] [] [] (by kernel_rfl) ?_
 refine SL.nilThen ?_
 refine SC.seq ?_
 refine SC.r tk [(0, vs 0), (3, vp 2 0), (15, vb (decide ((len l_1) > 16)))] [] [] [] (by kernel_rfl) ?_
 refine SC.if' rfl hp (fun hp => ?_) (fun hp => ?_)
 · refine SC.seq ?_
   refine SC.reg ?_
   refine SL.sim tk 1 [(16, vs 0)] [] [] [] (by kernel_rfl) ?_
   obtain ⟨x_3, e_x_3, hp⟩ := bind_inv hp
   refine SL.eff (e_c Tryd.call50 (ok_bonds_clone F l_1 _ e_x_3) [.g 0] [vs 0] (vs 3) (by kernel_rfl) (.inl rfl)) rfl (by kernel_rfl) ?_
   refine SL.sim tk 3 [(4, vs 3), (5, vi .i64 0), (6, vi .i64 4)] [] [] [] (by kernel_rfl) ?_
   refine SL.nilThen ?_
   obtain rfl := some_inv' hp
   exact SC.re (js := [.g 0, .g 1, .z 3]) tk (by kernel_rfl)
 · refine SC.skipThen ?_
   refine SC.seq ?_
   refine SC.seq ?_
   refine SC.reg ?_
   refine SL.sim tk 1 [(0, vs 0), (3, vp 2 0), (18, .g (C_api_Bond b_2 (.s 1)))] [] [] [] (by kernel_rfl) ?_
   obtain ⟨x_4, e_x_4, hp⟩ := bind_inv hp
   refine SL.eff (e_c Tryd.call14 (ok_bonds_Check F b_2 _ e_x_4) [.g 1] [.g (C_api_Bond b_2 (.s 1))] (vi .i64 x_4) (by kernel_rfl) (.inl rfl)) rfl (by kernel_rfl) ?_
   refine SL.sim tk 1 [(0, vs 0), (3, vp 2 0), (7, vi .i64 x_4)] [] [] [] (by kernel_rfl) ?_
   refine SL.nilThen ?_
   refine SC.r tk [(0, vs 0), (3, vp 2 0), (7, vi .i64 x_4), (21, vb (x_4 != 0))] [] [] [] (by kernel_rfl) ?_
   refine SC.if' rfl hp (fun hp => ?_) (fun hp => ?_)
   · refine SC.seq ?_
     refine SC.reg ?_
     refine SL.sim tk 1 [(7, vi .i64 x_4), (22, vs 0)] [] [] [] (by kernel_rfl) ?_
     obtain ⟨x_5, e_x_5, hp⟩ := bind_inv hp
     refine SL.eff (e_c Tryd.call50 (ok_bonds_clone F l_1 _ e_x_5) [.g 0] [vs 0] (vs 3) (by kernel_rfl) (.inl rfl)) rfl (by kernel_rfl) ?_
     refine SL.norm (itsN := [.rd 10 R_T_api_Bond l_1, .rd 2 R_T_api_Subscription b_2.Subs, .blk 30 (C_api_Bond b_2 (.s 1)), .own 10 30 R_T_api_Bond x_5]) (by kernel_rfl) ?_
     refine SL.sim tk 4 [(4, vs 3), (5, vi .i64 0), (6, vi .i64 x_4)] [] [] [] (by kernel_rfl) ?_
     refine SL.nilThen ?_
     obtain rfl := some_inv' hp
     exact SC.re (js := [.g 0, .g 1, .z 3]) tk (by kernel_rfl)
   · refine SC.skipThen ?_
     refine SC.seq ?_
     refine SC.reg ?_
     refine SL.sim tk 1 [(3, vp 2 0), (26, vs 0)] [] [] [] (by kernel_rfl) ?_
     obtain ⟨x_6, e_x_6, hp⟩ := bind_inv hp
     refine SL.eff (e_c Tryd.call51 (ok_bonds_next F l_1 _ e_x_6) [.g 0] [vs 0] (.u [.inl (.s 3), .inl (ci .i64 x_6.2)]) (by kernel_rfl) (.inl rfl)) rfl (by kernel_rfl) ?_
     refine SL.norm (itsN := [.rd 10 R_T_api_Bond l_1, .rd 2 R_T_api_Subscription b_2.Subs, .blk 30 (C_api_Bond b_2 (.s 1)), .own 10 30 R_T_api_Bond x_6.1]) (by kernel_rfl) ?_
     refine SL.sim tk 5 [(3, vp 2 0), (8, vs 3), (9, vi .i64 x_6.2)] [] [] [] (by kernel_rfl) ?_
     refine SL.nilThen ?_
     refine SC.seq ?_
     refine SC.reg ?_
     refine SL.sim tk 1 [(3, vp 2 0), (8, vs 3), (9, vi .i64 x_6.2), (30, .g (C_api_Bond b_2 (.s 1)))] [] [] [] (by kernel_rfl) ?_
     obtain ⟨x_7, e_x_7, hp⟩ := bind_inv hp
     refine SL.eff (e_c Tryd.call52 (ok_bonds_own F b_2 _ e_x_7) [.g 1] [.g (C_api_Bond b_2 (.s 1))] (.g (C_api_Bond x_7 (.s 4))) (by kernel_rfl) (.inl rfl)) rfl (by kernel_rfl) ?_
     refine SL.sim tk 1 [(3, vp 2 0), (8, vs 3), (9, vi .i64 x_6.2)] [(2, 30, (C_api_Bond x_7 (.s 4)))] [] [] (by kernel_rfl) ?_
     refine SL.nilThen ?_
     refine SC.r tk [(3, vp 2 0), (8, vs 3)] [(2, 30, (C_api_Bond ({ x_7 with Used := x_6.2 }) (.s 4)))] [] [] (by kernel_rfl) ?_
     refine SC.seq ?_
     refine SC.reg ?_
     refine SL.sim tk 2 [(3, vp 2 0), (8, vs 3), (34, vs 3), (35, .f 54 [.p 2 0])] [] [] [] (by kernel_rfl) ?_
     obtain ⟨x_8, e_x_8, hp⟩ := bind_inv hp
     refine SL.eff (e_c Tryd.call53 (ok_bonds_index_api_Bond_at54 F x_6.1 ({ x_7 with Used := x_6.2 }) _ e_x_8) [.l 3, .g 2, .g 4] [vs 3, .f 54 [.p 2 0]] (vi .i64 x_8) (by kernel_rfl) (.inr ⟨trivial, trivial, trivial, trivial⟩)) rfl (by kernel_rfl) ?_
     refine SL.norm (itsN := [.rd 10 R_T_api_Bond l_1, .rd 2 R_T_api_Subscription b_2.Subs, .blk 30 (C_api_Bond ({ x_7 with Used := x_6.2 }) (.s 4)), .own 10 30 R_T_api_Bond x_6.1, .rd 2 R_T_api_Subscription x_7.Subs]) (by kernel_rfl) ?_
     refine SL.sim tk 1 [(3, vp 2 0), (8, vs 3), (10, vi .i64 x_8)] [] [] [] (by kernel_rfl) ?_
     refine SL.nilThen ?_
     refine SC.seq ?_
     refine SC.r tk [(3, vp 2 0), (8, vs 3), (10, vi .i64 x_8), (43, vb ((decide (x_8 < 0)) && (decide ((len x_6.1) < 16))))] [] [] [] (by kernel_rfl) ?_
     refine SC.if' rfl hp (fun hp => ?_) (fun hp => ?_)
     · refine SC.seq ?_
       refine SC.reg ?_
       refine SL.sim tk 2 [(8, vs 3), (44, vs 3), (45, .g (C_api_Bond ({ x_7 with Used := x_6.2 }) (.s 4)))] [] [] [] (by kernel_rfl) ?_
       refine SL.eff (e_lit (sz := 10) (E := 30) (R := R_T_api_Bond) (by_ := 96) tk [(C_api_Bond ({ x_7 with Used := x_6.2 }) (.s 4))] [{ x_7 with Used := x_6.2 }] (by kernel_rfl) ⟨(clo_T_api_Bond (x := { x_7 with Used := x_6.2 }) (Clo.sl (by kernel_rfl))), trivial⟩ rfl (by kernel_rfl) (by kernel_rfl)) rfl (by kernel_rfl) ?_
       obtain ⟨l_9, e_l_9, hp⟩ := bind_inv hp
       refine SL.eff (e_appk (i := 3) (l := x_6.1) (sz := 10) (E := 30) (R := R_T_api_Bond) (by_ := 96) (m := [{ x_7 with Used := x_6.2 }]) tk rfl (by kernel_rfl) rfl (.o 30 (by kernel_rfl)) e_l_9 (by kernel_rfl)) rfl (by kernel_rfl) ?_
       refine SL.sim tk 5 [(4, vs 6), (5, vi .i64 (len (lens x_6.1))), (6, vi .i64 0)] [] [] [] (by kernel_rfl) ?_
       refine SL.nilThen ?_
       obtain rfl := some_inv' hp
       exact SC.re (js := [.g 0, .g 1, .z 6]) tk (by kernel_rfl)
     · refine SC.skipThen ?_
       refine SC.cut (fun a w => ∃ (x_10 : Int), bonds_Add_j1 F x_6 x_7 x_10 = some r ∧ A 75 2 fx [(3, vp 2 0), (8, vs 4), (10, vi .i64 x_10)] [.gone, .gone, .blk 30 (C_api_Bond ({ x_7 with Used := x_6.2 }) (.s 3)), .rd 2 R_T_api_Subscription x_7.Subs, .own 10 30 R_T_api_Bond x_6.1] a w) ?_ ?_
       · refine SC.r tk [(3, vp 2 0), (8, vs 3), (10, vi .i64 x_8), (51, vb (decide (x_8 < 0)))] [] [] [] (by kernel_rfl) ?_
         refine SC.if' rfl hp (fun hp => ?_) (fun hp => ?_)
         · refine SC.r tk [(3, vp 2 0), (8, vs 3), (10, vi .i64 0)] [] [] [] (by kernel_rfl) ?_
           refine SC.r tk [(3, vp 2 0), (8, vs 3), (10, vi .i64 0), (52, vs 3), (53, vi .i64 (len x_6.1)), (54, vi .i64 0)] [] [] [] (by kernel_rfl) ?_
           refine SC.block ?_
           obtain ⟨o1, hi1, ho1⟩ := bind_inv hp
           clear hp
           refine SC.loop (fun n a w => ∃ (x_13 : Int) (x_14 : Int), iter (fun s => bonds_Add_l1 F x_6 s.1 s.2) n (x_13, x_14) = some o1 ∧ A 75 2 fx [(3, vp 2 0), (8, vs 4), (10, vi .i64 x_13), (52, vs 4), (53, vi .i64 (len x_6.1)), (54, vi .i64 x_14)] [.gone, .gone, .blk 30 (C_api_Bond ({ x_7 with Used := x_6.2 }) (.s 3)), .rd 2 R_T_api_Subscription x_7.Subs, .own 10 30 R_T_api_Bond x_6.1] a w) F (fun a w h => ⟨0, 0, hi1, h.at (js := [.g 0, .g 1, .g 2, .g 4, .g 3]) (by kernel_rfl)⟩) ?_
           rintro n1 a w ⟨x_13, x_14, hi1, h⟩
           obtain ⟨n1, q1, rfl, hp, hs1⟩ := iter_inv hi1
           replace hp : bonds_Add_l1 F x_6 x_13 x_14 = some q1 := hp
           clear hi1
           refine h.go ?_
           refine SC.r tk [(3, vp 2 0), (8, vs 4), (10, vi .i64 x_13), (52, vs 4), (53, vi .i64 (len x_6.1)), (54, vi .i64 x_14), (55, vb (decide (x_14 < (len x_6.1))))] [] [] [] (by kernel_rfl) ?_
           refine SC.seq ?_
           refine SC.if' rfl hp (fun hp => ?_) (fun hp => ?_)
           · refine SC.skipThen ?_
             refine SC.cut (fun a w => ∃ (x_15 : Int), bonds_Add_j2 F x_14 x_15 = some q1 ∧ A 75 2 fx [(3, vp 2 0), (8, vs 4), (10, vi .i64 x_15), (52, vs 4), (53, vi .i64 (len x_6.1)), (54, vi .i64 x_14)] [.gone, .gone, .blk 30 (C_api_Bond ({ x_7 with Used := x_6.2 }) (.s 3)), .rd 2 R_T_api_Subscription x_7.Subs, .own 10 30 R_T_api_Bond x_6.1] a w) ?_ ?_
             · refine SC.block ?_
               refine SC.seq ?_
               refine SC.reg ?_
               obtain ⟨x_16, e_x_16, hp⟩ := bind_inv hp
               refine SL.pre (pre_ixo (i := 4) (iv := x_14) (sz := 10) (E := 30) (R := R_T_api_Bond) (l := x_6.1) (by kernel_rfl) rfl e_x_16) ?_
               refine SL.sim tk 3 [(3, vp 2 0), (8, vs 4), (10, vi .i64 x_13), (52, vs 4), (53, vi .i64 (len x_6.1)), (54, vi .i64 x_14), (56, vi .i64 x_14), (58, .g (C_api_Bond x_16 (.s 6)))] [] [.el 5] [x_14] (by kernel_rfl) ?_
               refine SL.pre (pre_kill) ?_
               refine SL.eff (e_alloc (E := 30) tk (C_api_Bond (T_api_Bond.mk (T_api_Identity.mk (T_api_Address.mk 0 0) 0) 0 0 false 0 false [] 0) nl) (by kernel_rfl)) rfl (by kernel_rfl) ?_
               refine SL.sim tk 2 [(3, vp 2 0), (8, vs 4), (10, vi .i64 x_13), (11, vi .i64 x_14), (12, vp 7 0), (52, vs 4), (53, vi .i64 (len x_6.1)), (54, vi .i64 x_14)] [(7, 30, (C_api_Bond x_16 (.s 6)))] [] [] (by kernel_rfl) ?_
               refine SL.nilThen ?_
               refine SC.cut (fun a w => ∃ (z_17 : Bool), bonds_Add_j3 F x_13 x_14 z_17 = some q1 ∧ A 75 2 fx [(3, vp 2 0), (8, vs 4), (10, vi .i64 x_13), (11, vi .i64 x_14), (52, vs 4), (53, vi .i64 (len x_6.1)), (54, vi .i64 x_14), (66, vb z_17)] [.gone, .gone, .blk 30 (C_api_Bond ({ x_7 with Used := x_6.2 }) (.s 3)), .rd 2 R_T_api_Subscription x_7.Subs, .own 10 30 R_T_api_Bond x_6.1] a w) ?_ ?_
               · refine SC.draw MO [O, O, I, I, I, O, I, I] (by kernel_rfl) fun kap_18 D_19 => ?_
                 refine SD.takes tk D_19 [] kn0 [0, 1, 2, 3] [] [] [I, I, I, I, O, O, O, O] [(3, vp 2 0), (8, vs 4), (10, vi .i64 x_13), (11, vi .i64 x_14), (52, vs 4), (53, vi .i64 (len x_6.1)), (54, vi .i64 x_14), (60, vi .i64 x_16.Used), (61, vs 4), (62, vi .i64 x_13)] rfl (by kernel_rfl) (by kernel_rfl) (by kernel_rfl) ?_
                 obtain ⟨x_20, e_x_20, hp⟩ := bind_inv hp
                 refine SD.pre (pre_ixo (i := 4) (iv := x_13) (sz := 10) (E := 30) (R := R_T_api_Bond) (l := x_6.1) (by kernel_rfl) rfl e_x_20) ?_
                 refine SD.all1 (i := 4) (by kernel_rfl) ?_
                 refine SW.eff D_19 (i := 4) (v := vp 8 0) (bs' := [I, I, I, I, I, O, O, O]) rfl (.inl rfl) rfl (e_valE tk (.el 8) [x_13] (by kernel_rfl)) (by kernel_rfl) rfl (by kernel_rfl) ?_
                 refine SD.norm (itsN := [.gone, .gone, .blk 30 (C_api_Bond ({ x_7 with Used := x_6.2 }) (.s 3)), .rd 2 R_T_api_Subscription x_7.Subs, .own 10 30 R_T_api_Bond x_6.1, .gone, .rd 2 R_T_api_Subscription x_16.Subs, .blk 30 (C_api_Bond x_16 (.s 6)), .elt (some (4, x_13)) true (C_api_Bond x_20 (.s 9)), .rd 2 R_T_api_Subscription x_20.Subs]) (by kernel_rfl) ?_
                 refine SD.all1 (i := 5) (by kernel_rfl) ?_
                 refine SW.eff D_19 (i := 5) (v := vp 8 9) (bs' := [I, I, I, I, I, I, O, O]) rfl (.inl rfl) rfl (e_val tk (by kernel_rfl)) (by kernel_rfl) rfl (by kernel_rfl) ?_
                 refine SD.all1 (i := 6) (by kernel_rfl) ?_
                 refine SW.eff D_19 (i := 6) (v := vi .i64 x_20.Used) (bs' := [I, I, I, I, I, I, I, O]) rfl (.inl rfl) rfl (e_val tk (by kernel_rfl)) (by kernel_rfl) rfl (by kernel_rfl) ?_
                 refine SD.norm (itsN := [.gone, .gone, .blk 30 (C_api_Bond ({ x_7 with Used := x_6.2 }) (.s 3)), .rd 2 R_T_api_Subscription x_7.Subs, .own 10 30 R_T_api_Bond x_6.1, .gone, .rd 2 R_T_api_Subscription x_16.Subs, .blk 30 (C_api_Bond x_16 (.s 6)), .elt (some (4, x_13)) true (C_api_Bond x_20 (.s 9)), .rd 2 R_T_api_Subscription x_20.Subs]) (by kernel_rfl) ?_
                 refine SD.takes tk D_19 [] kn0 [7] [] [] [I, I, I, I, I, I, I, I] [(3, vp 2 0), (8, vs 4), (10, vi .i64 x_13), (11, vi .i64 x_14), (52, vs 4), (53, vi .i64 (len x_6.1)), (54, vi .i64 x_14), (66, vb (decide (x_16.Used < x_20.Used)))] rfl (by kernel_rfl) (by kernel_rfl) (by kernel_rfl) ?_
                 refine SD.done (by kernel_rfl) fun a w h => ?_
                 exact ⟨decide (x_16.Used < x_20.Used), hp, h.at (js := [.g 0, .g 1, .g 2, .g 3, .g 4]) (by kernel_rfl)⟩
               · rintro a w ⟨z_17, hp, h⟩
                 refine h.go ?_
                 refine SC.if' rfl hp (fun hp => ?_) (fun hp => ?_)
                 · refine SC.reg ?_
                   refine SL.sim tk 2 [(3, vp 2 0), (8, vs 4), (10, vi .i64 x_14), (52, vs 4), (53, vi .i64 (len x_6.1)), (54, vi .i64 x_14)] [] [] [] (by kernel_rfl) ?_
                   refine SL.nilJ fun a w h => ?_
                   exact ⟨x_14, hp, h.at (js := [.g 0, .g 1, .g 2, .g 3, .g 4]) (by kernel_rfl)⟩
                 · refine SC.skipJ fun a w h => ?_
                   exact ⟨x_13, hp, h.at (js := [.g 0, .g 1, .g 2, .g 3, .g 4]) (by kernel_rfl)⟩
             · rintro a w ⟨x_15, hp, h⟩
               refine h.go ?_
               refine SC.reg ?_
               refine SL.sim tk 2 [(3, vp 2 0), (8, vs 4), (10, vi .i64 x_15), (52, vs 4), (53, vi .i64 (len x_6.1)), (54, vi .i64 (w64 (x_14 + 1)))] [] [] [] (by kernel_rfl) ?_
               refine SL.nilJ fun a w h => ?_
               exact ⟨n1, Nat.lt_succ_self _, x_15, w64 (x_14 + 1), next_inv hp hs1, h.at (js := [.g 0, .g 1, .g 2, .g 3, .g 4]) (by kernel_rfl)⟩
           · refine SC.exitJ rfl fun a w h => ?_
             have ho := done_inv hp hs1
             replace hp := ho1
             try rw [ho] at hp
             exact ⟨x_13, hp, h.at (js := [.g 0, .g 1, .g 2, .g 3, .g 4]) (by kernel_rfl)⟩
         · refine SC.skipJ fun a w h => ?_
           exact ⟨x_8, hp, h.at (js := [.g 0, .g 1, .g 2, .g 4, .g 3]) (by kernel_rfl)⟩
       · rintro a w ⟨x_10, hp, h⟩
         refine h.go ?_
         refine SC.seq ?_
         refine SC.reg ?_
         obtain ⟨x_11, e_x_11, hp⟩ := bind_inv hp
         refine SL.pre (pre_ixo (i := 4) (iv := x_10) (sz := 10) (E := 30) (R := R_T_api_Bond) (l := x_6.1) (by kernel_rfl) rfl e_x_11) ?_
         refine SL.sim tk 4 [(8, vs 4), (10, vi .i64 x_10), (71, .g (C_api_Bond ({ x_7 with Used := x_6.2 }) (.s 3))), (72, vp 5 0)] [] [.el 5] [x_10] (by kernel_rfl) ?_
         obtain ⟨l_12, e_l_12, hp⟩ := bind_inv hp
         refine SL.eff0 (e_updf (sz := 10) (R := R_T_api_Bond) (i := 4) (iv := x_10) (cs1 := (C_api_Bond ({ x_7 with Used := x_6.2 }) (.s 3))) (e := { x_7 with Used := x_6.2 }) tk rfl rfl rfl (by kernel_rfl) rfl rfl rfl (clo_T_api_Bond (x := { x_7 with Used := x_6.2 }) (Clo.sl (by kernel_rfl))) (by kernel_rfl) (by kernel_rfl) e_l_12) ?_
         refine SL.nilThen ?_
         refine SC.r tk [(4, vs 4), (5, vi .i64 x_10), (6, vi .i64 0)] [] [] [] (by kernel_rfl) ?_
         obtain rfl := some_inv' hp
         exact SC.re (js := [.g 0, .g 1, .z 4]) tk (by kernel_rfl)

theorem ok_slices_Delete_api_Bond_api_Bond (F : Nat) (s_1 : (List T_api_Bond)) (i_2 : Int) (j_3 : Int) (r : (List T_api_Bond)) (hp : slices_Delete_api_Bond_api_Bond F s_1 i_2 j_3 = some r) : Spec Tryd.prog 56 [vs 0, vi .i64 i_2, vi .i64 j_3] [.own 10 30 R_T_api_Bond s_1] (vs 1) [.gone, .own 10 30 R_T_api_Bond r] := by
 unfold slices_Delete_api_Bond_api_Bond at hp
 split at hp
 · rename_i h
   injection hp with hp
   subst hp
   exact spec_del56 _ _ _ h.1 h.2.1 h.2.2
 · cases hp

theorem ok_bonds_Remove (F : Nat) (l_1 : (List T_api_Bond)) (i_2 : Int) (r : (List T_api_Bond) × Int) (hp : bonds_Remove F l_1 i_2 = some r) : Spec Tryd.prog 20 [vs 0, vi .i64 i_2] [.rd 10 R_T_api_Bond l_1] (.u [.inl (.s 1), .inl (ci .i64 r.2)]) [.gone, .rd 10 R_T_api_Bond r.1] := by
 refine Spec.enter Tryd.func20 rfl Tryd.ntmps20 rfl rfl fun fx => ?_
 refine SC.r tk [(0, vs 0), (1, vi .i64 i_2)] [] [] [] (by kernel_rfl) ?_
 refine SC.seq ?_
 refine SC.reg ?_
 refine SL.sim tk 1 [(0, vs 0), (1, vi .i64 i_2), (7, vs 0)] [] [] [] (by kernel_rfl) ?_
 obtain ⟨x_3, e_x_3, hp⟩ := bind_inv hp
 refine SL.eff (e_c Tryd.call50 (ok_bonds_clone F l_1 _ e_x_3) [.g 0] [vs 0] (vs 1) (by kernel_rfl) (.inl rfl)) rfl (by kernel_rfl) ?_
 refine SL.sim tk 1 [(0, vs 0), (1, vi .i64 i_2), (6, vs 1)] [] [] [] (by kernel_rfl) ?_
 refine SL.nilThen ?_
 refine SC.seq ?_
 refine SC.r tk [(1, vi .i64 i_2), (6, vs 1), (16, vb ((decide (i_2 < 0)) || (decide (i_2 ≥ (len l_1)))))] [] [] [] (by kernel_rfl) ?_
 refine SC.if' rfl hp (fun hp => ?_) (fun hp => ?_)
 · refine SC.r tk [(4, vs 1), (5, vi .i64 5)] [] [] [] (by kernel_rfl) ?_
   obtain rfl := some_inv' hp
   exact SC.re (js := [.g 0, .z 1]) tk (by kernel_rfl)
 · refine SC.skipThen ?_
   refine SC.seq ?_
   refine SC.reg ?_
   refine SL.sim tk 4 [(18, vs 1), (19, vi .i64 i_2), (21, vi .i64 (w64 (i_2 + 1)))] [] [] [] (by kernel_rfl) ?_
   obtain ⟨x_4, e_x_4, hp⟩ := bind_inv hp
   refine SL.eff (e_c Tryd.call56 (ok_slices_Delete_api_Bond_api_Bond F x_3 i_2 (w64 (i_2 + 1)) _ e_x_4) [.g 1] [vs 1, vi .i64 i_2, vi .i64 (w64 (i_2 + 1))] (vs 2) (by kernel_rfl) (.inl rfl)) rfl (by kernel_rfl) ?_
   refine SL.norm (itsN := [.rd 10 R_T_api_Bond l_1, .gone, .own 10 30 R_T_api_Bond x_4]) (by kernel_rfl) ?_
   refine SL.sim tk 2 [(4, vs 2), (5, vi .i64 0)] [] [] [] (by kernel_rfl) ?_
   refine SL.nilThen ?_
   obtain rfl := some_inv' hp
   exact SC.re (js := [.g 0, .z 2]) tk (by kernel_rfl)

theorem ok_wirelessref40_SameBond (F : Nat) (a_1 : T_api_Bond) (b_2 : T_api_Bond) (r : Bool) (hp : wirelessref40_SameBond F a_1 b_2 = some r) : Spec Tryd.prog 16 [.g (C_api_Bond a_1 (.s 0)), .g (C_api_Bond b_2 (.s 1))] [.rd 2 R_T_api_Subscription a_1.Subs, .rd 2 R_T_api_Subscription b_2.Subs] (vb r) [.gone, .gone] := by
 refine Spec.enter Tryd.func16 rfl Tryd.ntmps16 rfl rfl fun fx => ?_
 refine SC.seq ?_
 refine SC.reg ?_
 refine SL.eff (e_box (E := 30) (C_api_Bond a_1 (.s 0)) (by kernel_rfl)) rfl (by kernel_rfl) ?_
 refine SL.eff (e_box (E := 30) (C_api_Bond b_2 (.s 1)) (by kernel_rfl)) rfl (by kernel_rfl) ?_
 refine SL.sim tk 1 [(2, vp 2 0), (3, vp 3 0)] [] [] [] (by kernel_rfl) ?_
 refine SL.nilThen ?_
 refine SC.seq ?_
 refine SC.seq ?_
 refine SC.reg ?_
 refine SL.sim tk 4 [(2, vp 2 0), (3, vp 3 0), (7, .g (C_api_Identity a_1.Peer)), (9, .g (C_api_Identity b_2.Peer))] [] [] [] (by kernel_rfl) ?_
 refine SL.eff (e_eqs tk (cs := (C_api_Identity a_1.Peer)) (ds := (C_api_Identity b_2.Peer)) [(a_1.Peer.Address.Kind == b_2.Peer.Address.Kind), (a_1.Peer.Address.Bits == b_2.Peer.Address.Bits), (a_1.Peer.IRK == b_2.Peer.IRK)] (!((a_1.Peer.Address.Kind == b_2.Peer.Address.Kind) && ((a_1.Peer.Address.Bits == b_2.Peer.Address.Bits) && (a_1.Peer.IRK == b_2.Peer.IRK)))) rfl rfl (by kernel_rfl) (by kernel_rfl) (by kernel_rfl) (.inr ⟨rfl, (by kernel_rfl)⟩)) rfl (by kernel_rfl) ?_
 refine SL.sim tk 51 [(2, vp 2 0), (3, vp 3 0), (61, vb ((((((((!((a_1.Peer.Address.Kind == b_2.Peer.Address.Kind) && ((a_1.Peer.Address.Bits == b_2.Peer.Address.Bits) && (a_1.Peer.IRK == b_2.Peer.IRK)))) || (a_1.LTK != b_2.LTK)) || (a_1.Mark != b_2.Mark)) || (a_1.Strong != b_2.Strong)) || (a_1.Hash != b_2.Hash)) || (a_1.Aware != b_2.Aware)) || (a_1.Used != b_2.Used)) || ((len a_1.Subs) != (len b_2.Subs))))] [] [] [] (by kernel_rfl) ?_
 refine SL.nilThen ?_
 refine SC.if' rfl hp (fun hp => ?_) (fun hp => ?_)
 · refine SC.r tk [(4, vb false)] [] [] [] (by kernel_rfl) ?_
   obtain rfl := some_inv' hp
   exact SC.re (js := [.g 0, .g 1]) tk (by kernel_rfl)
 · refine SC.skipThen ?_
   refine SC.cut (fun a w => wirelessref40_SameBond_j1 F = some r ∧ A 80 2 fx [] [.gone, .gone] a w) ?_ ?_
   · refine SC.r tk [(2, vp 2 0), (3, vp 3 0), (5, vi .i64 0)] [] [] [] (by kernel_rfl) ?_
     refine SC.block ?_
     obtain ⟨o1, hi1, ho1⟩ := bind_inv hp
     clear hp
     refine SC.loop (fun n a w => ∃ (x_3 : Int), iter (fun s => wirelessref40_SameBond_l1 F a_1 b_2 s) n (x_3) = some o1 ∧ A 80 2 fx [(2, vp 2 0), (3, vp 3 0), (5, vi .i64 x_3)] [.rd 2 R_T_api_Subscription a_1.Subs, .rd 2 R_T_api_Subscription b_2.Subs, .blk 30 (C_api_Bond a_1 (.s 0)), .blk 30 (C_api_Bond b_2 (.s 1))] a w) F (fun a w h => ⟨0, hi1, h.at (js := [.g 0, .g 1, .g 2, .g 3]) (by kernel_rfl)⟩) ?_
     rintro n1 a w ⟨x_3, hi1, h⟩
     obtain ⟨n1, q1, rfl, hp, hs1⟩ := iter_inv hi1
     replace hp : wirelessref40_SameBond_l1 F a_1 b_2 x_3 = some q1 := hp
     clear hi1
     refine h.go ?_
     refine SC.seq ?_
     refine SC.r tk [(2, vp 2 0), (3, vp 3 0), (5, vi .i64 x_3), (66, vb (decide (x_3 < (len a_1.Subs))))] [] [] [] (by kernel_rfl) ?_
     refine SC.if' rfl hp (fun hp => ?_) (fun hp => ?_)
     · refine SC.skipThen ?_
       refine SC.seq ?_
       refine SC.block ?_
       refine SC.cut (fun a w => ∃ (z_4 : Bool), wirelessref40_SameBond_j2 F x_3 z_4 = some q1 ∧ A 80 2 fx [(2, vp 2 0), (3, vp 3 0), (5, vi .i64 x_3), (79, vb z_4)] [.rd 2 R_T_api_Subscription a_1.Subs, .rd 2 R_T_api_Subscription b_2.Subs, .blk 30 (C_api_Bond a_1 (.s 0)), .blk 30 (C_api_Bond b_2 (.s 1))] a w) ?_ ?_
       · obtain ⟨x_5, e_x_5, hp⟩ := bind_inv hp
         obtain ⟨x_6, e_x_6, hp⟩ := bind_inv hp
         refine SC.pre (pre_ix (i := 0) (iv := x_3) (sz := 2) (R := R_T_api_Subscription) (l := a_1.Subs) (by kernel_rfl) rfl e_x_5) ?_
         refine SC.pre (pre_ix (i := 1) (iv := x_3) (sz := 2) (R := R_T_api_Subscription) (l := b_2.Subs) (by kernel_rfl) rfl e_x_6) ?_
         refine SC.draw MO [I, I, I, I, I, I] (by kernel_rfl) fun kap_7 D_8 => ?_
         refine SD.takes tk D_8 [] kn0 [0, 1, 2, 3, 4, 5, 6, 7, 8, 9] [.el 4, .el 5] [x_3, x_3] [I, I, I, I, I, I, I, I, I, I, O] [(2, vp 2 0), (3, vp 3 0), (5, vi .i64 x_3), (73, .g (C_api_Subscription x_5)), (78, .g (C_api_Subscription x_6))] rfl (by kernel_rfl) (by kernel_rfl) (by kernel_rfl) ?_
         refine SD.all1 (i := 10) (by kernel_rfl) ?_
         refine SW.eff D_8 (i := 10) (bs' := [I, I, I, I, I, I, I, I, I, I, I]) rfl (.inl rfl) rfl (e_eqs tk (cs := (C_api_Subscription x_5)) (ds := (C_api_Subscription x_6)) [(x_5.Handle == x_6.Handle), (x_5.Bits == x_6.Bits)] (!((x_5.Handle == x_6.Handle) && (x_5.Bits == x_6.Bits))) rfl rfl (by kernel_rfl) (by kernel_rfl) (by kernel_rfl) (.inr ⟨rfl, (by kernel_rfl)⟩)) (by kernel_rfl) rfl (by kernel_rfl) ?_
         refine SD.done (by kernel_rfl) fun a w h => ?_
         exact ⟨(!((x_5.Handle == x_6.Handle) && (x_5.Bits == x_6.Bits))), hp, h.at (js := [.g 0, .g 1, .g 2, .g 3]) (by kernel_rfl)⟩
       · rintro a w ⟨z_4, hp, h⟩
         refine h.go ?_
         refine SC.if' rfl hp (fun hp => ?_) (fun hp => ?_)
         · refine SC.r tk [(4, vb false)] [] [] [] (by kernel_rfl) ?_
           have ho := done_inv hp hs1
           replace hp := ho1
           try rw [ho] at hp
           obtain rfl := some_inv' hp
           exact SC.re (js := [.g 0, .g 1]) tk (by kernel_rfl)
         · refine SC.skipThen ?_
           refine SC.reg ?_
           refine SL.sim tk 3 [(2, vp 2 0), (3, vp 3 0), (5, vi .i64 (w64 (x_3 + 1)))] [] [] [] (by kernel_rfl) ?_
           refine SL.nilJ fun a w h => ?_
           exact ⟨n1, Nat.lt_succ_self _, w64 (x_3 + 1), next_inv hp hs1, h.at (js := [.g 0, .g 1, .g 2, .g 3]) (by kernel_rfl)⟩
     · refine SC.exitJ rfl fun a w h => ?_
       have ho := done_inv hp hs1
       replace hp := ho1
       try rw [ho] at hp
       exact ⟨hp, h.at (js := [.g 0, .g 1]) (by kernel_rfl)⟩
   · rintro a w ⟨hp, h⟩
     refine h.go ?_
     refine SC.r tk [(4, vb true)] [] [] [] (by kernel_rfl) ?_
     obtain rfl := some_inv' hp
     exact SC.re (js := [.g 0, .g 1]) tk (by kernel_rfl)

theorem ok_mac_bytes (F : Nat) (numbers_1 : (List Int)) (r : (List Int)) (hp : mac_bytes F numbers_1 = some r) : Spec Tryd.prog 109 [vs 0] [.rd 1 (RInt .u64) numbers_1] (vs 1) [.gone, .rd 1 R8 r] := by
 refine Spec.enter Tryd.func109 rfl Tryd.ntmps109 rfl rfl fun fx => ?_
 refine SC.r tk [(0, vs 0)] [] [] [] (by kernel_rfl) ?_
 refine SC.r tk [(0, vs 0), (3, vn)] [] [] [] (by kernel_rfl) ?_
 refine SC.cut (fun a w => ∃ (l_2 : (List T_api_Field)), mac_bytes_j1 F l_2 = some r ∧ A 26 1 fx [(3, vs 1)] [.gone, .own 2 83 R_T_api_Field l_2] a w) ?_ ?_
 · refine SC.r tk [(3, vn), (8, vs 0), (9, vi .i64 (len numbers_1)), (10, vi .i64 0)] [] [] [] (by kernel_rfl) ?_
   refine SC.block ?_
   obtain ⟨o1, hi1, ho1⟩ := bind_inv hp
   clear hp
   refine SC.loop (fun n a w => ∃ (l_4 : (List T_api_Field)) (x_5 : Int), iter (fun s => mac_bytes_l1 F numbers_1 s.1 s.2) n (l_4, x_5) = some o1 ∧ A 26 1 fx [(3, vs 1), (8, vs 0), (9, vi .i64 (len numbers_1)), (10, vi .i64 x_5)] [.rd 1 (RInt .u64) numbers_1, .own 2 83 R_T_api_Field l_4] a w) F (fun a w h => ⟨[], 0, hi1, h.at (js := [.g 0, .n]) (by kernel_rfl)⟩) ?_
   rintro n1 a w ⟨l_4, x_5, hi1, h⟩
   obtain ⟨n1, q1, rfl, hp, hs1⟩ := iter_inv hi1
   replace hp : mac_bytes_l1 F numbers_1 l_4 x_5 = some q1 := hp
   clear hi1
   refine h.go ?_
   refine SC.r tk [(3, vs 1), (8, vs 0), (9, vi .i64 (len numbers_1)), (10, vi .i64 x_5), (11, vb (decide (x_5 < (len numbers_1))))] [] [] [] (by kernel_rfl) ?_
   refine SC.seq ?_
   refine SC.if' rfl hp (fun hp => ?_) (fun hp => ?_)
   · refine SC.skipThen ?_
     refine SC.seq ?_
     refine SC.block ?_
     obtain ⟨x_6, e_x_6, hp⟩ := bind_inv hp
     refine SC.pre (pre_ix (i := 0) (iv := x_5) (sz := 1) (R := (RInt .u64)) (l := numbers_1) (by kernel_rfl) rfl e_x_6) ?_
     refine SC.r tk [(3, vs 1), (5, vi .u64 x_6), (8, vs 0), (9, vi .i64 (len numbers_1)), (10, vi .i64 x_5)] [] [.el 2] [x_5] (by kernel_rfl) ?_
     refine SC.reg ?_
     refine SL.sim tk 3 [(3, vs 1), (8, vs 0), (9, vi .i64 (len numbers_1)), (10, vi .i64 x_5), (14, vs 1), (16, .g [ci .i64 8, ci .u64 x_6])] [] [] [] (by kernel_rfl) ?_
     refine SL.eff (e_lit (sz := 2) (E := 83) (R := R_T_api_Field) (by_ := 16) tk [[ci .i64 8, ci .u64 x_6]] [(T_api_Field.mk 8 x_6)] (by kernel_rfl) ⟨(clo_T_api_Field (x := (T_api_Field.mk 8 x_6))), trivial⟩ rfl (by kernel_rfl) (by kernel_rfl)) rfl (by kernel_rfl) ?_
     obtain ⟨l_7, e_l_7, hp⟩ := bind_inv hp
     refine SL.eff (e_app (i := 1) (l := l_4) (sz := 2) (E := 83) (R := R_T_api_Field) (by_ := 16) (m := [(T_api_Field.mk 8 x_6)]) tk rfl (by kernel_rfl) rfl (.o 83 (by kernel_rfl)) e_l_7 (by kernel_rfl)) rfl (by kernel_rfl) ?_
     refine SL.sim tk 1 [(3, vs 4), (8, vs 0), (9, vi .i64 (len numbers_1)), (10, vi .i64 x_5)] [] [] [] (by kernel_rfl) ?_
     refine SL.nilThen ?_
     refine SC.reg ?_
     refine SL.sim tk 2 [(3, vs 4), (8, vs 0), (9, vi .i64 (len numbers_1)), (10, vi .i64 (w64 (x_5 + 1)))] [] [] [] (by kernel_rfl) ?_
     refine SL.nilJ fun a w h => ?_
     exact ⟨n1, Nat.lt_succ_self _, l_7, w64 (x_5 + 1), next_inv hp hs1, h.at (js := [.g 0, .g 4]) (by kernel_rfl)⟩
   · refine SC.exitJ rfl fun a w h => ?_
     have ho := done_inv hp hs1
     replace hp := ho1
     try rw [ho] at hp
     exact ⟨l_4, hp, h.at (js := [.g 0, .g 1]) (by kernel_rfl)⟩
 · rintro a w ⟨l_2, hp, h⟩
   refine h.go ?_
   refine SC.seq ?_
   refine SC.reg ?_
   refine SL.sim tk 1 [(21, vs 1)] [] [] [] (by kernel_rfl) ?_
   obtain ⟨x_3, e_x_3, hp⟩ := bind_inv hp
   refine SL.pre (pre_frz (i := 1) (sz := 2) (E := 83) (R := R_T_api_Field) (l := l_2) (by kernel_rfl)) ?_
   refine SL.eff (e_c Tryd.call40 (ok_octets_Put F l_2 _ e_x_3) [.g 1] [vs 1] (.u [.inl (.s 2), .inl (ci .i64 x_3.2)]) (by kernel_rfl) (.inl rfl)) rfl (by kernel_rfl) ?_
   refine SL.sim tk 5 [(6, vs 2)] [] [] [] (by kernel_rfl) ?_
   refine SL.nilThen ?_
   refine SC.r tk [(2, vs 2)] [] [] [] (by kernel_rfl) ?_
   obtain rfl := some_inv' hp
   exact SC.re (js := [.g 0, .g 2]) tk (by kernel_rfl)

theorem ok_serial_Low (F : Nat) (n_1 : Int) (bits_2 : Int) (r : Int) (hp : serial_Low F n_1 bits_2 = some r) : Spec Tryd.prog 124 [vi .u64 n_1, vi .i64 bits_2] [] (vi .u64 r) [] := by
 refine Spec.enter Tryd.func124 rfl Tryd.ntmps124 rfl rfl fun fx => ?_
 refine SC.r tk [(0, vi .u64 n_1), (1, vi .i64 bits_2)] [] [] [] (by kernel_rfl) ?_
 refine SC.seq ?_
 refine SC.block ?_
 refine SC.r tk [(0, vi .u64 n_1), (1, vi .i64 bits_2), (5, vb (decide (bits_2 ≤ 0)))] [] [] [] (by kernel_rfl) ?_
 refine SC.if' rfl hp (fun hp => ?_) (fun hp => ?_)
 · refine SC.r tk [(4, vi .u64 0)] [] [] [] (by kernel_rfl) ?_
   obtain rfl := some_inv' hp
   exact SC.re (js := []) tk (by kernel_rfl)
 · refine SC.r tk [(0, vi .u64 n_1), (1, vi .i64 bits_2), (8, vb (decide (bits_2 ≥ 64)))] [] [] [] (by kernel_rfl) ?_
   refine SC.if' rfl hp (fun hp => ?_) (fun hp => ?_)
   · refine SC.r tk [(4, vi .u64 n_1)] [] [] [] (by kernel_rfl) ?_
     obtain rfl := some_inv' hp
     exact SC.re (js := []) tk (by kernel_rfl)
   · refine SC.skipThen ?_
     obtain ⟨x_3, e_x_3, hp⟩ := bind_inv hp
     refine SC.r tk [(4, vi .u64 (iand .u64 n_1 (wu64 (x_3 - 1))))] [] [.bin .shl .u64 1 bits_2 x_3 e_x_3] [1, bits_2] (by kernel_rfl) ?_
     obtain rfl := some_inv' hp
     exact SC.re (js := []) tk (by kernel_rfl)

theorem ok_block_split (F : Nat) (x_1 : Int) (r : (Int × Int)) (hp : block_split F x_1 = some r) : Spec Tryd.prog 119 [vi .u64 x_1] [] (.g [ci .u32 r.1, ci .u32 r.2]) [] := by
 refine Spec.enter Tryd.func119 rfl Tryd.ntmps119 rfl rfl fun fx => ?_
 refine SC.seq ?_
 refine SC.reg ?_
 refine SL.eff (e_alloc (E := 172) tk [ci .u32 0, ci .u32 0] (by kernel_rfl)) rfl (by kernel_rfl) ?_
 refine SL.nilThen ?_
 refine SC.seq ?_
 refine SC.reg ?_
 refine SL.sim tk 4 [(2, vp 0 0), (5, vi .u32 (wu32 (shrp x_1 32))), (6, vi .u64 x_1)] [] [.bin .shr .u64 x_1 32 (shrp x_1 32) (by kernel_rfl)] [x_1, 32] (by kernel_rfl) ?_
 obtain ⟨x_2, e_x_2, hp⟩ := bind_inv hp
 refine SL.eff (e_c Tryd.call124 (ok_serial_Low F x_1 32 _ e_x_2) [] [vi .u64 x_1, vi .i64 32] (vi .u64 x_2) (by kernel_rfl) (.inl rfl)) rfl (by kernel_rfl) ?_
 refine SL.sim tk 3 [(2, vp 0 0)] [(0, 172, [ci .u32 (wu32 (shrp x_1 32)), ci .u32 (wu32 x_2)])] [] [] (by kernel_rfl) ?_
 refine SL.nilThen ?_
 obtain rfl := some_inv' hp
 exact SC.re (js := []) tk (by kernel_rfl)

theorem ok_math_bits_RotateLeft64 (F : Nat) (x_1 : Int) (k_2 : Int) (r : Int) (hp : math_bits_RotateLeft64 F x_1 k_2 = some r) : Spec Tryd.prog 125 [vi .u64 x_1, vi .i64 k_2] [] (vi .u64 r) [] := by
 refine Spec.enter Tryd.func125 rfl Tryd.ntmps125 rfl rfl fun fx => ?_
 refine SC.r tk [(0, vi .u64 x_1), (1, vi .i64 k_2)] [] [] [] (by kernel_rfl) ?_
 refine SC.r tk [(0, vi .u64 x_1), (5, vi .u64 (iand .u64 (wu64 k_2) 63))] [] [] [] (by kernel_rfl) ?_
 obtain ⟨x_3, e_x_3, hp⟩ := bind_inv hp
 obtain ⟨x_4, e_x_4, hp⟩ := bind_inv hp
 refine SC.r tk [(4, vi .u64 (ior .u64 x_3 x_4))] [] [.bin .shl .u64 x_1 (iand .u64 (wu64 k_2) 63) x_3 e_x_3, .bin .shr .u64 x_1 (wu64 (64 - (iand .u64 (wu64 k_2) 63))) x_4 e_x_4] [x_1, iand .u64 (wu64 k_2) 63, x_1, wu64 (64 - (iand .u64 (wu64 k_2) 63))] (by kernel_rfl) ?_
 obtain rfl := some_inv' hp
 exact SC.re (js := []) tk (by kernel_rfl)

theorem ok_math_bits_RotateLeft32 (F : Nat) (x_1 : Int) (k_2 : Int) (r : Int) (hp : math_bits_RotateLeft32 F x_1 k_2 = some r) : Spec Tryd.prog 126 [vi .u32 x_1, vi .i64 k_2] [] (vi .u32 r) [] := by
 refine Spec.enter Tryd.func126 rfl Tryd.ntmps126 rfl rfl fun fx => ?_
 refine SC.r tk [(0, vi .u32 x_1), (1, vi .i64 k_2)] [] [] [] (by kernel_rfl) ?_
 refine SC.r tk [(0, vi .u32 x_1), (5, vi .u64 (iand .u64 (wu64 k_2) 31))] [] [] [] (by kernel_rfl) ?_
 obtain ⟨x_3, e_x_3, hp⟩ := bind_inv hp
 obtain ⟨x_4, e_x_4, hp⟩ := bind_inv hp
 refine SC.r tk [(4, vi .u32 (ior .u32 x_3 x_4))] [] [.bin .shl .u32 x_1 (iand .u64 (wu64 k_2) 31) x_3 e_x_3, .bin .shr .u32 x_1 (wu64 (32 - (iand .u64 (wu64 k_2) 31))) x_4 e_x_4] [x_1, iand .u64 (wu64 k_2) 31, x_1, wu64 (32 - (iand .u64 (wu64 k_2) 31))] (by kernel_rfl) ?_
 obtain rfl := some_inv' hp
 exact SC.re (js := []) tk (by kernel_rfl)

theorem ok_block_Round (F : Nat) (k_1 : Int) (i_2 : Int) (half_3 : Int) (r : Int) (hp : block_Round F k_1 i_2 half_3 = some r) : Spec Tryd.prog 120 [vi .u64 k_1, vi .i64 i_2, vi .u32 half_3] [] (vi .u32 r) [] := by
 refine Spec.enter Tryd.func120 rfl Tryd.ntmps120 rfl rfl fun fx => ?_
 refine SC.r tk [(0, vi .u64 k_1), (1, vi .i64 i_2), (2, vi .u32 half_3)] [] [] [] (by kernel_rfl) ?_
 refine SC.r tk [(0, vi .u64 k_1), (2, vi .u32 half_3), (7, vi .i64 (remp (w64 (11 * (remp i_2 64))) 64))] [] [.bin .rem .i64 i_2 64 (remp i_2 64) (by kernel_rfl), .bin .rem .i64 (w64 (11 * (remp i_2 64))) 64 (remp (w64 (11 * (remp i_2 64))) 64) (by kernel_rfl)] [i_2, 64, w64 (11 * (remp i_2 64)), 64] (by kernel_rfl) ?_
 refine SC.seq ?_
 refine SC.reg ?_
 refine SL.sim tk 2 [(2, vi .u32 half_3), (13, vi .u64 k_1), (14, vi .i64 (remp (w64 (11 * (remp i_2 64))) 64))] [] [] [] (by kernel_rfl) ?_
 obtain ⟨x_4, e_x_4, hp⟩ := bind_inv hp
 refine SL.eff (e_c Tryd.call125 (ok_math_bits_RotateLeft64 F k_1 (remp (w64 (11 * (remp i_2 64))) 64) _ e_x_4) [] [vi .u64 k_1, vi .i64 (remp (w64 (11 * (remp i_2 64))) 64)] (vi .u64 x_4) (by kernel_rfl) (.inl rfl)) rfl (by kernel_rfl) ?_
 obtain ⟨x_5, e_x_5, hp⟩ := bind_inv hp
 refine SL.eff (e_c Tryd.call124 (ok_serial_Low F x_4 32 _ e_x_5) [] [vi .u64 x_4, vi .i64 32] (vi .u64 x_5) (by kernel_rfl) (.inl rfl)) rfl (by kernel_rfl) ?_
 refine SL.norm (itsN := []) (by kernel_rfl) ?_
 refine SL.sim tk 2 [(2, vi .u32 half_3), (8, vi .u32 (wu32 x_5))] [] [] [] (by kernel_rfl) ?_
 refine SL.nilThen ?_
 refine SC.seq ?_
 refine SC.reg ?_
 refine SL.sim tk 3 [(8, vi .u32 (wu32 x_5)), (20, vi .u32 (wu32 (half_3 + (wu32 x_5))))] [] [] [] (by kernel_rfl) ?_
 obtain ⟨x_6, e_x_6, hp⟩ := bind_inv hp
 refine SL.eff (e_c Tryd.call126 (ok_math_bits_RotateLeft32 F (wu32 (half_3 + (wu32 x_5))) 7 _ e_x_6) [] [vi .u32 (wu32 (half_3 + (wu32 x_5))), vi .i64 7] (vi .u32 x_6) (by kernel_rfl) (.inl rfl)) rfl (by kernel_rfl) ?_
 refine SL.sim tk 2 [(22, vi .u32 (wu32 (x_6 * 2654435761))), (23, vi .u32 (wu32 x_5))] [] [] [] (by kernel_rfl) ?_
 obtain ⟨x_7, e_x_7, hp⟩ := bind_inv hp
 refine SL.eff (e_c Tryd.call126 (ok_math_bits_RotateLeft32 F (wu32 x_5) 16 _ e_x_7) [] [vi .u32 (wu32 x_5), vi .i64 16] (vi .u32 x_7) (by kernel_rfl) (.inl rfl)) rfl (by kernel_rfl) ?_
 refine SL.norm (itsN := []) (by kernel_rfl) ?_
 refine SL.sim tk 2 [(6, vi .u32 (ixor .u32 (wu32 (x_6 * 2654435761)) x_7))] [] [] [] (by kernel_rfl) ?_
 refine SL.nilThen ?_
 obtain rfl := some_inv' hp
 exact SC.re (js := []) tk (by kernel_rfl)

theorem ok_block_halves_join (F : Nat) (h_1 : (Int × Int)) (r : Int) (hp : block_halves_join F h_1 = some r) : Spec Tryd.prog 121 [.g [ci .u32 h_1.1, ci .u32 h_1.2]] [] (vi .u64 r) [] := by
 refine Spec.enter Tryd.func121 rfl Tryd.ntmps121 rfl rfl fun fx => ?_
 refine SC.seq ?_
 refine SC.reg ?_
 refine SL.eff (e_box (E := 172) [ci .u32 h_1.1, ci .u32 h_1.2] (by kernel_rfl)) rfl (by kernel_rfl) ?_
 refine SL.sim tk 1 [(1, vp 0 0)] [] [] [] (by kernel_rfl) ?_
 refine SL.nilThen ?_
 refine SC.seq ?_
 refine SC.reg ?_
 refine SL.eff (e_ixa (off := 0) (T := 172) (cs := [ci .u32 h_1.1, ci .u32 h_1.2]) tk rfl rfl (by kernel_rfl) (by kernel_rfl)) rfl (by kernel_rfl) ?_
 refine SL.sim tk 3 [(1, vp 0 0), (6, vi .u64 (shlp .u64 (wu64 h_1.1) 32))] [] [.bin .shl .u64 (wu64 h_1.1) 32 (shlp .u64 (wu64 h_1.1) 32) (by kernel_rfl)] [wu64 h_1.1, 32] (by kernel_rfl) ?_
 refine SL.eff (e_ixa (off := 1) (T := 172) (cs := [ci .u32 h_1.1, ci .u32 h_1.2]) tk rfl rfl (by kernel_rfl) (by kernel_rfl)) rfl (by kernel_rfl) ?_
 refine SL.sim tk 4 [(2, vi .u64 (ior .u64 (shlp .u64 (wu64 h_1.1) 32) (wu64 h_1.2)))] [] [] [] (by kernel_rfl) ?_
 refine SL.nilThen ?_
 obtain rfl := some_inv' hp
 exact SC.re (js := []) tk (by kernel_rfl)

theorem ok_block_Mix (F : Nat) (k_1 : Int) (x_2 : Int) (r : Int) (hp : block_Mix F k_1 x_2 = some r) : Spec Tryd.prog 114 [vi .u64 k_1, vi .u64 x_2] [] (vi .u64 r) [] := by
 refine Spec.enter Tryd.func114 rfl Tryd.ntmps114 rfl rfl fun fx => ?_
 refine SC.r tk [(0, vi .u64 k_1), (1, vi .u64 x_2)] [] [] [] (by kernel_rfl) ?_
 refine SC.seq ?_
 refine SC.reg ?_
 refine SL.sim tk 1 [(0, vi .u64 k_1), (7, vi .u64 x_2)] [] [] [] (by kernel_rfl) ?_
 obtain ⟨x_3, e_x_3, hp⟩ := bind_inv hp
 refine SL.eff (e_c Tryd.call119 (ok_block_split F x_2 _ e_x_3) [] [vi .u64 x_2] (.g [ci .u32 x_3.1, ci .u32 x_3.2]) (by kernel_rfl) (.inl rfl)) rfl (by kernel_rfl) ?_
 refine SL.eff (e_alloc (E := 172) tk [ci .u32 0, ci .u32 0] (by kernel_rfl)) rfl (by kernel_rfl) ?_
 refine SL.sim tk 1 [(0, vi .u64 k_1), (5, vp 0 0)] [(0, 172, [ci .u32 x_3.1, ci .u32 x_3.2])] [] [] (by kernel_rfl) ?_
 refine SL.nilThen ?_
 refine SC.cut (fun a w => ∃ (x_4 : Int) (x_5 : Int), block_Mix_j1 F x_4 x_5 = some r ∧ A 26 0 fx [(5, vp 0 0)] [.blk 172 [ci .u32 x_4, ci .u32 x_5]] a w) ?_ ?_
 · refine SC.r tk [(0, vi .u64 k_1), (5, vp 0 0), (9, vi .i64 0)] [] [] [] (by kernel_rfl) ?_
   refine SC.block ?_
   obtain ⟨o1, hi1, ho1⟩ := bind_inv hp
   clear hp
   refine SC.loop (fun n a w => ∃ (x_7 : Int) (x_8 : Int) (x_9 : Int), iter (fun s => block_Mix_l1 F k_1 s.1 s.2.1 s.2.2) n (x_7, x_8, x_9) = some o1 ∧ A 26 0 fx [(0, vi .u64 k_1), (5, vp 0 0), (9, vi .i64 x_9)] [.blk 172 [ci .u32 x_7, ci .u32 x_8]] a w) F (fun a w h => ⟨x_3.1, x_3.2, 0, hi1, h.at (js := [.g 0]) (by kernel_rfl)⟩) ?_
   rintro n1 a w ⟨x_7, x_8, x_9, hi1, h⟩
   obtain ⟨n1, q1, rfl, hp, hs1⟩ := iter_inv hi1
   replace hp : block_Mix_l1 F k_1 x_7 x_8 x_9 = some q1 := hp
   clear hi1
   refine h.go ?_
   refine SC.r tk [(0, vi .u64 k_1), (5, vp 0 0), (9, vi .i64 x_9), (10, vb (decide (x_9 < 8)))] [] [] [] (by kernel_rfl) ?_
   refine SC.seq ?_
   refine SC.if' rfl hp (fun hp => ?_) (fun hp => ?_)
   · refine SC.skipThen ?_
     refine SC.seq ?_
     refine SC.block ?_
     refine SC.r tk [(0, vi .u64 k_1), (5, vp 0 0), (6, vi .i64 x_9), (9, vi .i64 x_9)] [] [] [] (by kernel_rfl) ?_
     refine SC.draw MO [false] (by kernel_rfl) fun kap_10 D_11 => ?_
     refine SD.takes tk D_11 [] kn0 [4, 5] [] [] [O, O, O, O, I, I, O, O, O, O, O, O] [(0, vi .u64 k_1), (5, vp 0 0), (9, vi .i64 x_9), (16, vi .u64 k_1), (17, vi .i64 x_9)] rfl (by kernel_rfl) (by kernel_rfl) (by kernel_rfl) ?_
     obtain ⟨x_652, e_x_652, hp⟩ := bind_inv hp
     refine SD.lay 0 [I, I, I, I, I, I, I, I, I, I, I, I] [(0, vi .u64 k_1), (5, vp 0 0), (9, vi .i64 x_9)] [.blk 172 [ci .u32 x_8, ci .u32 (ixor .u32 x_7 x_652)]] ?_ (fun c_11_0 => ?_)
     · refine SD.doneThen (by kernel_rfl) ?_
       refine SC.reg ?_
       refine SL.sim tk 2 [(0, vi .u64 k_1), (5, vp 0 0), (9, vi .i64 (w64 (x_9 + 1)))] [] [] [] (by kernel_rfl) ?_
       refine SL.nilJ fun a w h => ?_
       exact ⟨n1, Nat.lt_succ_self _, x_8, ixor .u32 x_7 x_652, w64 (x_9 + 1), next_inv hp hs1, h.at (js := [.g 0]) (by kernel_rfl)⟩
     · refine SD.lay 1 [I, I, I, I, I, I, I, I, I, I, I, O] [(0, vi .u64 k_1), (5, vp 0 0), (9, vi .i64 x_9), (22, .g [ci .u32 x_8, ci .u32 (ixor .u32 x_7 x_652)])] [.blk 172 [ci .u32 x_7, ci .u32 x_8]] ?_ (fun c_11_1 => ?_)
       · refine SD.all1 (i := 11) (by kernel_rfl) ?_
         refine SW.store D_11 tk (i := 11) (q := 0) (T := 172) (cs := [ci .u32 x_8, ci .u32 (ixor .u32 x_7 x_652)]) (bs' := [I, I, I, I, I, I, I, I, I, I, I, I]) rfl (by kernel_rfl) rfl rfl (by kernel_rfl) ?_
         exact SD.vie D_11 [.g 0] c_11_0 (by kernel_rfl)
       · refine SD.lay 4 [I, I, I, I, I, I, I, I, O, O, O, O] [(0, vi .u64 k_1), (5, vp 0 0), (9, vi .i64 x_9), (13, vi .u32 x_8), (15, vi .u32 x_7), (16, vi .u64 k_1), (17, vi .i64 x_9), (19, vi .u32 x_8)] [.blk 172 [ci .u32 x_7, ci .u32 x_8]] ?_ (fun c_11_2 => ?_)
         · refine SD.all1 (i := 8) (by kernel_rfl) ?_
           refine SW.eff D_11 (i := 8) (bs' := [I, I, I, I, I, I, I, I, I, O, O, O]) rfl (.inl rfl) rfl (e_c Tryd.call120 (ok_block_Round F k_1 x_9 x_8 _ e_x_652) [] [vi .u64 k_1, vi .i64 x_9, vi .u32 x_8] (vi .u32 x_652) (by kernel_rfl) (.inl rfl)) (by kernel_rfl) rfl (by kernel_rfl) ?_
           refine SD.takes tk D_11 [] kn0 [9, 10] [] [] [I, I, I, I, I, I, I, I, I, I, I, O] [(0, vi .u64 k_1), (5, vp 0 0), (9, vi .i64 x_9), (22, .g [ci .u32 x_8, ci .u32 (ixor .u32 x_7 x_652)])] rfl (by kernel_rfl) (by kernel_rfl) (by kernel_rfl) ?_
           exact SD.vie D_11 [.g 0] c_11_1 (by kernel_rfl)
         · refine SD.lay 5 [I, I, I, I, I, I, I, O, O, O, O, O] [(0, vi .u64 k_1), (5, vp 0 0), (9, vi .i64 x_9), (13, vi .u32 x_8), (15, vi .u32 x_7), (16, vi .u64 k_1), (17, vi .i64 x_9), (18, vp 0 1)] [.blk 172 [ci .u32 x_7, ci .u32 x_8]] ?_ (fun c_11_3 => ?_)
           · refine SD.all1 (i := 7) (by kernel_rfl) ?_
             refine SW.eff D_11 (i := 7) (v := vi .u32 x_8) (bs' := [I, I, I, I, I, I, I, I, O, O, O, O]) rfl (.inl rfl) rfl (e_val tk (by kernel_rfl)) (by kernel_rfl) rfl (by kernel_rfl) ?_
             exact SD.vie D_11 [.g 0] c_11_2 (by kernel_rfl)
           · refine SD.lay 6 [I, I, I, I, I, I, O, O, O, O, O, O] [(0, vi .u64 k_1), (5, vp 0 0), (9, vi .i64 x_9), (13, vi .u32 x_8), (15, vi .u32 x_7), (16, vi .u64 k_1), (17, vi .i64 x_9)] [.blk 172 [ci .u32 x_7, ci .u32 x_8]] ?_ (fun c_11_4 => ?_)
             · refine SD.all1 (i := 6) (by kernel_rfl) ?_
               refine SW.eff D_11 (i := 6) (bs' := [I, I, I, I, I, I, I, O, O, O, O, O]) rfl (.inl rfl) rfl (e_ixa (off := 1) (T := 172) (cs := [ci .u32 x_7, ci .u32 x_8]) tk rfl rfl (by kernel_rfl) (by kernel_rfl)) (by kernel_rfl) rfl (by kernel_rfl) ?_
               exact SD.vie D_11 [.g 0] c_11_3 (by kernel_rfl)
             · refine SD.lay 4 [I, I, I, O, I, I, I, I, I, O, O, O] [(0, vi .u64 k_1), (5, vp 0 0), (9, vi .i64 x_9), (13, vi .u32 x_8), (14, vp 0 0), (20, vi .u32 x_652)] [.blk 172 [ci .u32 x_7, ci .u32 x_8]] ?_ (fun c_11_5 => ?_)
               · refine SD.all1 (i := 3) (by kernel_rfl) ?_
                 refine SW.eff D_11 (i := 3) (v := vi .u32 x_7) (bs' := [I, I, I, I, I, I, I, I, I, O, O, O]) rfl (.inl rfl) rfl (e_val tk (by kernel_rfl)) (by kernel_rfl) rfl (by kernel_rfl) ?_
                 refine SD.takes tk D_11 [] kn0 [9, 10] [] [] [I, I, I, I, I, I, I, I, I, I, I, O] [(0, vi .u64 k_1), (5, vp 0 0), (9, vi .i64 x_9), (22, .g [ci .u32 x_8, ci .u32 (ixor .u32 x_7 x_652)])] rfl (by kernel_rfl) (by kernel_rfl) (by kernel_rfl) ?_
                 exact SD.vie D_11 [.g 0] c_11_1 (by kernel_rfl)
               · refine SD.lay 5 [I, I, I, O, I, I, I, I, O, O, O, O] [(0, vi .u64 k_1), (5, vp 0 0), (9, vi .i64 x_9), (13, vi .u32 x_8), (14, vp 0 0), (16, vi .u64 k_1), (17, vi .i64 x_9), (19, vi .u32 x_8)] [.blk 172 [ci .u32 x_7, ci .u32 x_8]] ?_ (fun c_11_6 => ?_)
                 · refine SD.all2 (i := 3) (j := 8) (by kernel_rfl) ?_ ?_
                   · refine SW.eff D_11 (i := 3) (v := vi .u32 x_7) (bs' := [I, I, I, I, I, I, I, I, O, O, O, O]) rfl (.inl rfl) rfl (e_val tk (by kernel_rfl)) (by kernel_rfl) rfl (by kernel_rfl) ?_
                     exact SD.vie D_11 [.g 0] c_11_2 (by kernel_rfl)
                   · refine SW.eff D_11 (i := 8) (bs' := [I, I, I, O, I, I, I, I, I, O, O, O]) rfl (.inl rfl) rfl (e_c Tryd.call120 (ok_block_Round F k_1 x_9 x_8 _ e_x_652) [] [vi .u64 k_1, vi .i64 x_9, vi .u32 x_8] (vi .u32 x_652) (by kernel_rfl) (.inl rfl)) (by kernel_rfl) rfl (by kernel_rfl) ?_
                     exact SD.vie D_11 [.g 0] c_11_5 (by kernel_rfl)
                 · refine SD.lay 6 [I, I, I, O, I, I, I, O, O, O, O, O] [(0, vi .u64 k_1), (5, vp 0 0), (9, vi .i64 x_9), (13, vi .u32 x_8), (14, vp 0 0), (16, vi .u64 k_1), (17, vi .i64 x_9), (18, vp 0 1)] [.blk 172 [ci .u32 x_7, ci .u32 x_8]] ?_ (fun c_11_7 => ?_)
                   · refine SD.all2 (i := 3) (j := 7) (by kernel_rfl) ?_ ?_
                     · refine SW.eff D_11 (i := 3) (v := vi .u32 x_7) (bs' := [I, I, I, I, I, I, I, O, O, O, O, O]) rfl (.inl rfl) rfl (e_val tk (by kernel_rfl)) (by kernel_rfl) rfl (by kernel_rfl) ?_
                       exact SD.vie D_11 [.g 0] c_11_3 (by kernel_rfl)
                     · refine SW.eff D_11 (i := 7) (v := vi .u32 x_8) (bs' := [I, I, I, O, I, I, I, I, O, O, O, O]) rfl (.inl rfl) rfl (e_val tk (by kernel_rfl)) (by kernel_rfl) rfl (by kernel_rfl) ?_
                       exact SD.vie D_11 [.g 0] c_11_6 (by kernel_rfl)
                   · refine SD.lay 7 [I, I, I, O, I, I, O, O, O, O, O, O] [(0, vi .u64 k_1), (5, vp 0 0), (9, vi .i64 x_9), (13, vi .u32 x_8), (14, vp 0 0), (16, vi .u64 k_1), (17, vi .i64 x_9)] [.blk 172 [ci .u32 x_7, ci .u32 x_8]] ?_ (fun c_11_8 => ?_)
                     · refine SD.all2 (i := 3) (j := 6) (by kernel_rfl) ?_ ?_
                       · refine SW.eff D_11 (i := 3) (v := vi .u32 x_7) (bs' := [I, I, I, I, I, I, O, O, O, O, O, O]) rfl (.inl rfl) rfl (e_val tk (by kernel_rfl)) (by kernel_rfl) rfl (by kernel_rfl) ?_
                         exact SD.vie D_11 [.g 0] c_11_4 (by kernel_rfl)
                       · refine SW.eff D_11 (i := 6) (bs' := [I, I, I, O, I, I, I, O, O, O, O, O]) rfl (.inl rfl) rfl (e_ixa (off := 1) (T := 172) (cs := [ci .u32 x_7, ci .u32 x_8]) tk rfl rfl (by kernel_rfl) (by kernel_rfl)) (by kernel_rfl) rfl (by kernel_rfl) ?_
                         exact SD.vie D_11 [.g 0] c_11_7 (by kernel_rfl)
                     · refine SD.lay 5 [I, I, O, O, I, I, I, I, I, O, O, O] [(0, vi .u64 k_1), (5, vp 0 0), (9, vi .i64 x_9), (13, vi .u32 x_8), (20, vi .u32 x_652)] [.blk 172 [ci .u32 x_7, ci .u32 x_8]] ?_ (fun c_11_9 => ?_)
                       · refine SD.all1 (i := 2) (by kernel_rfl) ?_
                         refine SW.eff D_11 (i := 2) (bs' := [I, I, I, O, I, I, I, I, I, O, O, O]) rfl (.inl rfl) rfl (e_ixa (off := 0) (T := 172) (cs := [ci .u32 x_7, ci .u32 x_8]) tk rfl rfl (by kernel_rfl) (by kernel_rfl)) (by kernel_rfl) rfl (by kernel_rfl) ?_
                         exact SD.vie D_11 [.g 0] c_11_5 (by kernel_rfl)
                       · refine SD.lay 6 [I, I, O, O, I, I, I, I, O, O, O, O] [(0, vi .u64 k_1), (5, vp 0 0), (9, vi .i64 x_9), (13, vi .u32 x_8), (16, vi .u64 k_1), (17, vi .i64 x_9), (19, vi .u32 x_8)] [.blk 172 [ci .u32 x_7, ci .u32 x_8]] ?_ (fun c_11_10 => ?_)
                         · refine SD.all2 (i := 2) (j := 8) (by kernel_rfl) ?_ ?_
                           · refine SW.eff D_11 (i := 2) (bs' := [I, I, I, O, I, I, I, I, O, O, O, O]) rfl (.inl rfl) rfl (e_ixa (off := 0) (T := 172) (cs := [ci .u32 x_7, ci .u32 x_8]) tk rfl rfl (by kernel_rfl) (by kernel_rfl)) (by kernel_rfl) rfl (by kernel_rfl) ?_
                             exact SD.vie D_11 [.g 0] c_11_6 (by kernel_rfl)
                           · refine SW.eff D_11 (i := 8) (bs' := [I, I, O, O, I, I, I, I, I, O, O, O]) rfl (.inl rfl) rfl (e_c Tryd.call120 (ok_block_Round F k_1 x_9 x_8 _ e_x_652) [] [vi .u64 k_1, vi .i64 x_9, vi .u32 x_8] (vi .u32 x_652) (by kernel_rfl) (.inl rfl)) (by kernel_rfl) rfl (by kernel_rfl) ?_
                             exact SD.vie D_11 [.g 0] c_11_9 (by kernel_rfl)
                         · refine SD.lay 7 [I, I, O, O, I, I, I, O, O, O, O, O] [(0, vi .u64 k_1), (5, vp 0 0), (9, vi .i64 x_9), (13, vi .u32 x_8), (16, vi .u64 k_1), (17, vi .i64 x_9), (18, vp 0 1)] [.blk 172 [ci .u32 x_7, ci .u32 x_8]] ?_ (fun c_11_11 => ?_)
                           · refine SD.all2 (i := 2) (j := 7) (by kernel_rfl) ?_ ?_
                             · refine SW.eff D_11 (i := 2) (bs' := [I, I, I, O, I, I, I, O, O, O, O, O]) rfl (.inl rfl) rfl (e_ixa (off := 0) (T := 172) (cs := [ci .u32 x_7, ci .u32 x_8]) tk rfl rfl (by kernel_rfl) (by kernel_rfl)) (by kernel_rfl) rfl (by kernel_rfl) ?_
                               exact SD.vie D_11 [.g 0] c_11_7 (by kernel_rfl)
                             · refine SW.eff D_11 (i := 7) (v := vi .u32 x_8) (bs' := [I, I, O, O, I, I, I, I, O, O, O, O]) rfl (.inl rfl) rfl (e_val tk (by kernel_rfl)) (by kernel_rfl) rfl (by kernel_rfl) ?_
                               exact SD.vie D_11 [.g 0] c_11_10 (by kernel_rfl)
                           · refine SD.lay 8 [I, I, O, O, I, I, O, O, O, O, O, O] [(0, vi .u64 k_1), (5, vp 0 0), (9, vi .i64 x_9), (13, vi .u32 x_8), (16, vi .u64 k_1), (17, vi .i64 x_9)] [.blk 172 [ci .u32 x_7, ci .u32 x_8]] ?_ (fun c_11_12 => ?_)
                             · refine SD.all2 (i := 2) (j := 6) (by kernel_rfl) ?_ ?_
                               · refine SW.eff D_11 (i := 2) (bs' := [I, I, I, O, I, I, O, O, O, O, O, O]) rfl (.inl rfl) rfl (e_ixa (off := 0) (T := 172) (cs := [ci .u32 x_7, ci .u32 x_8]) tk rfl rfl (by kernel_rfl) (by kernel_rfl)) (by kernel_rfl) rfl (by kernel_rfl) ?_
                                 exact SD.vie D_11 [.g 0] c_11_8 (by kernel_rfl)
                               · refine SW.eff D_11 (i := 6) (bs' := [I, I, O, O, I, I, I, O, O, O, O, O]) rfl (.inl rfl) rfl (e_ixa (off := 1) (T := 172) (cs := [ci .u32 x_7, ci .u32 x_8]) tk rfl rfl (by kernel_rfl) (by kernel_rfl)) (by kernel_rfl) rfl (by kernel_rfl) ?_
                                 exact SD.vie D_11 [.g 0] c_11_11 (by kernel_rfl)
                             · refine SD.lay 3 [I, O, I, I, I, I, I, I, I, I, O, O] [(0, vi .u64 k_1), (5, vp 0 0), (9, vi .i64 x_9), (12, vp 0 1), (21, vi .u32 (ixor .u32 x_7 x_652))] [.blk 172 [ci .u32 x_7, ci .u32 x_8]] ?_ (fun c_11_13 => ?_)
                               · refine SD.all1 (i := 1) (by kernel_rfl) ?_
                                 refine SW.eff D_11 (i := 1) (v := vi .u32 x_8) (bs' := [I, I, I, I, I, I, I, I, I, I, O, O]) rfl (.inl rfl) rfl (e_val tk (by kernel_rfl)) (by kernel_rfl) rfl (by kernel_rfl) ?_
                                 refine SD.takes tk D_11 [] kn0 [10] [] [] [I, I, I, I, I, I, I, I, I, I, I, O] [(0, vi .u64 k_1), (5, vp 0 0), (9, vi .i64 x_9), (22, .g [ci .u32 x_8, ci .u32 (ixor .u32 x_7 x_652)])] rfl (by kernel_rfl) (by kernel_rfl) (by kernel_rfl) ?_
                                 exact SD.vie D_11 [.g 0] c_11_1 (by kernel_rfl)
                               · refine SD.lay 5 [I, O, I, I, I, I, I, I, O, O, O, O] [(0, vi .u64 k_1), (5, vp 0 0), (9, vi .i64 x_9), (12, vp 0 1), (15, vi .u32 x_7), (16, vi .u64 k_1), (17, vi .i64 x_9), (19, vi .u32 x_8)] [.blk 172 [ci .u32 x_7, ci .u32 x_8]] ?_ (fun c_11_14 => ?_)
                                 · refine SD.all2 (i := 1) (j := 8) (by kernel_rfl) ?_ ?_
                                   · refine SW.eff D_11 (i := 1) (v := vi .u32 x_8) (bs' := [I, I, I, I, I, I, I, I, O, O, O, O]) rfl (.inl rfl) rfl (e_val tk (by kernel_rfl)) (by kernel_rfl) rfl (by kernel_rfl) ?_
                                     exact SD.vie D_11 [.g 0] c_11_2 (by kernel_rfl)
                                   · refine SW.eff D_11 (i := 8) (bs' := [I, O, I, I, I, I, I, I, I, O, O, O]) rfl (.inl rfl) rfl (e_c Tryd.call120 (ok_block_Round F k_1 x_9 x_8 _ e_x_652) [] [vi .u64 k_1, vi .i64 x_9, vi .u32 x_8] (vi .u32 x_652) (by kernel_rfl) (.inl rfl)) (by kernel_rfl) rfl (by kernel_rfl) ?_
                                     refine SD.takes tk D_11 [] kn0 [9] [] [] [I, O, I, I, I, I, I, I, I, I, O, O] [(0, vi .u64 k_1), (5, vp 0 0), (9, vi .i64 x_9), (12, vp 0 1), (21, vi .u32 (ixor .u32 x_7 x_652))] rfl (by kernel_rfl) (by kernel_rfl) (by kernel_rfl) ?_
                                     exact SD.vie D_11 [.g 0] c_11_13 (by kernel_rfl)
                                 · refine SD.lay 6 [I, O, I, I, I, I, I, O, O, O, O, O] [(0, vi .u64 k_1), (5, vp 0 0), (9, vi .i64 x_9), (12, vp 0 1), (15, vi .u32 x_7), (16, vi .u64 k_1), (17, vi .i64 x_9), (18, vp 0 1)] [.blk 172 [ci .u32 x_7, ci .u32 x_8]] ?_ (fun c_11_15 => ?_)
                                   · refine SD.all2 (i := 1) (j := 7) (by kernel_rfl) ?_ ?_
                                     · refine SW.eff D_11 (i := 1) (v := vi .u32 x_8) (bs' := [I, I, I, I, I, I, I, O, O, O, O, O]) rfl (.inl rfl) rfl (e_val tk (by kernel_rfl)) (by kernel_rfl) rfl (by kernel_rfl) ?_
                                       exact SD.vie D_11 [.g 0] c_11_3 (by kernel_rfl)
                                     · refine SW.eff D_11 (i := 7) (v := vi .u32 x_8) (bs' := [I, O, I, I, I, I, I, I, O, O, O, O]) rfl (.inl rfl) rfl (e_val tk (by kernel_rfl)) (by kernel_rfl) rfl (by kernel_rfl) ?_
                                       exact SD.vie D_11 [.g 0] c_11_14 (by kernel_rfl)
                                   · refine SD.lay 7 [I, O, I, I, I, I, O, O, O, O, O, O] [(0, vi .u64 k_1), (5, vp 0 0), (9, vi .i64 x_9), (12, vp 0 1), (15, vi .u32 x_7), (16, vi .u64 k_1), (17, vi .i64 x_9)] [.blk 172 [ci .u32 x_7, ci .u32 x_8]] ?_ (fun c_11_16 => ?_)
                                     · refine SD.all2 (i := 1) (j := 6) (by kernel_rfl) ?_ ?_
                                       · refine SW.eff D_11 (i := 1) (v := vi .u32 x_8) (bs' := [I, I, I, I, I, I, O, O, O, O, O, O]) rfl (.inl rfl) rfl (e_val tk (by kernel_rfl)) (by kernel_rfl) rfl (by kernel_rfl) ?_
                                         exact SD.vie D_11 [.g 0] c_11_4 (by kernel_rfl)
                                       · refine SW.eff D_11 (i := 6) (bs' := [I, O, I, I, I, I, I, O, O, O, O, O]) rfl (.inl rfl) rfl (e_ixa (off := 1) (T := 172) (cs := [ci .u32 x_7, ci .u32 x_8]) tk rfl rfl (by kernel_rfl) (by kernel_rfl)) (by kernel_rfl) rfl (by kernel_rfl) ?_
                                         exact SD.vie D_11 [.g 0] c_11_15 (by kernel_rfl)
                                     · refine SD.lay 5 [I, O, I, O, I, I, I, I, I, O, O, O] [(0, vi .u64 k_1), (5, vp 0 0), (9, vi .i64 x_9), (12, vp 0 1), (14, vp 0 0), (20, vi .u32 x_652)] [.blk 172 [ci .u32 x_7, ci .u32 x_8]] ?_ (fun c_11_17 => ?_)
                                       · refine SD.all2 (i := 1) (j := 3) (by kernel_rfl) ?_ ?_
                                         · refine SW.eff D_11 (i := 1) (v := vi .u32 x_8) (bs' := [I, I, I, O, I, I, I, I, I, O, O, O]) rfl (.inl rfl) rfl (e_val tk (by kernel_rfl)) (by kernel_rfl) rfl (by kernel_rfl) ?_
                                           exact SD.vie D_11 [.g 0] c_11_5 (by kernel_rfl)
                                         · refine SW.eff D_11 (i := 3) (v := vi .u32 x_7) (bs' := [I, O, I, I, I, I, I, I, I, O, O, O]) rfl (.inl rfl) rfl (e_val tk (by kernel_rfl)) (by kernel_rfl) rfl (by kernel_rfl) ?_
                                           refine SD.takes tk D_11 [] kn0 [9] [] [] [I, O, I, I, I, I, I, I, I, I, O, O] [(0, vi .u64 k_1), (5, vp 0 0), (9, vi .i64 x_9), (12, vp 0 1), (21, vi .u32 (ixor .u32 x_7 x_652))] rfl (by kernel_rfl) (by kernel_rfl) (by kernel_rfl) ?_
                                           exact SD.vie D_11 [.g 0] c_11_13 (by kernel_rfl)
                                       · refine SD.lay 6 [I, O, I, O, I, I, I, I, O, O, O, O] [(0, vi .u64 k_1), (5, vp 0 0), (9, vi .i64 x_9), (12, vp 0 1), (14, vp 0 0), (16, vi .u64 k_1), (17, vi .i64 x_9), (19, vi .u32 x_8)] [.blk 172 [ci .u32 x_7, ci .u32 x_8]] ?_ (fun c_11_18 => ?_)
                                         · refine SD.all3 (i := 1) (j := 3) (k := 8) (by kernel_rfl) ?_ ?_ ?_
                                           · refine SW.eff D_11 (i := 1) (v := vi .u32 x_8) (bs' := [I, I, I, O, I, I, I, I, O, O, O, O]) rfl (.inl rfl) rfl (e_val tk (by kernel_rfl)) (by kernel_rfl) rfl (by kernel_rfl) ?_
                                             exact SD.vie D_11 [.g 0] c_11_6 (by kernel_rfl)
                                           · refine SW.eff D_11 (i := 3) (v := vi .u32 x_7) (bs' := [I, O, I, I, I, I, I, I, O, O, O, O]) rfl (.inl rfl) rfl (e_val tk (by kernel_rfl)) (by kernel_rfl) rfl (by kernel_rfl) ?_
                                             exact SD.vie D_11 [.g 0] c_11_14 (by kernel_rfl)
                                           · refine SW.eff D_11 (i := 8) (bs' := [I, O, I, O, I, I, I, I, I, O, O, O]) rfl (.inl rfl) rfl (e_c Tryd.call120 (ok_block_Round F k_1 x_9 x_8 _ e_x_652) [] [vi .u64 k_1, vi .i64 x_9, vi .u32 x_8] (vi .u32 x_652) (by kernel_rfl) (.inl rfl)) (by kernel_rfl) rfl (by kernel_rfl) ?_
                                             exact SD.vie D_11 [.g 0] c_11_17 (by kernel_rfl)
                                         · refine SD.lay 7 [I, O, I, O, I, I, I, O, O, O, O, O] [(0, vi .u64 k_1), (5, vp 0 0), (9, vi .i64 x_9), (12, vp 0 1), (14, vp 0 0), (16, vi .u64 k_1), (17, vi .i64 x_9), (18, vp 0 1)] [.blk 172 [ci .u32 x_7, ci .u32 x_8]] ?_ (fun c_11_19 => ?_)
                                           · refine SD.all3 (i := 1) (j := 3) (k := 7) (by kernel_rfl) ?_ ?_ ?_
                                             · refine SW.eff D_11 (i := 1) (v := vi .u32 x_8) (bs' := [I, I, I, O, I, I, I, O, O, O, O, O]) rfl (.inl rfl) rfl (e_val tk (by kernel_rfl)) (by kernel_rfl) rfl (by kernel_rfl) ?_
                                               exact SD.vie D_11 [.g 0] c_11_7 (by kernel_rfl)
                                             · refine SW.eff D_11 (i := 3) (v := vi .u32 x_7) (bs' := [I, O, I, I, I, I, I, O, O, O, O, O]) rfl (.inl rfl) rfl (e_val tk (by kernel_rfl)) (by kernel_rfl) rfl (by kernel_rfl) ?_
                                               exact SD.vie D_11 [.g 0] c_11_15 (by kernel_rfl)
                                             · refine SW.eff D_11 (i := 7) (v := vi .u32 x_8) (bs' := [I, O, I, O, I, I, I, I, O, O, O, O]) rfl (.inl rfl) rfl (e_val tk (by kernel_rfl)) (by kernel_rfl) rfl (by kernel_rfl) ?_
                                               exact SD.vie D_11 [.g 0] c_11_18 (by kernel_rfl)
                                           · refine SD.lay 8 [I, O, I, O, I, I, O, O, O, O, O, O] [(0, vi .u64 k_1), (5, vp 0 0), (9, vi .i64 x_9), (12, vp 0 1), (14, vp 0 0), (16, vi .u64 k_1), (17, vi .i64 x_9)] [.blk 172 [ci .u32 x_7, ci .u32 x_8]] ?_ (fun c_11_20 => ?_)
                                             · refine SD.all3 (i := 1) (j := 3) (k := 6) (by kernel_rfl) ?_ ?_ ?_
                                               · refine SW.eff D_11 (i := 1) (v := vi .u32 x_8) (bs' := [I, I, I, O, I, I, O, O, O, O, O, O]) rfl (.inl rfl) rfl (e_val tk (by kernel_rfl)) (by kernel_rfl) rfl (by kernel_rfl) ?_
                                                 exact SD.vie D_11 [.g 0] c_11_8 (by kernel_rfl)
                                               · refine SW.eff D_11 (i := 3) (v := vi .u32 x_7) (bs' := [I, O, I, I, I, I, O, O, O, O, O, O]) rfl (.inl rfl) rfl (e_val tk (by kernel_rfl)) (by kernel_rfl) rfl (by kernel_rfl) ?_
                                                 exact SD.vie D_11 [.g 0] c_11_16 (by kernel_rfl)
                                               · refine SW.eff D_11 (i := 6) (bs' := [I, O, I, O, I, I, I, O, O, O, O, O]) rfl (.inl rfl) rfl (e_ixa (off := 1) (T := 172) (cs := [ci .u32 x_7, ci .u32 x_8]) tk rfl rfl (by kernel_rfl) (by kernel_rfl)) (by kernel_rfl) rfl (by kernel_rfl) ?_
                                                 exact SD.vie D_11 [.g 0] c_11_19 (by kernel_rfl)
                                             · refine SD.lay 6 [I, O, O, O, I, I, I, I, I, O, O, O] [(0, vi .u64 k_1), (5, vp 0 0), (9, vi .i64 x_9), (12, vp 0 1), (20, vi .u32 x_652)] [.blk 172 [ci .u32 x_7, ci .u32 x_8]] ?_ (fun c_11_21 => ?_)
                                               · refine SD.all2 (i := 1) (j := 2) (by kernel_rfl) ?_ ?_
                                                 · refine SW.eff D_11 (i := 1) (v := vi .u32 x_8) (bs' := [I, I, O, O, I, I, I, I, I, O, O, O]) rfl (.inl rfl) rfl (e_val tk (by kernel_rfl)) (by kernel_rfl) rfl (by kernel_rfl) ?_
                                                   exact SD.vie D_11 [.g 0] c_11_9 (by kernel_rfl)
                                                 · refine SW.eff D_11 (i := 2) (bs' := [I, O, I, O, I, I, I, I, I, O, O, O]) rfl (.inl rfl) rfl (e_ixa (off := 0) (T := 172) (cs := [ci .u32 x_7, ci .u32 x_8]) tk rfl rfl (by kernel_rfl) (by kernel_rfl)) (by kernel_rfl) rfl (by kernel_rfl) ?_
                                                   exact SD.vie D_11 [.g 0] c_11_17 (by kernel_rfl)
                                               · refine SD.lay 7 [I, O, O, O, I, I, I, I, O, O, O, O] [(0, vi .u64 k_1), (5, vp 0 0), (9, vi .i64 x_9), (12, vp 0 1), (16, vi .u64 k_1), (17, vi .i64 x_9), (19, vi .u32 x_8)] [.blk 172 [ci .u32 x_7, ci .u32 x_8]] ?_ (fun c_11_22 => ?_)
                                                 · refine SD.all3 (i := 1) (j := 2) (k := 8) (by kernel_rfl) ?_ ?_ ?_
                                                   · refine SW.eff D_11 (i := 1) (v := vi .u32 x_8) (bs' := [I, I, O, O, I, I, I, I, O, O, O, O]) rfl (.inl rfl) rfl (e_val tk (by kernel_rfl)) (by kernel_rfl) rfl (by kernel_rfl) ?_
                                                     exact SD.vie D_11 [.g 0] c_11_10 (by kernel_rfl)
                                                   · refine SW.eff D_11 (i := 2) (bs' := [I, O, I, O, I, I, I, I, O, O, O, O]) rfl (.inl rfl) rfl (e_ixa (off := 0) (T := 172) (cs := [ci .u32 x_7, ci .u32 x_8]) tk rfl rfl (by kernel_rfl) (by kernel_rfl)) (by kernel_rfl) rfl (by kernel_rfl) ?_
                                                     exact SD.vie D_11 [.g 0] c_11_18 (by kernel_rfl)
                                                   · refine SW.eff D_11 (i := 8) (bs' := [I, O, O, O, I, I, I, I, I, O, O, O]) rfl (.inl rfl) rfl (e_c Tryd.call120 (ok_block_Round F k_1 x_9 x_8 _ e_x_652) [] [vi .u64 k_1, vi .i64 x_9, vi .u32 x_8] (vi .u32 x_652) (by kernel_rfl) (.inl rfl)) (by kernel_rfl) rfl (by kernel_rfl) ?_
                                                     exact SD.vie D_11 [.g 0] c_11_21 (by kernel_rfl)
                                                 · refine SD.lay 8 [I, O, O, O, I, I, I, O, O, O, O, O] [(0, vi .u64 k_1), (5, vp 0 0), (9, vi .i64 x_9), (12, vp 0 1), (16, vi .u64 k_1), (17, vi .i64 x_9), (18, vp 0 1)] [.blk 172 [ci .u32 x_7, ci .u32 x_8]] ?_ (fun c_11_23 => ?_)
                                                   · refine SD.all3 (i := 1) (j := 2) (k := 7) (by kernel_rfl) ?_ ?_ ?_
                                                     · refine SW.eff D_11 (i := 1) (v := vi .u32 x_8) (bs' := [I, I, O, O, I, I, I, O, O, O, O, O]) rfl (.inl rfl) rfl (e_val tk (by kernel_rfl)) (by kernel_rfl) rfl (by kernel_rfl) ?_
                                                       exact SD.vie D_11 [.g 0] c_11_11 (by kernel_rfl)
                                                     · refine SW.eff D_11 (i := 2) (bs' := [I, O, I, O, I, I, I, O, O, O, O, O]) rfl (.inl rfl) rfl (e_ixa (off := 0) (T := 172) (cs := [ci .u32 x_7, ci .u32 x_8]) tk rfl rfl (by kernel_rfl) (by kernel_rfl)) (by kernel_rfl) rfl (by kernel_rfl) ?_
                                                       exact SD.vie D_11 [.g 0] c_11_19 (by kernel_rfl)
                                                     · refine SW.eff D_11 (i := 7) (v := vi .u32 x_8) (bs' := [I, O, O, O, I, I, I, I, O, O, O, O]) rfl (.inl rfl) rfl (e_val tk (by kernel_rfl)) (by kernel_rfl) rfl (by kernel_rfl) ?_
                                                       exact SD.vie D_11 [.g 0] c_11_22 (by kernel_rfl)
                                                   · refine SD.lay 9 [I, O, O, O, I, I, O, O, O, O, O, O] [(0, vi .u64 k_1), (5, vp 0 0), (9, vi .i64 x_9), (12, vp 0 1), (16, vi .u64 k_1), (17, vi .i64 x_9)] [.blk 172 [ci .u32 x_7, ci .u32 x_8]] ?_ (fun c_11_24 => ?_)
                                                     · refine SD.all3 (i := 1) (j := 2) (k := 6) (by kernel_rfl) ?_ ?_ ?_
                                                       · refine SW.eff D_11 (i := 1) (v := vi .u32 x_8) (bs' := [I, I, O, O, I, I, O, O, O, O, O, O]) rfl (.inl rfl) rfl (e_val tk (by kernel_rfl)) (by kernel_rfl) rfl (by kernel_rfl) ?_
                                                         exact SD.vie D_11 [.g 0] c_11_12 (by kernel_rfl)
                                                       · refine SW.eff D_11 (i := 2) (bs' := [I, O, I, O, I, I, O, O, O, O, O, O]) rfl (.inl rfl) rfl (e_ixa (off := 0) (T := 172) (cs := [ci .u32 x_7, ci .u32 x_8]) tk rfl rfl (by kernel_rfl) (by kernel_rfl)) (by kernel_rfl) rfl (by kernel_rfl) ?_
                                                         exact SD.vie D_11 [.g 0] c_11_20 (by kernel_rfl)
                                                       · refine SW.eff D_11 (i := 6) (bs' := [I, O, O, O, I, I, I, O, O, O, O, O]) rfl (.inl rfl) rfl (e_ixa (off := 1) (T := 172) (cs := [ci .u32 x_7, ci .u32 x_8]) tk rfl rfl (by kernel_rfl) (by kernel_rfl)) (by kernel_rfl) rfl (by kernel_rfl) ?_
                                                         exact SD.vie D_11 [.g 0] c_11_23 (by kernel_rfl)
                                                     · refine SD.lay 4 [O, O, I, I, I, I, I, I, I, I, O, O] [(0, vi .u64 k_1), (5, vp 0 0), (9, vi .i64 x_9), (21, vi .u32 (ixor .u32 x_7 x_652))] [.blk 172 [ci .u32 x_7, ci .u32 x_8]] ?_ (fun c_11_25 => ?_)
                                                       · refine SD.all1 (i := 0) (by kernel_rfl) ?_
                                                         refine SW.eff D_11 (i := 0) (bs' := [I, O, I, I, I, I, I, I, I, I, O, O]) rfl (.inl rfl) rfl (e_ixa (off := 1) (T := 172) (cs := [ci .u32 x_7, ci .u32 x_8]) tk rfl rfl (by kernel_rfl) (by kernel_rfl)) (by kernel_rfl) rfl (by kernel_rfl) ?_
                                                         exact SD.vie D_11 [.g 0] c_11_13 (by kernel_rfl)
                                                       · refine SD.lay 6 [O, O, I, I, I, I, I, I, O, O, O, O] [(0, vi .u64 k_1), (5, vp 0 0), (9, vi .i64 x_9), (15, vi .u32 x_7), (16, vi .u64 k_1), (17, vi .i64 x_9), (19, vi .u32 x_8)] [.blk 172 [ci .u32 x_7, ci .u32 x_8]] ?_ (fun c_11_26 => ?_)
                                                         · refine SD.all2 (i := 0) (j := 8) (by kernel_rfl) ?_ ?_
                                                           · refine SW.eff D_11 (i := 0) (bs' := [I, O, I, I, I, I, I, I, O, O, O, O]) rfl (.inl rfl) rfl (e_ixa (off := 1) (T := 172) (cs := [ci .u32 x_7, ci .u32 x_8]) tk rfl rfl (by kernel_rfl) (by kernel_rfl)) (by kernel_rfl) rfl (by kernel_rfl) ?_
                                                             exact SD.vie D_11 [.g 0] c_11_14 (by kernel_rfl)
                                                           · refine SW.eff D_11 (i := 8) (bs' := [O, O, I, I, I, I, I, I, I, O, O, O]) rfl (.inl rfl) rfl (e_c Tryd.call120 (ok_block_Round F k_1 x_9 x_8 _ e_x_652) [] [vi .u64 k_1, vi .i64 x_9, vi .u32 x_8] (vi .u32 x_652) (by kernel_rfl) (.inl rfl)) (by kernel_rfl) rfl (by kernel_rfl) ?_
                                                             refine SD.takes tk D_11 [] kn0 [9] [] [] [O, O, I, I, I, I, I, I, I, I, O, O] [(0, vi .u64 k_1), (5, vp 0 0), (9, vi .i64 x_9), (21, vi .u32 (ixor .u32 x_7 x_652))] rfl (by kernel_rfl) (by kernel_rfl) (by kernel_rfl) ?_
                                                             exact SD.vie D_11 [.g 0] c_11_25 (by kernel_rfl)
                                                         · refine SD.lay 7 [O, O, I, I, I, I, I, O, O, O, O, O] [(0, vi .u64 k_1), (5, vp 0 0), (9, vi .i64 x_9), (15, vi .u32 x_7), (16, vi .u64 k_1), (17, vi .i64 x_9), (18, vp 0 1)] [.blk 172 [ci .u32 x_7, ci .u32 x_8]] ?_ (fun c_11_27 => ?_)
                                                           · refine SD.all2 (i := 0) (j := 7) (by kernel_rfl) ?_ ?_
                                                             · refine SW.eff D_11 (i := 0) (bs' := [I, O, I, I, I, I, I, O, O, O, O, O]) rfl (.inl rfl) rfl (e_ixa (off := 1) (T := 172) (cs := [ci .u32 x_7, ci .u32 x_8]) tk rfl rfl (by kernel_rfl) (by kernel_rfl)) (by kernel_rfl) rfl (by kernel_rfl) ?_
                                                               exact SD.vie D_11 [.g 0] c_11_15 (by kernel_rfl)
                                                             · refine SW.eff D_11 (i := 7) (v := vi .u32 x_8) (bs' := [O, O, I, I, I, I, I, I, O, O, O, O]) rfl (.inl rfl) rfl (e_val tk (by kernel_rfl)) (by kernel_rfl) rfl (by kernel_rfl) ?_
                                                               exact SD.vie D_11 [.g 0] c_11_26 (by kernel_rfl)
                                                           · refine SD.lay 8 [O, O, I, I, I, I, O, O, O, O, O, O] [(0, vi .u64 k_1), (5, vp 0 0), (9, vi .i64 x_9), (15, vi .u32 x_7), (16, vi .u64 k_1), (17, vi .i64 x_9)] [.blk 172 [ci .u32 x_7, ci .u32 x_8]] ?_ (fun c_11_28 => ?_)
                                                             · refine SD.all2 (i := 0) (j := 6) (by kernel_rfl) ?_ ?_
                                                               · refine SW.eff D_11 (i := 0) (bs' := [I, O, I, I, I, I, O, O, O, O, O, O]) rfl (.inl rfl) rfl (e_ixa (off := 1) (T := 172) (cs := [ci .u32 x_7, ci .u32 x_8]) tk rfl rfl (by kernel_rfl) (by kernel_rfl)) (by kernel_rfl) rfl (by kernel_rfl) ?_
                                                                 exact SD.vie D_11 [.g 0] c_11_16 (by kernel_rfl)
                                                               · refine SW.eff D_11 (i := 6) (bs' := [O, O, I, I, I, I, I, O, O, O, O, O]) rfl (.inl rfl) rfl (e_ixa (off := 1) (T := 172) (cs := [ci .u32 x_7, ci .u32 x_8]) tk rfl rfl (by kernel_rfl) (by kernel_rfl)) (by kernel_rfl) rfl (by kernel_rfl) ?_
                                                                 exact SD.vie D_11 [.g 0] c_11_27 (by kernel_rfl)
                                                             · refine SD.lay 6 [O, O, I, O, I, I, I, I, I, O, O, O] [(0, vi .u64 k_1), (5, vp 0 0), (9, vi .i64 x_9), (14, vp 0 0), (20, vi .u32 x_652)] [.blk 172 [ci .u32 x_7, ci .u32 x_8]] ?_ (fun c_11_29 => ?_)
                                                               · refine SD.all2 (i := 0) (j := 3) (by kernel_rfl) ?_ ?_
                                                                 · refine SW.eff D_11 (i := 0) (bs' := [I, O, I, O, I, I, I, I, I, O, O, O]) rfl (.inl rfl) rfl (e_ixa (off := 1) (T := 172) (cs := [ci .u32 x_7, ci .u32 x_8]) tk rfl rfl (by kernel_rfl) (by kernel_rfl)) (by kernel_rfl) rfl (by kernel_rfl) ?_
                                                                   exact SD.vie D_11 [.g 0] c_11_17 (by kernel_rfl)
                                                                 · refine SW.eff D_11 (i := 3) (v := vi .u32 x_7) (bs' := [O, O, I, I, I, I, I, I, I, O, O, O]) rfl (.inl rfl) rfl (e_val tk (by kernel_rfl)) (by kernel_rfl) rfl (by kernel_rfl) ?_
                                                                   refine SD.takes tk D_11 [] kn0 [9] [] [] [O, O, I, I, I, I, I, I, I, I, O, O] [(0, vi .u64 k_1), (5, vp 0 0), (9, vi .i64 x_9), (21, vi .u32 (ixor .u32 x_7 x_652))] rfl (by kernel_rfl) (by kernel_rfl) (by kernel_rfl) ?_
                                                                   exact SD.vie D_11 [.g 0] c_11_25 (by kernel_rfl)
                                                               · refine SD.lay 7 [O, O, I, O, I, I, I, I, O, O, O, O] [(0, vi .u64 k_1), (5, vp 0 0), (9, vi .i64 x_9), (14, vp 0 0), (16, vi .u64 k_1), (17, vi .i64 x_9), (19, vi .u32 x_8)] [.blk 172 [ci .u32 x_7, ci .u32 x_8]] ?_ (fun c_11_30 => ?_)
                                                                 · refine SD.all3 (i := 0) (j := 3) (k := 8) (by kernel_rfl) ?_ ?_ ?_
                                                                   · refine SW.eff D_11 (i := 0) (bs' := [I, O, I, O, I, I, I, I, O, O, O, O]) rfl (.inl rfl) rfl (e_ixa (off := 1) (T := 172) (cs := [ci .u32 x_7, ci .u32 x_8]) tk rfl rfl (by kernel_rfl) (by kernel_rfl)) (by kernel_rfl) rfl (by kernel_rfl) ?_
                                                                     exact SD.vie D_11 [.g 0] c_11_18 (by kernel_rfl)
                                                                   · refine SW.eff D_11 (i := 3) (v := vi .u32 x_7) (bs' := [O, O, I, I, I, I, I, I, O, O, O, O]) rfl (.inl rfl) rfl (e_val tk (by kernel_rfl)) (by kernel_rfl) rfl (by kernel_rfl) ?_
                                                                     exact SD.vie D_11 [.g 0] c_11_26 (by kernel_rfl)
                                                                   · refine SW.eff D_11 (i := 8) (bs' := [O, O, I, O, I, I, I, I, I, O, O, O]) rfl (.inl rfl) rfl (e_c Tryd.call120 (ok_block_Round F k_1 x_9 x_8 _ e_x_652) [] [vi .u64 k_1, vi .i64 x_9, vi .u32 x_8] (vi .u32 x_652) (by kernel_rfl) (.inl rfl)) (by kernel_rfl) rfl (by kernel_rfl) ?_
                                                                     exact SD.vie D_11 [.g 0] c_11_29 (by kernel_rfl)
                                                                 · refine SD.lay 8 [O, O, I, O, I, I, I, O, O, O, O, O] [(0, vi .u64 k_1), (5, vp 0 0), (9, vi .i64 x_9), (14, vp 0 0), (16, vi .u64 k_1), (17, vi .i64 x_9), (18, vp 0 1)] [.blk 172 [ci .u32 x_7, ci .u32 x_8]] ?_ (fun c_11_31 => ?_)
                                                                   · refine SD.all3 (i := 0) (j := 3) (k := 7) (by kernel_rfl) ?_ ?_ ?_
                                                                     · refine SW.eff D_11 (i := 0) (bs' := [I, O, I, O, I, I, I, O, O, O, O, O]) rfl (.inl rfl) rfl (e_ixa (off := 1) (T := 172) (cs := [ci .u32 x_7, ci .u32 x_8]) tk rfl rfl (by kernel_rfl) (by kernel_rfl)) (by kernel_rfl) rfl (by kernel_rfl) ?_
                                                                       exact SD.vie D_11 [.g 0] c_11_19 (by kernel_rfl)
                                                                     · refine SW.eff D_11 (i := 3) (v := vi .u32 x_7) (bs' := [O, O, I, I, I, I, I, O, O, O, O, O]) rfl (.inl rfl) rfl (e_val tk (by kernel_rfl)) (by kernel_rfl) rfl (by kernel_rfl) ?_
                                                                       exact SD.vie D_11 [.g 0] c_11_27 (by kernel_rfl)
                                                                     · refine SW.eff D_11 (i := 7) (v := vi .u32 x_8) (bs' := [O, O, I, O, I, I, I, I, O, O, O, O]) rfl (.inl rfl) rfl (e_val tk (by kernel_rfl)) (by kernel_rfl) rfl (by kernel_rfl) ?_
                                                                       exact SD.vie D_11 [.g 0] c_11_30 (by kernel_rfl)
                                                                   · refine SD.lay 9 [O, O, I, O, I, I, O, O, O, O, O, O] [(0, vi .u64 k_1), (5, vp 0 0), (9, vi .i64 x_9), (14, vp 0 0), (16, vi .u64 k_1), (17, vi .i64 x_9)] [.blk 172 [ci .u32 x_7, ci .u32 x_8]] ?_ (fun c_11_32 => ?_)
                                                                     · refine SD.all3 (i := 0) (j := 3) (k := 6) (by kernel_rfl) ?_ ?_ ?_
                                                                       · refine SW.eff D_11 (i := 0) (bs' := [I, O, I, O, I, I, O, O, O, O, O, O]) rfl (.inl rfl) rfl (e_ixa (off := 1) (T := 172) (cs := [ci .u32 x_7, ci .u32 x_8]) tk rfl rfl (by kernel_rfl) (by kernel_rfl)) (by kernel_rfl) rfl (by kernel_rfl) ?_
                                                                         exact SD.vie D_11 [.g 0] c_11_20 (by kernel_rfl)
                                                                       · refine SW.eff D_11 (i := 3) (v := vi .u32 x_7) (bs' := [O, O, I, I, I, I, O, O, O, O, O, O]) rfl (.inl rfl) rfl (e_val tk (by kernel_rfl)) (by kernel_rfl) rfl (by kernel_rfl) ?_
                                                                         exact SD.vie D_11 [.g 0] c_11_28 (by kernel_rfl)
                                                                       · refine SW.eff D_11 (i := 6) (bs' := [O, O, I, O, I, I, I, O, O, O, O, O]) rfl (.inl rfl) rfl (e_ixa (off := 1) (T := 172) (cs := [ci .u32 x_7, ci .u32 x_8]) tk rfl rfl (by kernel_rfl) (by kernel_rfl)) (by kernel_rfl) rfl (by kernel_rfl) ?_
                                                                         exact SD.vie D_11 [.g 0] c_11_31 (by kernel_rfl)
                                                                     · refine SD.lay 7 [O, O, O, O, I, I, I, I, I, O, O, O] [(0, vi .u64 k_1), (5, vp 0 0), (9, vi .i64 x_9), (20, vi .u32 x_652)] [.blk 172 [ci .u32 x_7, ci .u32 x_8]] ?_ (fun c_11_33 => ?_)
                                                                       · refine SD.all2 (i := 0) (j := 2) (by kernel_rfl) ?_ ?_
                                                                         · refine SW.eff D_11 (i := 0) (bs' := [I, O, O, O, I, I, I, I, I, O, O, O]) rfl (.inl rfl) rfl (e_ixa (off := 1) (T := 172) (cs := [ci .u32 x_7, ci .u32 x_8]) tk rfl rfl (by kernel_rfl) (by kernel_rfl)) (by kernel_rfl) rfl (by kernel_rfl) ?_
                                                                           exact SD.vie D_11 [.g 0] c_11_21 (by kernel_rfl)
                                                                         · refine SW.eff D_11 (i := 2) (bs' := [O, O, I, O, I, I, I, I, I, O, O, O]) rfl (.inl rfl) rfl (e_ixa (off := 0) (T := 172) (cs := [ci .u32 x_7, ci .u32 x_8]) tk rfl rfl (by kernel_rfl) (by kernel_rfl)) (by kernel_rfl) rfl (by kernel_rfl) ?_
                                                                           exact SD.vie D_11 [.g 0] c_11_29 (by kernel_rfl)
                                                                       · refine SD.lay 8 [O, O, O, O, I, I, I, I, O, O, O, O] [(0, vi .u64 k_1), (5, vp 0 0), (9, vi .i64 x_9), (16, vi .u64 k_1), (17, vi .i64 x_9), (19, vi .u32 x_8)] [.blk 172 [ci .u32 x_7, ci .u32 x_8]] ?_ (fun c_11_34 => ?_)
                                                                         · refine SD.all3 (i := 0) (j := 2) (k := 8) (by kernel_rfl) ?_ ?_ ?_
                                                                           · refine SW.eff D_11 (i := 0) (bs' := [I, O, O, O, I, I, I, I, O, O, O, O]) rfl (.inl rfl) rfl (e_ixa (off := 1) (T := 172) (cs := [ci .u32 x_7, ci .u32 x_8]) tk rfl rfl (by kernel_rfl) (by kernel_rfl)) (by kernel_rfl) rfl (by kernel_rfl) ?_
                                                                             exact SD.vie D_11 [.g 0] c_11_22 (by kernel_rfl)
                                                                           · refine SW.eff D_11 (i := 2) (bs' := [O, O, I, O, I, I, I, I, O, O, O, O]) rfl (.inl rfl) rfl (e_ixa (off := 0) (T := 172) (cs := [ci .u32 x_7, ci .u32 x_8]) tk rfl rfl (by kernel_rfl) (by kernel_rfl)) (by kernel_rfl) rfl (by kernel_rfl) ?_
                                                                             exact SD.vie D_11 [.g 0] c_11_30 (by kernel_rfl)
                                                                           · refine SW.eff D_11 (i := 8) (bs' := [O, O, O, O, I, I, I, I, I, O, O, O]) rfl (.inl rfl) rfl (e_c Tryd.call120 (ok_block_Round F k_1 x_9 x_8 _ e_x_652) [] [vi .u64 k_1, vi .i64 x_9, vi .u32 x_8] (vi .u32 x_652) (by kernel_rfl) (.inl rfl)) (by kernel_rfl) rfl (by kernel_rfl) ?_
                                                                             exact SD.vie D_11 [.g 0] c_11_33 (by kernel_rfl)
                                                                         · refine SD.lay 9 [O, O, O, O, I, I, I, O, O, O, O, O] [(0, vi .u64 k_1), (5, vp 0 0), (9, vi .i64 x_9), (16, vi .u64 k_1), (17, vi .i64 x_9), (18, vp 0 1)] [.blk 172 [ci .u32 x_7, ci .u32 x_8]] ?_ (fun c_11_35 => ?_)
                                                                           · refine SD.all3 (i := 0) (j := 2) (k := 7) (by kernel_rfl) ?_ ?_ ?_
                                                                             · refine SW.eff D_11 (i := 0) (bs' := [I, O, O, O, I, I, I, O, O, O, O, O]) rfl (.inl rfl) rfl (e_ixa (off := 1) (T := 172) (cs := [ci .u32 x_7, ci .u32 x_8]) tk rfl rfl (by kernel_rfl) (by kernel_rfl)) (by kernel_rfl) rfl (by kernel_rfl) ?_
                                                                               exact SD.vie D_11 [.g 0] c_11_23 (by kernel_rfl)
                                                                             · refine SW.eff D_11 (i := 2) (bs' := [O, O, I, O, I, I, I, O, O, O, O, O]) rfl (.inl rfl) rfl (e_ixa (off := 0) (T := 172) (cs := [ci .u32 x_7, ci .u32 x_8]) tk rfl rfl (by kernel_rfl) (by kernel_rfl)) (by kernel_rfl) rfl (by kernel_rfl) ?_
                                                                               exact SD.vie D_11 [.g 0] c_11_31 (by kernel_rfl)
                                                                             · refine SW.eff D_11 (i := 7) (v := vi .u32 x_8) (bs' := [O, O, O, O, I, I, I, I, O, O, O, O]) rfl (.inl rfl) rfl (e_val tk (by kernel_rfl)) (by kernel_rfl) rfl (by kernel_rfl) ?_
                                                                               exact SD.vie D_11 [.g 0] c_11_34 (by kernel_rfl)
                                                                           · refine SD.all3 (i := 0) (j := 2) (k := 6) (by kernel_rfl) ?_ ?_ ?_
                                                                             · refine SW.eff D_11 (i := 0) (bs' := [I, O, O, O, I, I, O, O, O, O, O, O]) rfl (.inl rfl) rfl (e_ixa (off := 1) (T := 172) (cs := [ci .u32 x_7, ci .u32 x_8]) tk rfl rfl (by kernel_rfl) (by kernel_rfl)) (by kernel_rfl) rfl (by kernel_rfl) ?_
                                                                               exact SD.vie D_11 [.g 0] c_11_24 (by kernel_rfl)
                                                                             · refine SW.eff D_11 (i := 2) (bs' := [O, O, I, O, I, I, O, O, O, O, O, O]) rfl (.inl rfl) rfl (e_ixa (off := 0) (T := 172) (cs := [ci .u32 x_7, ci .u32 x_8]) tk rfl rfl (by kernel_rfl) (by kernel_rfl)) (by kernel_rfl) rfl (by kernel_rfl) ?_
                                                                               exact SD.vie D_11 [.g 0] c_11_32 (by kernel_rfl)
                                                                             · refine SW.eff D_11 (i := 6) (bs' := [O, O, O, O, I, I, I, O, O, O, O, O]) rfl (.inl rfl) rfl (e_ixa (off := 1) (T := 172) (cs := [ci .u32 x_7, ci .u32 x_8]) tk rfl rfl (by kernel_rfl) (by kernel_rfl)) (by kernel_rfl) rfl (by kernel_rfl) ?_
                                                                               exact SD.vie D_11 [.g 0] c_11_35 (by kernel_rfl)
   · refine SC.exitJ rfl fun a w h => ?_
     have ho := done_inv hp hs1
     replace hp := ho1
     try rw [ho] at hp
     exact ⟨x_7, x_8, hp, h.at (js := [.g 0]) (by kernel_rfl)⟩
 · rintro a w ⟨x_4, x_5, hp, h⟩
   refine h.go ?_
   refine SC.seq ?_
   refine SC.reg ?_
   refine SL.sim tk 1 [(24, .g [ci .u32 x_4, ci .u32 x_5])] [] [] [] (by kernel_rfl) ?_
   obtain ⟨x_6, e_x_6, hp⟩ := bind_inv hp
   refine SL.eff (e_c Tryd.call121 (ok_block_halves_join F (x_4, x_5) _ e_x_6) [] [.g [ci .u32 x_4, ci .u32 x_5]] (vi .u64 x_6) (by kernel_rfl) (.inl rfl)) rfl (by kernel_rfl) ?_
   refine SL.sim tk 1 [(4, vi .u64 x_6)] [] [] [] (by kernel_rfl) ?_
   refine SL.nilThen ?_
   obtain rfl := some_inv' hp
   exact SC.re (js := []) tk (by kernel_rfl)

theorem ok_mac_groups (p0 : (List Int)) : Spec Tryd.prog 115 [vs 0] [.rd 1 R8 p0] (.f 122 [.p 1 0]) [.rd 1 R8 p0, .blk 31 [.s 0]] := by
 refine Spec.enter Tryd.func115 rfl Tryd.ntmps115 rfl rfl fun fx => ?_
 refine SC.seq ?_
 refine SC.reg ?_
 refine SL.eff (e_box (E := 31) [.s 0] (by kernel_rfl)) rfl (by kernel_rfl) ?_
 refine SL.sim tk 1 [(1, vp 1 0)] [] [] [] (by kernel_rfl) ?_
 refine SL.nilThen ?_
 refine SC.seq ?_
 refine SC.reg ?_
 refine SL.sim tk 2 [(2, .f 122 [.p 1 0])] [] [] [] (by kernel_rfl) ?_
 refine SL.nilThen ?_
 exact SC.re (js := [.g 0, .g 1]) tk (by kernel_rfl)
end V
end Go.Proofs.YtbdhonofhlpdoaaDoor
