/-
  Walks, written by program: each Go function returns what its pure twin says.
-/
import Derived.Test.YtojcklkcjnnkaaaDoorRep
namespace Go.Proofs.YtojcklkcjnnkaaaDoor
namespace V
theorem ok_flash_fits (F : Nat) (size_1 : Int) (r : Bool) (hp : flash_fits F size_1 = some r) : Spec Tryd.prog 30 [vi .i64 size_1] [] (vb r) [] := by
 refine Spec.enter Tryd.func30 rfl Tryd.ntmps30 rfl rfl fun fx => ?_
 refine SC.r tk [(0, vi .i64 size_1)] [] [] [] (by kernel_rfl) ?_
 refine SC.r tk [(2, vb ((decide (size_1 ≥ 64)) && (decide (size_1 ≤ 65536))))] [] [] [] (by kernel_rfl) ?_
 obtain rfl := some_inv' hp
 exact SC.re (js := []) tk (by kernel_rfl)

theorem ok_flash_erased (F : Nat) (size_1 : Int) (r : (List Int)) (hp : flash_erased F size_1 = some r) : Spec Tryd.prog 31 [vi .i64 size_1] [] (vs 0) [.rd 1 R8 r] := by
 refine Spec.enter Tryd.func31 rfl Tryd.ntmps31 rfl rfl fun fx => ?_
 refine SC.r tk [(0, vi .i64 size_1)] [] [] [] (by kernel_rfl) ?_
 refine SC.seq ?_
 refine SC.reg ?_
 refine SL.sim tk 1 [(5, vi .i64 size_1)] [] [] [] (by kernel_rfl) ?_
 obtain ⟨l_2, e_l_2, hp⟩ := bind_inv hp
 refine SL.eff (e_make (sz := 1) (E := 5) (R := R8) tk rfl rfl rfl (fun _ _ => rfl) e_l_2 (by kernel_rfl)) rfl (by kernel_rfl) ?_
 refine SL.sim tk 1 [(3, vs 0)] [] [] [] (by kernel_rfl) ?_
 refine SL.nilThen ?_
 refine SC.cut (fun a w => ∃ (l_3 : (List Int)), flash_erased_j1 F l_3 = some r ∧ A 17 0 fx [(3, vs 0)] [.own 1 5 R8 l_3] a w) ?_ ?_
 · refine SC.r tk [(3, vs 0), (8, vi .i64 (len l_2)), (9, vi .i64 0)] [] [] [] (by kernel_rfl) ?_
   refine SC.block ?_
   obtain ⟨o1, hi1, ho1⟩ := bind_inv hp
   clear hp
   refine SC.loop (fun n a w => ∃ (l_4 : (List Int)) (x_5 : Int), iter (fun s => flash_erased_l1 F l_2 s.1 s.2) n (l_4, x_5) = some o1 ∧ A 17 0 fx [(3, vs 0), (8, vi .i64 (len l_2)), (9, vi .i64 x_5)] [.own 1 5 R8 l_4] a w) F (fun a w h => ⟨l_2, 0, hi1, h.at (js := [.g 0]) (by kernel_rfl)⟩) ?_
   rintro n1 a w ⟨l_4, x_5, hi1, h⟩
   obtain ⟨n1, q1, rfl, hp, hs1⟩ := iter_inv hi1
   replace hp : flash_erased_l1 F l_2 l_4 x_5 = some q1 := hp
   clear hi1
   refine h.go ?_
   refine SC.r tk [(3, vs 0), (8, vi .i64 (len l_2)), (9, vi .i64 x_5), (10, vb (decide (x_5 < (len l_2))))] [] [] [] (by kernel_rfl) ?_
   refine SC.seq ?_
   refine SC.if' rfl hp (fun hp => ?_) (fun hp => ?_)
   · refine SC.skipThen ?_
     refine SC.seq ?_
     refine SC.block ?_
     refine SC.r tk [(3, vs 0), (4, vi .i64 x_5), (8, vi .i64 (len l_2)), (9, vi .i64 x_5)] [] [] [] (by kernel_rfl) ?_
     refine SC.reg ?_
     obtain ⟨x_6, e_x_6, hp⟩ := bind_inv hp
     refine SL.pre (pre_ixo (i := 0) (iv := x_5) (sz := 1) (E := 5) (R := R8) (l := l_4) (by kernel_rfl) rfl e_x_6) ?_
     refine SL.sim tk 3 [(3, vs 0), (8, vi .i64 (len l_2)), (9, vi .i64 x_5), (14, vp 1 0)] [] [.el 1] [x_5] (by kernel_rfl) ?_
     obtain ⟨l_7, e_l_7, hp⟩ := bind_inv hp
     refine SL.eff0 (e_updf (sz := 1) (R := R8) (i := 0) (iv := x_5) (cs1 := [ci .u8 255]) (e := 255) tk rfl rfl rfl (by kernel_rfl) rfl rfl rfl Clo.int (by kernel_rfl) (by kernel_rfl) e_l_7) ?_
     refine SL.nilThen ?_
     refine SC.reg ?_
     refine SL.sim tk 2 [(3, vs 0), (8, vi .i64 (len l_2)), (9, vi .i64 (w64 (x_5 + 1)))] [] [] [] (by kernel_rfl) ?_
     refine SL.nilJ fun a w h => ?_
     exact ⟨n1, Nat.lt_succ_self _, l_7, w64 (x_5 + 1), next_inv hp hs1, h.at (js := [.g 0]) (by kernel_rfl)⟩
   refine SC.exitJ rfl fun a w h => ?_
   have ho := done_inv hp hs1
   replace hp := ho1
   try rw [ho] at hp
   exact ⟨l_4, hp, h.at (js := [.g 0]) (by kernel_rfl)⟩
 rintro a w ⟨l_3, hp, h⟩
 refine h.go ?_
 refine SC.r tk [(2, vs 0)] [] [] [] (by kernel_rfl) ?_
 obtain rfl := some_inv' hp
 exact SC.re (js := [.z 0]) tk (by kernel_rfl)

theorem ok_flash_Blank (F : Nat) (size_1 : Int) (r : T_api_Flash × Int) (hp : flash_Blank F size_1 = some r) : Spec Tryd.prog 9 [vi .i64 size_1] [] (.u [.inr [.s 0, .s 1], .inl (ci .i64 r.2)]) [.rd 1 R8 r.1.Banks.1, .rd 1 R8 r.1.Banks.2] := by
 refine Spec.enter Tryd.func9 rfl Tryd.ntmps9 rfl rfl fun fx => ?_
 refine SC.seq ?_
 refine SC.reg ?_
 refine SL.eff (e_alloc (E := 25) tk [nl, nl] (by kernel_rfl)) rfl (by kernel_rfl) ?_
 refine SL.sim tk 1 [(0, vi .i64 size_1), (2, vp 0 0)] [] [] [] (by kernel_rfl) ?_
 refine SL.nilThen ?_
 refine SC.seq ?_
 refine SC.seq ?_
 refine SC.reg ?_
 refine SL.sim tk 1 [(0, vi .i64 size_1), (2, vp 0 0), (4, vi .i64 size_1)] [] [] [] (by kernel_rfl) ?_
 obtain ⟨x_2, e_x_2, hp⟩ := bind_inv hp
 refine SL.eff (e_c Tryd.call30 (ok_flash_fits F size_1 _ e_x_2) [] [vi .i64 size_1] (vb x_2) (by kernel_rfl) (.inl rfl)) rfl (by kernel_rfl) ?_
 refine SL.sim tk 1 [(0, vi .i64 size_1), (2, vp 0 0), (6, vb (!x_2))] [] [] [] (by kernel_rfl) ?_
 refine SL.nilThen ?_
 refine SC.if' rfl hp (fun hp => ?_) (fun hp => ?_)
 · refine SC.r tk [(2, vp 0 0), (3, vi .i64 5)] [(0, 25, [nl, nl])] [] [] (by kernel_rfl) ?_
   obtain rfl := some_inv' hp
   exact SC.re (js := [.n, .n]) tk (by kernel_rfl)
 refine SC.skipThen ?_
 refine SC.seq ?_
 refine SC.reg ?_
 refine SL.sim tk 1 [(0, vi .i64 size_1), (2, vp 0 0), (8, vi .i64 size_1)] [] [] [] (by kernel_rfl) ?_
 obtain ⟨x_3, e_x_3, hp⟩ := bind_inv hp
 refine SL.eff (e_c Tryd.call31 (ok_flash_erased F size_1 _ e_x_3) [] [vi .i64 size_1] (vs 1) (by kernel_rfl) (.inl rfl)) rfl (by kernel_rfl) ?_
 refine SL.norm (itsN := [.blk 25 [nl, nl], .rd 1 R8 x_3]) (by kernel_rfl) ?_
 refine SL.sim tk 1 [(2, vp 0 0), (9, vs 1), (10, vi .i64 size_1)] [] [] [] (by kernel_rfl) ?_
 obtain ⟨x_4, e_x_4, hp⟩ := bind_inv hp
 refine SL.eff (e_c Tryd.call31 (ok_flash_erased F size_1 _ e_x_4) [] [vi .i64 size_1] (vs 2) (by kernel_rfl) (.inl rfl)) rfl (by kernel_rfl) ?_
 refine SL.sim tk 4 [(2, vp 0 0), (3, vi .i64 0)] [(0, 25, [.s 1, .s 2])] [] [] (by kernel_rfl) ?_
 refine SL.nilThen ?_
 obtain rfl := some_inv' hp
 exact SC.re (js := [.g 1, .g 2]) tk (by kernel_rfl)

theorem ok_octets_Join (F : Nat) (parts_1 : (List (List Int))) (r : (List Int)) (hp : octets_Join F parts_1 = some r) : Spec Tryd.prog 39 [vs 0] [.rd 1 (RSl 1 R8) parts_1] (vs 1) [.gone, .own 1 5 R8 r] := by
 refine Spec.enter Tryd.func39 rfl Tryd.ntmps39 rfl rfl fun fx => ?_
 refine SC.r tk [(0, vs 0)] [] [] [] (by kernel_rfl) ?_
 refine SC.r tk [(0, vs 0), (3, vn)] [] [] [] (by kernel_rfl) ?_
 refine SC.cut (fun a w => ∃ (l_2 : (List Int)), octets_Join_j1 F l_2 = some r ∧ A 17 1 fx [(3, vs 1)] [.gone, .own 1 5 R8 l_2] a w) ?_ ?_
 · refine SC.r tk [(3, vn), (6, vs 0), (7, vi .i64 (len parts_1)), (8, vi .i64 0)] [] [] [] (by kernel_rfl) ?_
   refine SC.block ?_
   obtain ⟨o1, hi1, ho1⟩ := bind_inv hp
   clear hp
   refine SC.loop (fun n a w => ∃ (l_3 : (List Int)) (x_4 : Int), iter (fun s => octets_Join_l1 F parts_1 s.1 s.2) n (l_3, x_4) = some o1 ∧ A 17 1 fx [(3, vs 1), (6, vs 0), (7, vi .i64 (len parts_1)), (8, vi .i64 x_4)] [.rd 1 (RSl 1 R8) parts_1, .own 1 5 R8 l_3] a w) F (fun a w h => ⟨[], 0, hi1, h.at (js := [.g 0, .n]) (by kernel_rfl)⟩) ?_
   rintro n1 a w ⟨l_3, x_4, hi1, h⟩
   obtain ⟨n1, q1, rfl, hp, hs1⟩ := iter_inv hi1
   replace hp : octets_Join_l1 F parts_1 l_3 x_4 = some q1 := hp
   clear hi1
   refine h.go ?_
   refine SC.r tk [(3, vs 1), (6, vs 0), (7, vi .i64 (len parts_1)), (8, vi .i64 x_4), (9, vb (decide (x_4 < (len parts_1))))] [] [] [] (by kernel_rfl) ?_
   refine SC.seq ?_
   refine SC.if' rfl hp (fun hp => ?_) (fun hp => ?_)
   · refine SC.skipThen ?_
     refine SC.seq ?_
     refine SC.block ?_
     obtain ⟨x_5, e_x_5, hp⟩ := bind_inv hp
     refine SC.pre (pre_ix (i := 0) (iv := x_4) (sz := 1) (R := (RSl 1 R8)) (l := parts_1) (by kernel_rfl) rfl e_x_5) ?_
     refine SC.r tk [(3, vs 1), (5, vs 3), (6, vs 0), (7, vi .i64 (len parts_1)), (8, vi .i64 x_4)] [] [.el 2] [x_4] (by kernel_rfl) ?_
     refine SC.reg ?_
     refine SL.sim tk 2 [(3, vs 1), (6, vs 0), (7, vi .i64 (len parts_1)), (8, vi .i64 x_4), (12, vs 1), (13, vs 3)] [] [] [] (by kernel_rfl) ?_
     obtain ⟨l_6, e_l_6, hp⟩ := bind_inv hp
     refine SL.eff (e_app (i := 1) (l := l_3) (sz := 1) (E := 5) (R := R8) (by_ := 1) (m := x_5) tk rfl (by kernel_rfl) rfl (.r (by kernel_rfl)) e_l_6 (by kernel_rfl)) rfl (by kernel_rfl) ?_
     refine SL.sim tk 1 [(3, vs 4), (6, vs 0), (7, vi .i64 (len parts_1)), (8, vi .i64 x_4)] [] [] [] (by kernel_rfl) ?_
     refine SL.nilThen ?_
     refine SC.reg ?_
     refine SL.sim tk 2 [(3, vs 4), (6, vs 0), (7, vi .i64 (len parts_1)), (8, vi .i64 (w64 (x_4 + 1)))] [] [] [] (by kernel_rfl) ?_
     refine SL.nilJ fun a w h => ?_
     exact ⟨n1, Nat.lt_succ_self _, l_6, w64 (x_4 + 1), next_inv hp hs1, h.at (js := [.g 0, .g 4]) (by kernel_rfl)⟩
   refine SC.exitJ rfl fun a w h => ?_
   have ho := done_inv hp hs1
   replace hp := ho1
   try rw [ho] at hp
   exact ⟨l_3, hp, h.at (js := [.g 0, .g 1]) (by kernel_rfl)⟩
 rintro a w ⟨l_2, hp, h⟩
 refine h.go ?_
 refine SC.r tk [(2, vs 1)] [] [] [] (by kernel_rfl) ?_
 obtain rfl := some_inv' hp
 exact SC.re (js := [.g 0, .g 1]) tk (by kernel_rfl)

theorem ok_flash_copied (F : Nat) (f_1 : T_api_Flash) (r : T_api_Flash) (hp : flash_copied F f_1 = some r) : Spec Tryd.prog 33 [.g [.s 0, .s 1]] [.rd 1 R8 f_1.Banks.1, .rd 1 R8 f_1.Banks.2] (.g [.s 2, .s 3]) [.gone, .gone, .own 1 5 R8 r.Banks.1, .own 1 5 R8 r.Banks.2] := by
 refine Spec.enter Tryd.func33 rfl Tryd.ntmps33 rfl rfl fun fx => ?_
 refine SC.seq ?_
 refine SC.reg ?_
 refine SL.eff (e_box (E := 25) [.s 0, .s 1] (by kernel_rfl)) rfl (by kernel_rfl) ?_
 refine SL.eff (e_alloc (E := 25) tk [nl, nl] (by kernel_rfl)) rfl (by kernel_rfl) ?_
 refine SL.nilThen ?_
 refine SC.cut (fun a w => ∃ (c_4 : T_api_Flash), flash_copied_j1 F c_4 = some r ∧ A 15 2 fx [(2, vp 2 0)] [.gone, .gone, .blk 25 [.s 3, .s 4], .own 1 5 R8 c_4.Banks.1, .own 1 5 R8 c_4.Banks.2] a w) ?_ ?_
 · refine SC.draw MO [true, true, true, false] (by kernel_rfl) fun kap_5 D_6 => ?_
   refine SD.takes tk D_6 [] kn0 [0, 5] [] [] (bm 13 33) [(2, vp 3 0), (3, vp 2 0), (8, vp 2 0)] rfl (by kernel_rfl) (by kernel_rfl) (by kernel_rfl) ?_
   obtain ⟨x_327, e_x_327, hp⟩ := bind_inv hp
   obtain ⟨x_727, e_x_727, hp⟩ := bind_inv hp
   refine SD.lay 0 (bm 13 8191) [(2, vp 3 0)] [.rd 1 R8 f_1.Banks.1, .rd 1 R8 f_1.Banks.2, .blk 25 [.s 0, .s 1], .blk 25 [.s 5, .s 7], .gone, .own 1 5 R8 x_327, .gone, .own 1 5 R8 x_727] ?_ (fun c_6_0 => ?_)
   · refine SD.done (by kernel_rfl) fun a w h => ?_
     exact ⟨(T_api_Flash.mk (x_327, x_727)), hp, h.at (js := [.g 0, .g 1, .g 3, .g 5, .g 7]) (by kernel_rfl)⟩
   refine SD.lay 1 (bm 13 4095) [(2, vp 3 0), (14, .g [.s 5, .s 7])] [.rd 1 R8 f_1.Banks.1, .rd 1 R8 f_1.Banks.2, .blk 25 [.s 0, .s 1], .blk 25 [nl, nl], .gone, .own 1 5 R8 x_327, .gone, .own 1 5 R8 x_727] ?_ (fun c_6_1 => ?_)
   · refine SD.all1 (i := 12) (by kernel_rfl) ?_
     refine SW.store D_6 tk (i := 12) (q := 3) (T := 25) (cs := [.s 5, .s 7]) (bs' := (bm 13 8191)) rfl (by kernel_rfl) rfl rfl (by kernel_rfl) ?_
     exact SD.vie D_6 [.g 0, .g 1, .g 2, .g 3, .n, .g 5, .n, .g 7] c_6_0 (by kernel_rfl)
   refine SD.lay 2 (bm 13 2047) [(2, vp 3 0), (13, .g [.s 5, .s 7])] [.rd 1 R8 f_1.Banks.1, .rd 1 R8 f_1.Banks.2, .blk 25 [.s 0, .s 1], .blk 25 [nl, nl], .gone, .own 1 5 R8 x_327, .gone, .own 1 5 R8 x_727] ?_ (fun c_6_2 => ?_)
   · refine SD.all1 (i := 11) (by kernel_rfl) ?_
     refine SW.eff D_6 (i := 11) (v := .g [.s 5, .s 7]) (bs' := (bm 13 4095)) rfl (.inl rfl) rfl (e_val tk (by kernel_rfl)) (by kernel_rfl) rfl (by kernel_rfl) ?_
     exact SD.vie D_6 [.g 0, .g 1, .g 2, .g 3, .n, .g 5, .n, .g 7] c_6_1 (by kernel_rfl)
   refine SD.lay 3 (bm 13 1023) [(2, vp 3 0), (7, vs 5), (12, vs 7)] [.rd 1 R8 f_1.Banks.1, .rd 1 R8 f_1.Banks.2, .blk 25 [.s 0, .s 1], .blk 25 [nl, nl], .gone, .own 1 5 R8 x_327, .gone, .own 1 5 R8 x_727] ?_ (fun c_6_3 => ?_)
   · refine SD.all1 (i := 10) (by kernel_rfl) ?_
     refine SW.eff D_6 (i := 10) (v := .g [.s 5, .s 7]) (bs' := (bm 13 2047)) rfl (.inl rfl) rfl (e_val tk (by kernel_rfl)) (by kernel_rfl) rfl (by kernel_rfl) ?_
     exact SD.vie D_6 [.g 0, .g 1, .g 2, .g 3, .n, .g 5, .n, .g 7] c_6_2 (by kernel_rfl)
   refine SD.lay 4 (bm 13 511) [(2, vp 3 0), (7, vs 5), (11, vs 6)] [.rd 1 R8 f_1.Banks.1, .rd 1 R8 f_1.Banks.2, .blk 25 [.s 0, .s 1], .blk 25 [nl, nl], .gone, .own 1 5 R8 x_327, .own 1 22 (RSl 1 R8) [f_1.Banks.2]] ?_ (fun c_6_4 => ?_)
   · refine SD.all1 (i := 9) (by kernel_rfl) ?_
     refine SW.eff D_6 (i := 9) (bs' := (bm 13 1023)) rfl (.inl rfl) rfl (e_c Tryd.call39 (ok_octets_Join F [f_1.Banks.2] _ e_x_727) [.l 6] [vs 6] (vs 7) (by kernel_rfl) (.inr ⟨trivial, ⟨Fl.int, trivial⟩, trivial⟩)) (by kernel_rfl) rfl (by kernel_rfl) ?_
     exact SD.vie D_6 [.g 0, .g 1, .g 2, .g 3, .n, .g 5, .n, .g 7] c_6_3 (by kernel_rfl)
   refine SD.lay 5 (bm 13 255) [(2, vp 3 0), (7, vs 5), (10, vs 1)] [.rd 1 R8 f_1.Banks.1, .rd 1 R8 f_1.Banks.2, .blk 25 [.s 0, .s 1], .blk 25 [nl, nl], .gone, .own 1 5 R8 x_327] ?_ (fun c_6_5 => ?_)
   · refine SD.all1 (i := 8) (by kernel_rfl) ?_
     refine SW.eff D_6 (i := 8) (bs' := (bm 13 511)) rfl (.inl rfl) rfl (e_lit (sz := 1) (E := 22) (R := (RSl 1 R8)) (by_ := 24) tk [[.s 1]] [f_1.Banks.2] (by kernel_rfl) ⟨(Clo.sl (by kernel_rfl)), trivial⟩ rfl (by kernel_rfl) (by kernel_rfl)) (by kernel_rfl) rfl (by kernel_rfl) ?_
     exact SD.vie D_6 [.g 0, .g 1, .g 2, .g 3, .n, .g 5, .g 6] c_6_4 (by kernel_rfl)
   refine SD.lay 7 (bm 13 63) [(2, vp 3 0), (7, vs 5), (8, vp 2 0)] [.rd 1 R8 f_1.Banks.1, .rd 1 R8 f_1.Banks.2, .blk 25 [.s 0, .s 1], .blk 25 [nl, nl], .gone, .own 1 5 R8 x_327] ?_ (fun c_6_6 => ?_)
   · refine SD.all1 (i := 6) (by kernel_rfl) ?_
     refine SW.eff D_6 (i := 6) (bs' := (bm 13 127)) rfl (.inl rfl) rfl (e_ixa (off := 1) (T := 25) (cs := [.s 0, .s 1]) tk rfl rfl (by kernel_rfl) (by kernel_rfl)) (by kernel_rfl) rfl (by kernel_rfl) ?_
     refine SD.takes tk D_6 [] kn0 [7] [] [] (bm 13 255) [(2, vp 3 0), (7, vs 5), (10, vs 1)] rfl (by kernel_rfl) (by kernel_rfl) (by kernel_rfl) ?_
     exact SD.vie D_6 [.g 0, .g 1, .g 2, .g 3, .n, .g 5] c_6_5 (by kernel_rfl)
   refine SD.lay 5 (bm 13 495) [(2, vp 3 0), (6, vs 4), (11, vs 5)] [.rd 1 R8 f_1.Banks.1, .rd 1 R8 f_1.Banks.2, .blk 25 [.s 0, .s 1], .blk 25 [nl, nl], .own 1 22 (RSl 1 R8) [f_1.Banks.1], .own 1 22 (RSl 1 R8) [f_1.Banks.2]] ?_ (fun c_6_7 => ?_)
   · refine SD.all1 (i := 4) (by kernel_rfl) ?_
     refine SW.eff D_6 (i := 4) (bs' := (bm 13 511)) rfl (.inl rfl) rfl (e_c Tryd.call39 (ok_octets_Join F [f_1.Banks.1] _ e_x_327) [.l 4] [vs 4] (vs 6) (by kernel_rfl) (.inr ⟨trivial, ⟨Fl.int, trivial⟩, trivial⟩)) (by kernel_rfl) rfl (by kernel_rfl) ?_
     exact SD.vie D_6 [.g 0, .g 1, .g 2, .g 3, .n, .g 6, .g 5] c_6_4 (by kernel_rfl)
   refine SD.lay 6 (bm 13 239) [(2, vp 3 0), (6, vs 4), (10, vs 1)] [.rd 1 R8 f_1.Banks.1, .rd 1 R8 f_1.Banks.2, .blk 25 [.s 0, .s 1], .blk 25 [nl, nl], .own 1 22 (RSl 1 R8) [f_1.Banks.1]] ?_ (fun c_6_8 => ?_)
   · refine SD.all2 (i := 4) (j := 8) (by kernel_rfl) ?_ ?_
     · refine SW.eff D_6 (i := 4) (bs' := (bm 13 255)) rfl (.inl rfl) rfl (e_c Tryd.call39 (ok_octets_Join F [f_1.Banks.1] _ e_x_327) [.l 4] [vs 4] (vs 5) (by kernel_rfl) (.inr ⟨trivial, ⟨Fl.int, trivial⟩, trivial⟩)) (by kernel_rfl) rfl (by kernel_rfl) ?_
       exact SD.vie D_6 [.g 0, .g 1, .g 2, .g 3, .n, .g 5] c_6_5 (by kernel_rfl)
     refine SW.eff D_6 (i := 8) (bs' := (bm 13 495)) rfl (.inl rfl) rfl (e_lit (sz := 1) (E := 22) (R := (RSl 1 R8)) (by_ := 24) tk [[.s 1]] [f_1.Banks.2] (by kernel_rfl) ⟨(Clo.sl (by kernel_rfl)), trivial⟩ rfl (by kernel_rfl) (by kernel_rfl)) (by kernel_rfl) rfl (by kernel_rfl) ?_
     exact SD.vie D_6 [.g 0, .g 1, .g 2, .g 3, .g 4, .g 5] c_6_7 (by kernel_rfl)
   refine SD.lay 8 (bm 13 47) [(2, vp 3 0), (6, vs 4), (8, vp 2 0)] [.rd 1 R8 f_1.Banks.1, .rd 1 R8 f_1.Banks.2, .blk 25 [.s 0, .s 1], .blk 25 [nl, nl], .own 1 22 (RSl 1 R8) [f_1.Banks.1]] ?_ (fun c_6_9 => ?_)
   · refine SD.all2 (i := 4) (j := 6) (by kernel_rfl) ?_ ?_
     · refine SW.eff D_6 (i := 4) (bs' := (bm 13 63)) rfl (.inl rfl) rfl (e_c Tryd.call39 (ok_octets_Join F [f_1.Banks.1] _ e_x_327) [.l 4] [vs 4] (vs 5) (by kernel_rfl) (.inr ⟨trivial, ⟨Fl.int, trivial⟩, trivial⟩)) (by kernel_rfl) rfl (by kernel_rfl) ?_
       exact SD.vie D_6 [.g 0, .g 1, .g 2, .g 3, .n, .g 5] c_6_6 (by kernel_rfl)
     refine SW.eff D_6 (i := 6) (bs' := (bm 13 111)) rfl (.inl rfl) rfl (e_ixa (off := 1) (T := 25) (cs := [.s 0, .s 1]) tk rfl rfl (by kernel_rfl) (by kernel_rfl)) (by kernel_rfl) rfl (by kernel_rfl) ?_
     refine SD.takes tk D_6 [] kn0 [7] [] [] (bm 13 239) [(2, vp 3 0), (6, vs 4), (10, vs 1)] rfl (by kernel_rfl) (by kernel_rfl) (by kernel_rfl) ?_
     exact SD.vie D_6 [.g 0, .g 1, .g 2, .g 3, .g 4] c_6_8 (by kernel_rfl)
   refine SD.lay 6 (bm 13 487) [(2, vp 3 0), (5, vs 0), (11, vs 4)] [.rd 1 R8 f_1.Banks.1, .rd 1 R8 f_1.Banks.2, .blk 25 [.s 0, .s 1], .blk 25 [nl, nl], .own 1 22 (RSl 1 R8) [f_1.Banks.2]] ?_ (fun c_6_10 => ?_)
   · refine SD.all1 (i := 3) (by kernel_rfl) ?_
     refine SW.eff D_6 (i := 3) (bs' := (bm 13 495)) rfl (.inl rfl) rfl (e_lit (sz := 1) (E := 22) (R := (RSl 1 R8)) (by_ := 24) tk [[.s 0]] [f_1.Banks.1] (by kernel_rfl) ⟨(Clo.sl (by kernel_rfl)), trivial⟩ rfl (by kernel_rfl) (by kernel_rfl)) (by kernel_rfl) rfl (by kernel_rfl) ?_
     exact SD.vie D_6 [.g 0, .g 1, .g 2, .g 3, .g 5, .g 4] c_6_7 (by kernel_rfl)
   refine SD.lay 7 (bm 13 231) [(2, vp 3 0), (5, vs 0), (10, vs 1)] [.rd 1 R8 f_1.Banks.1, .rd 1 R8 f_1.Banks.2, .blk 25 [.s 0, .s 1], .blk 25 [nl, nl]] ?_ (fun c_6_11 => ?_)
   · refine SD.all2 (i := 3) (j := 8) (by kernel_rfl) ?_ ?_
     · refine SW.eff D_6 (i := 3) (bs' := (bm 13 239)) rfl (.inl rfl) rfl (e_lit (sz := 1) (E := 22) (R := (RSl 1 R8)) (by_ := 24) tk [[.s 0]] [f_1.Banks.1] (by kernel_rfl) ⟨(Clo.sl (by kernel_rfl)), trivial⟩ rfl (by kernel_rfl) (by kernel_rfl)) (by kernel_rfl) rfl (by kernel_rfl) ?_
       exact SD.vie D_6 [.g 0, .g 1, .g 2, .g 3, .g 4] c_6_8 (by kernel_rfl)
     refine SW.eff D_6 (i := 8) (bs' := (bm 13 487)) rfl (.inl rfl) rfl (e_lit (sz := 1) (E := 22) (R := (RSl 1 R8)) (by_ := 24) tk [[.s 1]] [f_1.Banks.2] (by kernel_rfl) ⟨(Clo.sl (by kernel_rfl)), trivial⟩ rfl (by kernel_rfl) (by kernel_rfl)) (by kernel_rfl) rfl (by kernel_rfl) ?_
     exact SD.vie D_6 [.g 0, .g 1, .g 2, .g 3, .g 4] c_6_10 (by kernel_rfl)
   refine SD.lay 9 (bm 13 39) [(2, vp 3 0), (5, vs 0), (8, vp 2 0)] [.rd 1 R8 f_1.Banks.1, .rd 1 R8 f_1.Banks.2, .blk 25 [.s 0, .s 1], .blk 25 [nl, nl]] ?_ (fun c_6_12 => ?_)
   · refine SD.all2 (i := 3) (j := 6) (by kernel_rfl) ?_ ?_
     · refine SW.eff D_6 (i := 3) (bs' := (bm 13 47)) rfl (.inl rfl) rfl (e_lit (sz := 1) (E := 22) (R := (RSl 1 R8)) (by_ := 24) tk [[.s 0]] [f_1.Banks.1] (by kernel_rfl) ⟨(Clo.sl (by kernel_rfl)), trivial⟩ rfl (by kernel_rfl) (by kernel_rfl)) (by kernel_rfl) rfl (by kernel_rfl) ?_
       exact SD.vie D_6 [.g 0, .g 1, .g 2, .g 3, .g 4] c_6_9 (by kernel_rfl)
     refine SW.eff D_6 (i := 6) (bs' := (bm 13 103)) rfl (.inl rfl) rfl (e_ixa (off := 1) (T := 25) (cs := [.s 0, .s 1]) tk rfl rfl (by kernel_rfl) (by kernel_rfl)) (by kernel_rfl) rfl (by kernel_rfl) ?_
     refine SD.takes tk D_6 [] kn0 [7] [] [] (bm 13 231) [(2, vp 3 0), (5, vs 0), (10, vs 1)] rfl (by kernel_rfl) (by kernel_rfl) (by kernel_rfl) ?_
     exact SD.vie D_6 [.g 0, .g 1, .g 2, .g 3] c_6_11 (by kernel_rfl)
   refine SD.lay 8 (bm 13 481) [(2, vp 3 0), (3, vp 2 0), (11, vs 4)] [.rd 1 R8 f_1.Banks.1, .rd 1 R8 f_1.Banks.2, .blk 25 [.s 0, .s 1], .blk 25 [nl, nl], .own 1 22 (RSl 1 R8) [f_1.Banks.2]] ?_ (fun c_6_13 => ?_)
   · refine SD.all1 (i := 1) (by kernel_rfl) ?_
     refine SW.eff D_6 (i := 1) (bs' := (bm 13 483)) rfl (.inl rfl) rfl (e_ixa (off := 0) (T := 25) (cs := [.s 0, .s 1]) tk rfl rfl (by kernel_rfl) (by kernel_rfl)) (by kernel_rfl) rfl (by kernel_rfl) ?_
     refine SD.takes tk D_6 [] kn0 [2] [] [] (bm 13 487) [(2, vp 3 0), (5, vs 0), (11, vs 4)] rfl (by kernel_rfl) (by kernel_rfl) (by kernel_rfl) ?_
     exact SD.vie D_6 [.g 0, .g 1, .g 2, .g 3, .g 4] c_6_10 (by kernel_rfl)
   refine SD.lay 9 (bm 13 225) [(2, vp 3 0), (3, vp 2 0), (10, vs 1)] [.rd 1 R8 f_1.Banks.1, .rd 1 R8 f_1.Banks.2, .blk 25 [.s 0, .s 1], .blk 25 [nl, nl]] ?_ (fun c_6_14 => ?_)
   · refine SD.all2 (i := 1) (j := 8) (by kernel_rfl) ?_ ?_
     · refine SW.eff D_6 (i := 1) (bs' := (bm 13 227)) rfl (.inl rfl) rfl (e_ixa (off := 0) (T := 25) (cs := [.s 0, .s 1]) tk rfl rfl (by kernel_rfl) (by kernel_rfl)) (by kernel_rfl) rfl (by kernel_rfl) ?_
       refine SD.takes tk D_6 [] kn0 [2] [] [] (bm 13 231) [(2, vp 3 0), (5, vs 0), (10, vs 1)] rfl (by kernel_rfl) (by kernel_rfl) (by kernel_rfl) ?_
       exact SD.vie D_6 [.g 0, .g 1, .g 2, .g 3] c_6_11 (by kernel_rfl)
     refine SW.eff D_6 (i := 8) (bs' := (bm 13 481)) rfl (.inl rfl) rfl (e_lit (sz := 1) (E := 22) (R := (RSl 1 R8)) (by_ := 24) tk [[.s 1]] [f_1.Banks.2] (by kernel_rfl) ⟨(Clo.sl (by kernel_rfl)), trivial⟩ rfl (by kernel_rfl) (by kernel_rfl)) (by kernel_rfl) rfl (by kernel_rfl) ?_
     exact SD.vie D_6 [.g 0, .g 1, .g 2, .g 3, .g 4] c_6_13 (by kernel_rfl)
   refine SD.all2 (i := 1) (j := 6) (by kernel_rfl) ?_ ?_
   · refine SW.eff D_6 (i := 1) (bs' := (bm 13 35)) rfl (.inl rfl) rfl (e_ixa (off := 0) (T := 25) (cs := [.s 0, .s 1]) tk rfl rfl (by kernel_rfl) (by kernel_rfl)) (by kernel_rfl) rfl (by kernel_rfl) ?_
     refine SD.norm (itsN := [.rd 1 R8 f_1.Banks.1, .rd 1 R8 f_1.Banks.2, .blk 25 [.s 0, .s 1], .blk 25 [nl, nl]]) (by kernel_rfl) ?_
     refine SD.takes tk D_6 [] kn0 [2] [] [] (bm 13 39) [(2, vp 3 0), (5, vs 0), (8, vp 2 0)] rfl (by kernel_rfl) (by kernel_rfl) (by kernel_rfl) ?_
     exact SD.vie D_6 [.g 0, .g 1, .g 2, .g 3] c_6_12 (by kernel_rfl)
   refine SW.eff D_6 (i := 6) (bs' := (bm 13 97)) rfl (.inl rfl) rfl (e_ixa (off := 1) (T := 25) (cs := [.s 0, .s 1]) tk rfl rfl (by kernel_rfl) (by kernel_rfl)) (by kernel_rfl) rfl (by kernel_rfl) ?_
   refine SD.norm (itsN := [.rd 1 R8 f_1.Banks.1, .rd 1 R8 f_1.Banks.2, .blk 25 [.s 0, .s 1], .blk 25 [nl, nl]]) (by kernel_rfl) ?_
   refine SD.takes tk D_6 [] kn0 [7] [] [] (bm 13 225) [(2, vp 3 0), (3, vp 2 0), (10, vs 1)] rfl (by kernel_rfl) (by kernel_rfl) (by kernel_rfl) ?_
   exact SD.vie D_6 [.g 0, .g 1, .g 2, .g 3] c_6_14 (by kernel_rfl)
 rintro a w ⟨c_4, hp, h⟩
 refine h.go ?_
 obtain rfl := some_inv' hp
 exact SC.re (js := [.g 0, .g 1, .g 3, .g 4]) tk (by kernel_rfl)

theorem ok_flash_value (F : Nat) (b_1 : (List Int)) (r : Int) (hp : flash_value F b_1 = some r) : Spec Tryd.prog 51 [vs 0] [.rd 1 R8 b_1] (vi .i64 r) [.gone] := by
 refine Spec.enter Tryd.func51 rfl Tryd.ntmps51 rfl rfl fun fx => ?_
 refine SC.r tk [(0, vs 0)] [] [] [] (by kernel_rfl) ?_
 refine SC.r tk [(0, vs 0), (3, vi .i64 0)] [] [] [] (by kernel_rfl) ?_
 refine SC.cut (fun a w => ∃ (x_2 : Int), flash_value_j1 F x_2 = some r ∧ A 21 1 fx [(3, vi .i64 x_2)] [.gone] a w) ?_ ?_
 · refine SC.r tk [(0, vs 0), (3, vi .i64 0), (4, vi .i64 (w64 ((len b_1) - 1)))] [] [] [] (by kernel_rfl) ?_
   refine SC.block ?_
   obtain ⟨o1, hi1, ho1⟩ := bind_inv hp
   clear hp
   refine SC.loop (fun n a w => ∃ (x_3 : Int) (x_4 : Int), iter (fun s => flash_value_l1 F b_1 s.1 s.2) n (x_3, x_4) = some o1 ∧ A 21 1 fx [(0, vs 0), (3, vi .i64 x_3), (4, vi .i64 x_4)] [.rd 1 R8 b_1] a w) F (fun a w h => ⟨0, w64 ((len b_1) - 1), hi1, h.at (js := [.g 0]) (by kernel_rfl)⟩) ?_
   rintro n1 a w ⟨x_3, x_4, hi1, h⟩
   obtain ⟨n1, q1, rfl, hp, hs1⟩ := iter_inv hi1
   replace hp : flash_value_l1 F b_1 x_3 x_4 = some q1 := hp
   clear hi1
   refine h.go ?_
   refine SC.seq ?_
   refine SC.r tk [(0, vs 0), (3, vi .i64 x_3), (4, vi .i64 x_4), (9, vb (decide (x_4 ≥ 0)))] [] [] [] (by kernel_rfl) ?_
   refine SC.if' rfl hp (fun hp => ?_) (fun hp => ?_)
   · refine SC.skipThen ?_
     refine SC.seq ?_
     refine SC.block ?_
     refine SC.reg ?_
     obtain ⟨x_5, e_x_5, hp⟩ := bind_inv hp
     refine SL.pre (pre_ix (i := 0) (iv := x_4) (sz := 1) (R := R8) (l := b_1) (by kernel_rfl) rfl e_x_5) ?_
     refine SL.sim tk 9 [(0, vs 0), (3, vi .i64 (ior .i64 (shlp .i64 x_3 8) (w64 x_5))), (4, vi .i64 x_4)] [] [.bin .shl .i64 x_3 8 (shlp .i64 x_3 8) (by kernel_rfl), .el 1] [x_3, 8, x_4] (by kernel_rfl) ?_
     refine SL.nilThen ?_
     refine SC.reg ?_
     refine SL.sim tk 3 [(0, vs 0), (3, vi .i64 (ior .i64 (shlp .i64 x_3 8) (w64 x_5))), (4, vi .i64 (w64 (x_4 - 1)))] [] [] [] (by kernel_rfl) ?_
     refine SL.nilJ fun a w h => ?_
     exact ⟨n1, Nat.lt_succ_self _, ior .i64 (shlp .i64 x_3 8) (w64 x_5), w64 (x_4 - 1), next_inv hp hs1, h.at (js := [.g 0]) (by kernel_rfl)⟩
   refine SC.exitJ rfl fun a w h => ?_
   have ho := done_inv hp hs1
   replace hp := ho1
   try rw [ho] at hp
   exact ⟨x_3, hp, h.at (js := [.g 0]) (by kernel_rfl)⟩
 rintro a w ⟨x_2, hp, h⟩
 refine h.go ?_
 refine SC.r tk [(2, vi .i64 x_2)] [] [] [] (by kernel_rfl) ?_
 obtain rfl := some_inv' hp
 exact SC.re (js := [.g 0]) tk (by kernel_rfl)

theorem ok_octets_sized (F : Nat) (n_1 : Int) (r : Bool) (hp : octets_sized F n_1 = some r) : Spec Tryd.prog 73 [vi .i64 n_1] [] (vb r) [] := by
 refine Spec.enter Tryd.func73 rfl Tryd.ntmps73 rfl rfl fun fx => ?_
 refine SC.r tk [(0, vi .i64 n_1)] [] [] [] (by kernel_rfl) ?_
 refine SC.r tk [(2, vb ((decide (n_1 ≥ 1)) && (decide (n_1 ≤ 8))))] [] [] [] (by kernel_rfl) ?_
 obtain rfl := some_inv' hp
 exact SC.re (js := []) tk (by kernel_rfl)

theorem ok_octets_Put (F : Nat) (fields_1 : (List T_api_Field)) (r : (List Int) × Int) (hp : octets_Put F fields_1 = some r) : Spec Tryd.prog 67 [vs 0] [.rd 2 R_T_api_Field fields_1] (.u [.inl (.s 1), .inl (ci .i64 r.2)]) [.gone, .rd 1 R8 r.1] := by
 refine Spec.enter Tryd.func67 rfl Tryd.ntmps67 rfl rfl fun fx => ?_
 refine SC.r tk [(0, vs 0)] [] [] [] (by kernel_rfl) ?_
 refine SC.r tk [(0, vs 0), (4, vn)] [] [] [] (by kernel_rfl) ?_
 refine SC.cut (fun a w => ∃ (l_2 : (List Int)), octets_Put_j1 F l_2 = some r ∧ A 49 1 fx [(4, vs 1)] [.gone, .own 1 5 R8 l_2] a w) ?_ ?_
 · refine SC.r tk [(4, vn), (8, vs 0), (9, vi .i64 (len fields_1)), (10, vi .i64 0)] [] [] [] (by kernel_rfl) ?_
   refine SC.block ?_
   obtain ⟨o1, hi1, ho1⟩ := bind_inv hp
   clear hp
   refine SC.loop (fun n a w => ∃ (l_3 : (List Int)) (x_4 : Int), iter (fun s => octets_Put_l1 F fields_1 s.1 s.2) n (l_3, x_4) = some o1 ∧ A 49 1 fx [(4, vs 1), (8, vs 0), (9, vi .i64 (len fields_1)), (10, vi .i64 x_4)] [.rd 2 R_T_api_Field fields_1, .own 1 5 R8 l_3] a w) F (fun a w h => ⟨[], 0, hi1, h.at (js := [.g 0, .n]) (by kernel_rfl)⟩) ?_
   rintro n1 a w ⟨l_3, x_4, hi1, h⟩
   obtain ⟨n1, q1, rfl, hp, hs1⟩ := iter_inv hi1
   replace hp : octets_Put_l1 F fields_1 l_3 x_4 = some q1 := hp
   clear hi1
   refine h.go ?_
   refine SC.r tk [(4, vs 1), (8, vs 0), (9, vi .i64 (len fields_1)), (10, vi .i64 x_4), (11, vb (decide (x_4 < (len fields_1))))] [] [] [] (by kernel_rfl) ?_
   refine SC.seq ?_
   refine SC.if' rfl hp (fun hp => ?_) (fun hp => ?_)
   · refine SC.skipThen ?_
     refine SC.cut (fun a w => ∃ (l_5 : (List Int)), octets_Put_j2 F x_4 l_5 = some q1 ∧ A 49 1 fx [(4, vs 1), (8, vs 0), (9, vi .i64 (len fields_1)), (10, vi .i64 x_4)] [.rd 2 R_T_api_Field fields_1, .own 1 5 R8 l_5] a w) ?_ ?_
     · refine SC.block ?_
       refine SC.seq ?_
       refine SC.reg ?_
       obtain ⟨x_6, e_x_6, hp⟩ := bind_inv hp
       refine SL.pre (pre_ix (i := 0) (iv := x_4) (sz := 2) (R := R_T_api_Field) (l := fields_1) (by kernel_rfl) rfl e_x_6) ?_
       refine SL.sim tk 2 [(4, vs 1), (8, vs 0), (9, vi .i64 (len fields_1)), (10, vi .i64 x_4), (13, .g (C_api_Field x_6))] [] [.el 2] [x_4] (by kernel_rfl) ?_
       refine SL.eff (e_alloc (E := 102) tk [ci .i64 0, ci .u64 0] (by kernel_rfl)) rfl (by kernel_rfl) ?_
       refine SL.sim tk 1 [(4, vs 1), (6, vp 3 0), (8, vs 0), (9, vi .i64 (len fields_1)), (10, vi .i64 x_4)] [(3, 102, (C_api_Field x_6))] [] [] (by kernel_rfl) ?_
       refine SL.nilThen ?_
       refine SC.seq ?_
       refine SC.seq ?_
       refine SC.reg ?_
       refine SL.sim tk 2 [(4, vs 1), (6, vp 3 0), (8, vs 0), (9, vi .i64 (len fields_1)), (10, vi .i64 x_4), (15, vi .i64 x_6.Size)] [] [] [] (by kernel_rfl) ?_
       obtain ⟨x_7, e_x_7, hp⟩ := bind_inv hp
       refine SL.eff (e_c Tryd.call73 (ok_octets_sized F x_6.Size _ e_x_7) [] [vi .i64 x_6.Size] (vb x_7) (by kernel_rfl) (.inl rfl)) rfl (by kernel_rfl) ?_
       refine SL.norm (itsN := [.rd 2 R_T_api_Field fields_1, .own 1 5 R8 l_3, .elt (some (0, x_4)) false (C_api_Field x_6), .blk 102 (C_api_Field x_6)]) (by kernel_rfl) ?_
       refine SL.sim tk 2 [(4, vs 1), (6, vp 3 0), (8, vs 0), (9, vi .i64 (len fields_1)), (10, vi .i64 x_4), (18, vb (!x_7))] [] [] [] (by kernel_rfl) ?_
       obtain ⟨z_9, hz, hpr⟩ := bind_inv hp
       clear hp
       refine SL.cutAt 13 (fun a w => A 49 1 fx [(4, vs 1), (6, vp 2 0), (8, vs 0), (9, vi .i64 (len fields_1)), (10, vi .i64 x_4), (31, vb z_9)] [.rd 2 R_T_api_Field fields_1, .own 1 5 R8 l_3, .blk 102 (C_api_Field x_6)] a w) ?_ ?_
       · have hp := hz
         rcases Bool.eq_false_or_eq_true ((!x_7)) with hg_8 | hg_8
         · replace hp := if_t hp hg_8
           refine SL.no rfl rfl hg_8 rfl ?_
           refine SL.no rfl rfl hg_8 rfl ?_
           refine SL.no rfl rfl hg_8 rfl ?_
           refine SL.no rfl rfl hg_8 rfl ?_
           refine SL.noU rfl rfl rfl ?_
           refine SL.noU rfl rfl rfl ?_
           refine SL.noU rfl rfl rfl ?_
           refine SL.noU rfl rfl rfl ?_
           refine SL.noU rfl rfl rfl ?_
           refine SL.noU rfl rfl rfl ?_
           refine SL.noU rfl rfl rfl ?_
           refine SL.no rfl rfl hg_8 rfl ?_
           refine SL.pickt rfl hg_8 rfl rfl ?_
           refine SL.nilJ fun a w h => ?_
           obtain rfl := some_inv' hp
           exact h.at (js := [.g 0, .g 1, .g 3]) (by kernel_rfl)
         replace hp := if_f hp hg_8
         refine SL.yes rfl rfl hg_8 ?_
         refine SL.sim tk 1 [(4, vs 1), (6, vp 3 0), (8, vs 0), (9, vi .i64 (len fields_1)), (10, vi .i64 x_4), (18, vb (!x_7)), (19, vp 3 0)] [] [] [] (by kernel_rfl) ?_
         refine SL.yes rfl rfl hg_8 ?_
         refine SL.sim tk 1 [(4, vs 1), (6, vp 3 0), (8, vs 0), (9, vi .i64 (len fields_1)), (10, vi .i64 x_4), (18, vb (!x_7)), (19, vp 3 0), (20, vi .i64 x_6.Size)] [] [] [] (by kernel_rfl) ?_
         refine SL.yes rfl rfl hg_8 ?_
         refine SL.sim tk 1 [(4, vs 1), (6, vp 3 0), (8, vs 0), (9, vi .i64 (len fields_1)), (10, vi .i64 x_4), (18, vb (!x_7)), (19, vp 3 0), (20, vi .i64 x_6.Size), (21, vb (decide (x_6.Size < 8)))] [] [] [] (by kernel_rfl) ?_
         refine SL.yes rfl rfl hg_8 ?_
         refine SL.sim tk 1 [(4, vs 1), (6, vp 3 0), (8, vs 0), (9, vi .i64 (len fields_1)), (10, vi .i64 x_4), (18, vb (!x_7)), (19, vp 3 0), (20, vi .i64 x_6.Size), (21, vb (decide (x_6.Size < 8))), (22, vb (decide (x_6.Size < 8)))] [] [] [] (by kernel_rfl) ?_
         rcases Bool.eq_false_or_eq_true (decide (x_6.Size < 8)) with hg_15 | hg_15
         · replace hp := if_t hp hg_15
           refine SL.yes rfl rfl hg_15 ?_
           refine SL.sim tk 1 [(4, vs 1), (6, vp 3 0), (8, vs 0), (9, vi .i64 (len fields_1)), (10, vi .i64 x_4), (18, vb (!x_7)), (19, vp 3 0), (20, vi .i64 x_6.Size), (21, vb (decide (x_6.Size < 8))), (22, vb (decide (x_6.Size < 8))), (23, vp 3 1)] [] [] [] (by kernel_rfl) ?_
           refine SL.yes rfl rfl hg_15 ?_
           refine SL.sim tk 1 [(4, vs 1), (6, vp 3 0), (8, vs 0), (9, vi .i64 (len fields_1)), (10, vi .i64 x_4), (18, vb (!x_7)), (19, vp 3 0), (20, vi .i64 x_6.Size), (21, vb (decide (x_6.Size < 8))), (22, vb (decide (x_6.Size < 8))), (23, vp 3 1), (24, vi .u64 x_6.Value)] [] [] [] (by kernel_rfl) ?_
           refine SL.yes rfl rfl hg_15 ?_
           refine SL.sim tk 1 [(4, vs 1), (6, vp 3 0), (8, vs 0), (9, vi .i64 (len fields_1)), (10, vi .i64 x_4), (18, vb (!x_7)), (19, vp 3 0), (20, vi .i64 x_6.Size), (21, vb (decide (x_6.Size < 8))), (22, vb (decide (x_6.Size < 8))), (23, vp 3 1), (24, vi .u64 x_6.Value), (25, vp 3 0)] [] [] [] (by kernel_rfl) ?_
           refine SL.yes rfl rfl hg_15 ?_
           refine SL.sim tk 1 [(4, vs 1), (6, vp 3 0), (8, vs 0), (9, vi .i64 (len fields_1)), (10, vi .i64 x_4), (18, vb (!x_7)), (19, vp 3 0), (20, vi .i64 x_6.Size), (21, vb (decide (x_6.Size < 8))), (22, vb (decide (x_6.Size < 8))), (23, vp 3 1), (24, vi .u64 x_6.Value), (25, vp 3 0), (26, vi .i64 x_6.Size)] [] [] [] (by kernel_rfl) ?_
           refine SL.yes rfl rfl hg_15 ?_
           refine SL.sim tk 1 [(4, vs 1), (6, vp 3 0), (8, vs 0), (9, vi .i64 (len fields_1)), (10, vi .i64 x_4), (18, vb (!x_7)), (19, vp 3 0), (20, vi .i64 x_6.Size), (21, vb (decide (x_6.Size < 8))), (22, vb (decide (x_6.Size < 8))), (23, vp 3 1), (24, vi .u64 x_6.Value), (25, vp 3 0), (26, vi .i64 x_6.Size), (27, vi .i64 (w64 (8 * x_6.Size)))] [] [] [] (by kernel_rfl) ?_
           refine SL.yes rfl rfl hg_15 ?_
           obtain ⟨x_16, e_x_16, hp⟩ := bind_inv hp
           refine SL.sim tk 1 [(4, vs 1), (6, vp 3 0), (8, vs 0), (9, vi .i64 (len fields_1)), (10, vi .i64 x_4), (18, vb (!x_7)), (19, vp 3 0), (20, vi .i64 x_6.Size), (21, vb (decide (x_6.Size < 8))), (22, vb (decide (x_6.Size < 8))), (23, vp 3 1), (24, vi .u64 x_6.Value), (25, vp 3 0), (26, vi .i64 x_6.Size), (27, vi .i64 (w64 (8 * x_6.Size))), (28, vi .u64 x_16)] [] [.bin .shr .u64 x_6.Value (w64 (8 * x_6.Size)) x_16 e_x_16] [x_6.Value, w64 (8 * x_6.Size)] (by kernel_rfl) ?_
           refine SL.yes rfl rfl hg_15 ?_
           refine SL.sim tk 1 [(4, vs 1), (6, vp 3 0), (8, vs 0), (9, vi .i64 (len fields_1)), (10, vi .i64 x_4), (18, vb (!x_7)), (19, vp 3 0), (20, vi .i64 x_6.Size), (21, vb (decide (x_6.Size < 8))), (22, vb (decide (x_6.Size < 8))), (23, vp 3 1), (24, vi .u64 x_6.Value), (25, vp 3 0), (26, vi .i64 x_6.Size), (27, vi .i64 (w64 (8 * x_6.Size))), (28, vi .u64 x_16), (29, vb (x_16 != 0))] [] [] [] (by kernel_rfl) ?_
           refine SL.yes rfl rfl hg_8 ?_
           refine SL.pickt rfl hg_15 rfl rfl ?_
           refine SL.pickf rfl hg_8 rfl rfl ?_
           refine SL.nilJ fun a w h => ?_
           obtain rfl := some_inv' hp
           exact h.at (js := [.g 0, .g 1, .g 3]) (by kernel_rfl)
         replace hp := if_f hp hg_15
         refine SL.no rfl rfl hg_15 rfl ?_
         refine SL.no rfl rfl hg_15 rfl ?_
         refine SL.no rfl rfl hg_15 rfl ?_
         refine SL.no rfl rfl hg_15 rfl ?_
         refine SL.no rfl rfl hg_15 rfl ?_
         refine SL.no rfl rfl hg_15 rfl ?_
         refine SL.no rfl rfl hg_15 rfl ?_
         refine SL.yes rfl rfl hg_8 ?_
         refine SL.pickf rfl hg_15 rfl rfl ?_
         refine SL.pickf rfl hg_8 rfl rfl ?_
         refine SL.nilJ fun a w h => ?_
         obtain rfl := some_inv' hp
         exact h.at (js := [.g 0, .g 1, .g 3]) (by kernel_rfl)
       intro a w h
       have hp := hpr; clear hpr hz
       refine h.goL ?_
       refine SL.nilThen ?_
       refine SC.if' rfl hp (fun hp => ?_) (fun hp => ?_)
       · refine SC.r tk [(2, vn), (3, vi .i64 5)] [] [] [] (by kernel_rfl) ?_
         have ho := done_inv hp hs1
         replace hp := ho1
         try rw [ho] at hp
         obtain rfl := some_inv' hp
         exact SC.re (js := [.g 0, .n]) tk (by kernel_rfl)
       refine SC.skipThen ?_
       refine SC.r tk [(4, vs 1), (6, vp 2 0), (8, vs 0), (9, vi .i64 (len fields_1)), (10, vi .i64 x_4), (33, vi .i64 x_6.Size), (34, vi .i64 0)] [] [] [] (by kernel_rfl) ?_
       refine SC.block ?_
       obtain ⟨o2, hi2, ho2⟩ := bind_inv hp
       clear hp
       refine SC.loop (fun n a w => ∃ (l_10 : (List Int)) (x_11 : Int), iter (fun s => octets_Put_l2 F x_6 s.1 s.2) n (l_10, x_11) = some o2 ∧ A 49 1 fx [(4, vs 1), (6, vp 2 0), (8, vs 0), (9, vi .i64 (len fields_1)), (10, vi .i64 x_4), (33, vi .i64 x_6.Size), (34, vi .i64 x_11)] [.rd 2 R_T_api_Field fields_1, .own 1 5 R8 l_10, .blk 102 (C_api_Field x_6)] a w) F (fun a w h => ⟨l_3, 0, hi2, h.at (js := [.g 0, .g 1, .g 2]) (by kernel_rfl)⟩) ?_
       rintro n2 a w ⟨l_10, x_11, hi2, h⟩
       obtain ⟨n2, q2, rfl, hp, hs2⟩ := iter_inv hi2
       replace hp : octets_Put_l2 F x_6 l_10 x_11 = some q2 := hp
       clear hi2
       refine h.go ?_
       refine SC.r tk [(4, vs 1), (6, vp 2 0), (8, vs 0), (9, vi .i64 (len fields_1)), (10, vi .i64 x_4), (33, vi .i64 x_6.Size), (34, vi .i64 x_11), (35, vb (decide (x_11 < x_6.Size)))] [] [] [] (by kernel_rfl) ?_
       refine SC.seq ?_
       refine SC.if' rfl hp (fun hp => ?_) (fun hp => ?_)
       · refine SC.skipThen ?_
         refine SC.seq ?_
         refine SC.block ?_
         refine SC.r tk [(4, vs 1), (6, vp 2 0), (7, vi .i64 x_11), (8, vs 0), (9, vi .i64 (len fields_1)), (10, vi .i64 x_4), (33, vi .i64 x_6.Size), (34, vi .i64 x_11)] [] [] [] (by kernel_rfl) ?_
         refine SC.reg ?_
         obtain ⟨x_12, e_x_12, hp⟩ := bind_inv hp
         refine SL.sim tk 7 [(4, vs 1), (6, vp 2 0), (8, vs 0), (9, vi .i64 (len fields_1)), (10, vi .i64 x_4), (33, vi .i64 x_6.Size), (34, vi .i64 x_11), (37, vs 1), (43, vi .u8 (wu8 x_12))] [] [.bin .shr .u64 x_6.Value (w64 (8 * x_11)) x_12 e_x_12] [x_6.Value, w64 (8 * x_11)] (by kernel_rfl) ?_
         refine SL.eff (e_lit (sz := 1) (E := 5) (R := R8) (by_ := 1) tk [[ci .u8 (wu8 x_12)]] [wu8 x_12] (by kernel_rfl) ⟨Clo.int, trivial⟩ rfl (by kernel_rfl) (by kernel_rfl)) rfl (by kernel_rfl) ?_
         obtain ⟨l_13, e_l_13, hp⟩ := bind_inv hp
         refine SL.eff (e_app (i := 1) (l := l_10) (sz := 1) (E := 5) (R := R8) (by_ := 1) (m := [wu8 x_12]) tk rfl (by kernel_rfl) rfl (.o 5 (by kernel_rfl)) e_l_13 (by kernel_rfl)) rfl (by kernel_rfl) ?_
         refine SL.sim tk 1 [(4, vs 4), (6, vp 2 0), (8, vs 0), (9, vi .i64 (len fields_1)), (10, vi .i64 x_4), (33, vi .i64 x_6.Size), (34, vi .i64 x_11)] [] [] [] (by kernel_rfl) ?_
         refine SL.nilThen ?_
         refine SC.reg ?_
         refine SL.sim tk 2 [(4, vs 4), (6, vp 2 0), (8, vs 0), (9, vi .i64 (len fields_1)), (10, vi .i64 x_4), (33, vi .i64 x_6.Size), (34, vi .i64 (w64 (x_11 + 1)))] [] [] [] (by kernel_rfl) ?_
         refine SL.nilJ fun a w h => ?_
         exact ⟨n2, Nat.lt_succ_self _, l_13, w64 (x_11 + 1), next_inv hp hs2, h.at (js := [.g 0, .g 4, .g 2]) (by kernel_rfl)⟩
       refine SC.exitJ rfl fun a w h => ?_
       have ho := done_inv hp hs2
       replace hp := ho2
       try rw [ho] at hp
       exact ⟨l_10, hp, h.at (js := [.g 0, .g 1]) (by kernel_rfl)⟩
     rintro a w ⟨l_5, hp, h⟩
     refine h.go ?_
     refine SC.reg ?_
     refine SL.sim tk 2 [(4, vs 1), (8, vs 0), (9, vi .i64 (len fields_1)), (10, vi .i64 (w64 (x_4 + 1)))] [] [] [] (by kernel_rfl) ?_
     refine SL.nilJ fun a w h => ?_
     exact ⟨n1, Nat.lt_succ_self _, l_5, w64 (x_4 + 1), next_inv hp hs1, h.at (js := [.g 0, .g 1]) (by kernel_rfl)⟩
   refine SC.exitJ rfl fun a w h => ?_
   have ho := done_inv hp hs1
   replace hp := ho1
   try rw [ho] at hp
   exact ⟨l_3, hp, h.at (js := [.g 0, .g 1]) (by kernel_rfl)⟩
 rintro a w ⟨l_2, hp, h⟩
 refine h.go ?_
 refine SC.r tk [(2, vs 1), (3, vi .i64 0)] [] [] [] (by kernel_rfl) ?_
 obtain rfl := some_inv' hp
 exact SC.re (js := [.g 0, .z 1]) tk (by kernel_rfl)

theorem ok_flash_number (F : Nat) (size_1 : Int) (n_2 : Int) (r : (List Int)) (hp : flash_number F size_1 n_2 = some r) : Spec Tryd.prog 59 [vi .i64 size_1, vi .u64 n_2] [] (vs 0) [.rd 1 R8 r] := by
 refine Spec.enter Tryd.func59 rfl Tryd.ntmps59 rfl rfl fun fx => ?_
 refine SC.r tk [(0, vi .i64 size_1), (1, vi .u64 n_2)] [] [] [] (by kernel_rfl) ?_
 refine SC.seq ?_
 refine SC.reg ?_
 refine SL.sim tk 3 [(10, .g [ci .i64 size_1, ci .u64 n_2])] [] [] [] (by kernel_rfl) ?_
 refine SL.eff (e_lit (sz := 2) (E := 102) (R := R_T_api_Field) (by_ := 16) tk [[ci .i64 size_1, ci .u64 n_2]] [(T_api_Field.mk size_1 n_2)] (by kernel_rfl) ⟨(clo_T_api_Field (x := (T_api_Field.mk size_1 n_2))), trivial⟩ rfl (by kernel_rfl) (by kernel_rfl)) rfl (by kernel_rfl) ?_
 obtain ⟨x_3, e_x_3, hp⟩ := bind_inv hp
 refine SL.pre (pre_frz (i := 0) (sz := 2) (E := 102) (R := R_T_api_Field) (l := [(T_api_Field.mk size_1 n_2)]) (by kernel_rfl)) ?_
 refine SL.eff (e_c Tryd.call67 (ok_octets_Put F [(T_api_Field.mk size_1 n_2)] _ e_x_3) [.g 0] [vs 0] (.u [.inl (.s 1), .inl (ci .i64 x_3.2)]) (by kernel_rfl) (.inl rfl)) rfl (by kernel_rfl) ?_
 refine SL.sim tk 5 [(5, vs 1)] [] [] [] (by kernel_rfl) ?_
 refine SL.nilThen ?_
 refine SC.r tk [(4, vs 1)] [] [] [] (by kernel_rfl) ?_
 obtain rfl := some_inv' hp
 exact SC.re (js := [.g 1]) tk (by kernel_rfl)

theorem ok_crc_feed (F : Nat) (register_1 : Int) (x_2 : Int) (r : Int) (hp : crc_feed F register_1 x_2 = some r) : Spec Tryd.prog 75 [vi .u32 register_1, vi .u8 x_2] [] (vi .u32 r) [] := by
 refine Spec.enter Tryd.func75 rfl Tryd.ntmps75 rfl rfl fun fx => ?_
 refine SC.r tk [(0, vi .u32 register_1), (1, vi .u8 x_2)] [] [] [] (by kernel_rfl) ?_
 refine SC.seq ?_
 refine SC.reg ?_
 refine SL.sim tk 7 [(0, vi .u32 register_1), (1, vi .u8 x_2), (6, vi .u32 (shrp register_1 4)), (11, vi .u32 (iand .u32 (ixor .u32 register_1 (wu32 x_2)) 15))] [] [.bin .shr .u32 register_1 4 (shrp register_1 4) (by kernel_rfl)] [register_1, 4] (by kernel_rfl) ?_
 obtain ⟨x_3, e_x_3, hp⟩ := bind_inv hp
 refine SL.eff (e_gix (E := 93) (g := 0) (kk := .u32) (l := [0, 1788928, 3577856, 3003392, 7155712, 7764992, 6006784, 4252672, 14311424, 12659712, 15529984, 16233472, 12013568, 11279360, 8505344, 10126336]) tk rfl rfl e_x_3 (by kernel_rfl)) rfl (by kernel_rfl) ?_
 refine SL.sim tk 3 [(0, vi .u32 (ixor .u32 (shrp register_1 4) x_3)), (1, vi .u8 x_2)] [] [] [] (by kernel_rfl) ?_
 refine SL.nilThen ?_
 refine SC.seq ?_
 refine SC.reg ?_
 refine SL.sim tk 8 [(16, vi .u32 (shrp (ixor .u32 (shrp register_1 4) x_3) 4)), (22, vi .u32 (iand .u32 (ixor .u32 (ixor .u32 (shrp register_1 4) x_3) (wu32 (shrp x_2 4))) 15))] [] [.bin .shr .u32 (ixor .u32 (shrp register_1 4) x_3) 4 (shrp (ixor .u32 (shrp register_1 4) x_3) 4) (by kernel_rfl), .bin .shr .u8 x_2 4 (shrp x_2 4) (by kernel_rfl)] [ixor .u32 (shrp register_1 4) x_3, 4, x_2, 4] (by kernel_rfl) ?_
 obtain ⟨x_4, e_x_4, hp⟩ := bind_inv hp
 refine SL.eff (e_gix (E := 93) (g := 0) (kk := .u32) (l := [0, 1788928, 3577856, 3003392, 7155712, 7764992, 6006784, 4252672, 14311424, 12659712, 15529984, 16233472, 12013568, 11279360, 8505344, 10126336]) tk rfl rfl e_x_4 (by kernel_rfl)) rfl (by kernel_rfl) ?_
 refine SL.sim tk 3 [(4, vi .u32 (ixor .u32 (shrp (ixor .u32 (shrp register_1 4) x_3) 4) x_4))] [] [] [] (by kernel_rfl) ?_
 refine SL.nilThen ?_
 obtain rfl := some_inv' hp
 exact SC.re (js := []) tk (by kernel_rfl)

theorem ok_crc_Sum (F : Nat) (init_1 : Int) (b_2 : (List Int)) (r : Int) (hp : crc_Sum F init_1 b_2 = some r) : Spec Tryd.prog 71 [vi .u32 init_1, vs 0] [.rd 1 R8 b_2] (vi .u32 r) [.gone] := by
 refine Spec.enter Tryd.func71 rfl Tryd.ntmps71 rfl rfl fun fx => ?_
 refine SC.r tk [(0, vi .u32 init_1), (1, vs 0)] [] [] [] (by kernel_rfl) ?_
 refine SC.r tk [(1, vs 0), (5, vi .u32 (iand .u32 init_1 16777215))] [] [] [] (by kernel_rfl) ?_
 refine SC.cut (fun a w => ∃ (x_3 : Int), crc_Sum_j1 F x_3 = some r ∧ A 21 1 fx [(5, vi .u32 x_3)] [.gone] a w) ?_ ?_
 · refine SC.r tk [(5, vi .u32 (iand .u32 init_1 16777215)), (10, vs 0), (11, vi .i64 (len b_2)), (12, vi .i64 0)] [] [] [] (by kernel_rfl) ?_
   refine SC.block ?_
   obtain ⟨o1, hi1, ho1⟩ := bind_inv hp
   clear hp
   refine SC.loop (fun n a w => ∃ (x_4 : Int) (x_5 : Int), iter (fun s => crc_Sum_l1 F b_2 s.1 s.2) n (x_4, x_5) = some o1 ∧ A 21 1 fx [(5, vi .u32 x_4), (10, vs 0), (11, vi .i64 (len b_2)), (12, vi .i64 x_5)] [.rd 1 R8 b_2] a w) F (fun a w h => ⟨iand .u32 init_1 16777215, 0, hi1, h.at (js := [.g 0]) (by kernel_rfl)⟩) ?_
   rintro n1 a w ⟨x_4, x_5, hi1, h⟩
   obtain ⟨n1, q1, rfl, hp, hs1⟩ := iter_inv hi1
   replace hp : crc_Sum_l1 F b_2 x_4 x_5 = some q1 := hp
   clear hi1
   refine h.go ?_
   refine SC.r tk [(5, vi .u32 x_4), (10, vs 0), (11, vi .i64 (len b_2)), (12, vi .i64 x_5), (13, vb (decide (x_5 < (len b_2))))] [] [] [] (by kernel_rfl) ?_
   refine SC.seq ?_
   refine SC.if' rfl hp (fun hp => ?_) (fun hp => ?_)
   · refine SC.skipThen ?_
     refine SC.seq ?_
     refine SC.block ?_
     obtain ⟨x_6, e_x_6, hp⟩ := bind_inv hp
     refine SC.pre (pre_ix (i := 0) (iv := x_5) (sz := 1) (R := R8) (l := b_2) (by kernel_rfl) rfl e_x_6) ?_
     refine SC.r tk [(5, vi .u32 x_4), (7, vi .u8 x_6), (10, vs 0), (11, vi .i64 (len b_2)), (12, vi .i64 x_5)] [] [.el 1] [x_5] (by kernel_rfl) ?_
     refine SC.reg ?_
     refine SL.sim tk 2 [(5, vi .u32 x_4), (10, vs 0), (11, vi .i64 (len b_2)), (12, vi .i64 x_5), (16, vi .u32 x_4), (17, vi .u8 x_6)] [] [] [] (by kernel_rfl) ?_
     obtain ⟨x_7, e_x_7, hp⟩ := bind_inv hp
     refine SL.eff (e_c Tryd.call75 (ok_crc_feed F x_4 x_6 _ e_x_7) [] [vi .u32 x_4, vi .u8 x_6] (vi .u32 x_7) (by kernel_rfl) (.inl rfl)) rfl (by kernel_rfl) ?_
     refine SL.sim tk 1 [(5, vi .u32 x_7), (10, vs 0), (11, vi .i64 (len b_2)), (12, vi .i64 x_5)] [] [] [] (by kernel_rfl) ?_
     refine SL.nilThen ?_
     refine SC.reg ?_
     refine SL.sim tk 2 [(5, vi .u32 x_7), (10, vs 0), (11, vi .i64 (len b_2)), (12, vi .i64 (w64 (x_5 + 1)))] [] [] [] (by kernel_rfl) ?_
     refine SL.nilJ fun a w h => ?_
     exact ⟨n1, Nat.lt_succ_self _, x_7, w64 (x_5 + 1), next_inv hp hs1, h.at (js := [.g 0]) (by kernel_rfl)⟩
   refine SC.exitJ rfl fun a w h => ?_
   have ho := done_inv hp hs1
   replace hp := ho1
   try rw [ho] at hp
   exact ⟨x_4, hp, h.at (js := [.g 0]) (by kernel_rfl)⟩
 rintro a w ⟨x_3, hp, h⟩
 refine h.go ?_
 refine SC.r tk [(4, vi .u32 x_3)] [] [] [] (by kernel_rfl) ?_
 obtain rfl := some_inv' hp
 exact SC.re (js := [.g 0]) tk (by kernel_rfl)

theorem ok_slices_Clone_byte_byte (F : Nat) (s_1 : (List Int)) (r : (List Int)) (hp : slices_Clone_byte_byte F s_1 = some r) : Spec Tryd.prog 72 [vs 0] [.rd 1 R8 s_1] (vs 1) [.gone, .own 1 5 R8 r] := by
 refine Spec.enter Tryd.func72 rfl Tryd.ntmps72 rfl rfl fun fx => ?_
 refine SC.r tk [(0, vs 0)] [] [] [] (by kernel_rfl) ?_
 refine SC.seq ?_
 refine SC.seq ?_
 refine SC.reg ?_
 refine SL.sim tk 1 [(0, vs 0), (3, vs 0)] [] [] [] (by kernel_rfl) ?_
 refine SL.eff (e_isnil tk rfl rfl rfl rfl (by kernel_rfl)) rfl (by kernel_rfl) ?_
 refine SL.nilThen ?_
 refine SC.nilFact 0 rfl rfl (by decide) (fun hnil => ?_)
 cases hq : nilAt fx 0
 · refine SC.iff rfl ?_
   refine SC.skipThen ?_
   refine SC.seq ?_
   refine SC.reg ?_
   refine SL.eff (e_lit (sz := 1) (E := 5) (R := R8) (by_ := 1) tk [] ([] : (List Int)) (by kernel_rfl) trivial rfl (by kernel_rfl) (by kernel_rfl)) rfl (by kernel_rfl) ?_
   refine SL.sim tk 1 [(5, vs 1), (6, vs 0)] [] [] [] (by kernel_rfl) ?_
   obtain ⟨l_2, e_l_2, hp⟩ := bind_inv hp
   refine SL.eff (e_app (i := 1) (l := ([] : (List Int))) (sz := 1) (E := 5) (R := R8) (by_ := 1) (m := s_1) tk rfl (by kernel_rfl) rfl (.r (by kernel_rfl)) e_l_2 (by kernel_rfl)) rfl (by kernel_rfl) ?_
   refine SL.sim tk 1 [(2, vs 2)] [] [] [] (by kernel_rfl) ?_
   refine SL.nilThen ?_
   obtain rfl := some_inv' hp
   exact SC.re (js := [.g 0, .g 2]) tk (by kernel_rfl)
 obtain rfl := hnil hq
 have hp : (some [] : Option ((List Int))) = some r := by rw [← hp]; first | rfl | simp [app]
 refine SC.ift rfl ?_
 refine SC.r tk [(2, vn)] [] [] [] (by kernel_rfl) ?_
 obtain rfl := some_inv' hp
 exact SC.re (js := [.g 0, .n]) tk (by kernel_rfl)

theorem ok_crc_Append (F : Nat) (init_1 : Int) (b_2 : (List Int)) (r : (List Int)) (hp : crc_Append F init_1 b_2 = some r) : Spec Tryd.prog 66 [vi .u32 init_1, vs 0] [.rd 1 R8 b_2] (vs 1) [.gone, .rd 1 R8 r] := by
 refine Spec.enter Tryd.func66 rfl Tryd.ntmps66 rfl rfl fun fx => ?_
 refine SC.r tk [(0, vi .u32 init_1), (1, vs 0)] [] [] [] (by kernel_rfl) ?_
 refine SC.seq ?_
 refine SC.reg ?_
 refine SL.sim tk 2 [(1, vs 0), (6, vi .u32 init_1), (7, vs 0)] [] [] [] (by kernel_rfl) ?_
 obtain ⟨x_3, e_x_3, hp⟩ := bind_inv hp
 refine SL.eff (e_c Tryd.call71 (ok_crc_Sum F init_1 b_2 _ e_x_3) [.g 0] [vi .u32 init_1, vs 0] (vi .u32 x_3) (by kernel_rfl) (.inl rfl)) rfl (by kernel_rfl) ?_
 refine SL.sim tk 1 [(1, vs 0), (5, vi .u32 x_3)] [] [] [] (by kernel_rfl) ?_
 refine SL.nilThen ?_
 refine SC.seq ?_
 refine SC.reg ?_
 refine SL.sim tk 1 [(5, vi .u32 x_3), (9, vs 0)] [] [] [] (by kernel_rfl) ?_
 obtain ⟨x_4, e_x_4, hp⟩ := bind_inv hp
 refine SL.eff (e_c Tryd.call72 (ok_slices_Clone_byte_byte F b_2 _ e_x_4) [.g 0] [vs 0] (vs 1) (by kernel_rfl) (.inl rfl)) rfl (by kernel_rfl) ?_
 refine SL.norm (itsN := [.rd 1 R8 b_2, .own 1 5 R8 x_4]) (by kernel_rfl) ?_
 refine SL.sim tk 8 [(10, vs 1), (12, vi .u8 (wu8 x_3)), (15, vi .u8 (wu8 (shrp x_3 8))), (18, vi .u8 (wu8 (shrp x_3 16)))] [] [.bin .shr .u32 x_3 8 (shrp x_3 8) (by kernel_rfl), .bin .shr .u32 x_3 16 (shrp x_3 16) (by kernel_rfl)] [x_3, 8, x_3, 16] (by kernel_rfl) ?_
 refine SL.eff (e_lit (sz := 1) (E := 5) (R := R8) (by_ := 1) tk [[ci .u8 (wu8 x_3)], [ci .u8 (wu8 (shrp x_3 8))], [ci .u8 (wu8 (shrp x_3 16))]] [wu8 x_3, wu8 (shrp x_3 8), wu8 (shrp x_3 16)] (by kernel_rfl) ⟨Clo.int, ⟨Clo.int, ⟨Clo.int, trivial⟩⟩⟩ rfl (by kernel_rfl) (by kernel_rfl)) rfl (by kernel_rfl) ?_
 obtain ⟨l_5, e_l_5, hp⟩ := bind_inv hp
 refine SL.eff (e_app (i := 1) (l := x_4) (sz := 1) (E := 5) (R := R8) (by_ := 1) (m := [wu8 x_3, wu8 (shrp x_3 8), wu8 (shrp x_3 16)]) tk rfl (by kernel_rfl) rfl (.o 5 (by kernel_rfl)) e_l_5 (by kernel_rfl)) rfl (by kernel_rfl) ?_
 refine SL.sim tk 1 [(4, vs 3)] [] [] [] (by kernel_rfl) ?_
 refine SL.nilThen ?_
 obtain rfl := some_inv' hp
 exact SC.re (js := [.g 0, .z 3]) tk (by kernel_rfl)

theorem ok_flash_sealed (F : Nat) (b_1 : (List Int)) (r : (List Int)) (hp : flash_sealed F b_1 = some r) : Spec Tryd.prog 58 [vs 0] [.rd 1 R8 b_1] (vs 1) [.gone, .rd 1 R8 r] := by
 refine Spec.enter Tryd.func58 rfl Tryd.ntmps58 rfl rfl fun fx => ?_
 refine SC.r tk [(0, vs 0)] [] [] [] (by kernel_rfl) ?_
 refine SC.seq ?_
 refine SC.reg ?_
 refine SL.sim tk 1 [(3, vs 0)] [] [] [] (by kernel_rfl) ?_
 obtain ⟨x_2, e_x_2, hp⟩ := bind_inv hp
 refine SL.eff (e_c Tryd.call66 (ok_crc_Append F 0 b_1 _ e_x_2) [.g 0] [vi .u32 0, vs 0] (vs 1) (by kernel_rfl) (.inl rfl)) rfl (by kernel_rfl) ?_
 refine SL.eff (e_lit (sz := 1) (E := 5) (R := R8) (by_ := 1) tk [[ci .u8 0]] [0] (by kernel_rfl) ⟨Clo.int, trivial⟩ rfl (by kernel_rfl) (by kernel_rfl)) rfl (by kernel_rfl) ?_
 refine SL.pre (pre_frz (i := 2) (sz := 1) (E := 5) (R := R8) (l := [0]) (by kernel_rfl)) ?_
 refine SL.eff (e_lit (sz := 1) (E := 22) (R := (RSl 1 R8)) (by_ := 24) tk [[.s 1], [.s 2]] [x_2, [0]] (by kernel_rfl) ⟨(Clo.sl (by kernel_rfl)), ⟨(Clo.sl (by kernel_rfl)), trivial⟩⟩ rfl (by kernel_rfl) (by kernel_rfl)) rfl (by kernel_rfl) ?_
 refine SL.norm (itsN := [.rd 1 R8 b_1, .rd 1 R8 x_2, .rd 1 R8 [0], .own 1 22 (RSl 1 R8) [x_2, [0]]]) (by kernel_rfl) ?_
 obtain ⟨x_3, e_x_3, hp⟩ := bind_inv hp
 refine SL.eff (e_c Tryd.call39 (ok_octets_Join F [x_2, [0]] _ e_x_3) [.l 3] [vs 3] (vs 4) (by kernel_rfl) (.inr ⟨trivial, ⟨Fl.int, trivial⟩, trivial⟩)) rfl (by kernel_rfl) ?_
 refine SL.sim tk 1 [(2, vs 4)] [] [] [] (by kernel_rfl) ?_
 refine SL.nilThen ?_
 obtain rfl := some_inv' hp
 exact SC.re (js := [.g 0, .z 4]) tk (by kernel_rfl)

theorem ok_flash_header (F : Nat) (count_1 : Int) (r : (List Int)) (hp : flash_header F count_1 = some r) : Spec Tryd.prog 45 [vi .i64 count_1] [] (vs 0) [.rd 1 R8 r] := by
 refine Spec.enter Tryd.func45 rfl Tryd.ntmps45 rfl rfl fun fx => ?_
 refine SC.r tk [(0, vi .i64 count_1)] [] [] [] (by kernel_rfl) ?_
 refine SC.seq ?_
 refine SC.reg ?_
 refine SL.eff (e_lit (sz := 1) (E := 5) (R := R8) (by_ := 1) tk [[ci .u8 66], [ci .u8 75]] [66, 75] (by kernel_rfl) ⟨Clo.int, ⟨Clo.int, trivial⟩⟩ rfl (by kernel_rfl) (by kernel_rfl)) rfl (by kernel_rfl) ?_
 refine SL.sim tk 2 [(3, vs 0), (5, vi .u64 (wu64 count_1))] [] [] [] (by kernel_rfl) ?_
 obtain ⟨x_2, e_x_2, hp⟩ := bind_inv hp
 refine SL.eff (e_c Tryd.call59 (ok_flash_number F 4 (wu64 count_1) _ e_x_2) [] [vi .i64 4, vi .u64 (wu64 count_1)] (vs 1) (by kernel_rfl) (.inl rfl)) rfl (by kernel_rfl) ?_
 refine SL.pre (pre_frz (i := 0) (sz := 1) (E := 5) (R := R8) (l := [66, 75]) (by kernel_rfl)) ?_
 refine SL.eff (e_lit (sz := 1) (E := 22) (R := (RSl 1 R8)) (by_ := 24) tk [[.s 0], [.s 1]] [[66, 75], x_2] (by kernel_rfl) ⟨(Clo.sl (by kernel_rfl)), ⟨(Clo.sl (by kernel_rfl)), trivial⟩⟩ rfl (by kernel_rfl) (by kernel_rfl)) rfl (by kernel_rfl) ?_
 refine SL.norm (itsN := [.rd 1 R8 [66, 75], .rd 1 R8 x_2, .own 1 22 (RSl 1 R8) [[66, 75], x_2]]) (by kernel_rfl) ?_
 obtain ⟨x_3, e_x_3, hp⟩ := bind_inv hp
 refine SL.eff (e_c Tryd.call39 (ok_octets_Join F [[66, 75], x_2] _ e_x_3) [.l 2] [vs 2] (vs 3) (by kernel_rfl) (.inr ⟨trivial, ⟨Fl.int, trivial⟩, trivial⟩)) rfl (by kernel_rfl) ?_
 obtain ⟨x_4, e_x_4, hp⟩ := bind_inv hp
 refine SL.pre (pre_frz (i := 3) (sz := 1) (E := 5) (R := R8) (l := x_3) (by kernel_rfl)) ?_
 refine SL.eff (e_c Tryd.call58 (ok_flash_sealed F x_3 _ e_x_4) [.g 3] [vs 3] (vs 4) (by kernel_rfl) (.inl rfl)) rfl (by kernel_rfl) ?_
 refine SL.norm (itsN := [.rd 1 R8 [66, 75], .rd 1 R8 x_2, .own 1 22 (RSl 1 R8) [[66, 75], x_2], .rd 1 R8 x_3, .rd 1 R8 x_4]) (by kernel_rfl) ?_
 refine SL.sim tk 1 [(2, vs 4)] [] [] [] (by kernel_rfl) ?_
 refine SL.nilThen ?_
 obtain rfl := some_inv' hp
 exact SC.re (js := [.g 4]) tk (by kernel_rfl)

theorem ok_slices_Equal_byte_byte (F : Nat) (s_1 : (List Int)) (s_2 : (List Int)) (r : Bool) (hp : slices_Equal_byte_byte F s_1 s_2 = some r) : Spec Tryd.prog 41 [vs 0, vs 1] [.rd 1 R8 s_1, .rd 1 R8 s_2] (vb r) [.gone, .gone] := by
 refine Spec.enter Tryd.func41 rfl Tryd.ntmps41 rfl rfl fun fx => ?_
 refine SC.r tk [(0, vs 0), (1, vs 1)] [] [] [] (by kernel_rfl) ?_
 refine SC.seq ?_
 refine SC.r tk [(0, vs 0), (1, vs 1), (10, vb ((len s_1) != (len s_2)))] [] [] [] (by kernel_rfl) ?_
 refine SC.if' rfl hp (fun hp => ?_) (fun hp => ?_)
 · refine SC.r tk [(4, vb false)] [] [] [] (by kernel_rfl) ?_
   obtain rfl := some_inv' hp
   exact SC.re (js := [.g 0, .g 1]) tk (by kernel_rfl)
 refine SC.skipThen ?_
 refine SC.cut (fun a w => slices_Equal_byte_byte_j1 F = some r ∧ A 26 2 fx [] [.gone, .gone] a w) ?_ ?_
 · refine SC.r tk [(0, vs 0), (1, vs 1), (12, vi .i64 (len s_1)), (13, vi .i64 0)] [] [] [] (by kernel_rfl) ?_
   refine SC.block ?_
   obtain ⟨o1, hi1, ho1⟩ := bind_inv hp
   clear hp
   refine SC.loop (fun n a w => ∃ (x_3 : Int), iter (fun s => slices_Equal_byte_byte_l1 F s_1 s_2 s) n (x_3) = some o1 ∧ A 26 2 fx [(0, vs 0), (1, vs 1), (12, vi .i64 (len s_1)), (13, vi .i64 x_3)] [.rd 1 R8 s_1, .rd 1 R8 s_2] a w) F (fun a w h => ⟨0, hi1, h.at (js := [.g 0, .g 1]) (by kernel_rfl)⟩) ?_
   rintro n1 a w ⟨x_3, hi1, h⟩
   obtain ⟨n1, q1, rfl, hp, hs1⟩ := iter_inv hi1
   replace hp : slices_Equal_byte_byte_l1 F s_1 s_2 x_3 = some q1 := hp
   clear hi1
   refine h.go ?_
   refine SC.r tk [(0, vs 0), (1, vs 1), (12, vi .i64 (len s_1)), (13, vi .i64 x_3), (14, vb (decide (x_3 < (len s_1))))] [] [] [] (by kernel_rfl) ?_
   refine SC.seq ?_
   refine SC.if' rfl hp (fun hp => ?_) (fun hp => ?_)
   · refine SC.skipThen ?_
     refine SC.seq ?_
     refine SC.block ?_
     refine SC.r tk [(0, vs 0), (1, vs 1), (5, vi .i64 x_3), (12, vi .i64 (len s_1)), (13, vi .i64 x_3)] [] [] [] (by kernel_rfl) ?_
     refine SC.cut (fun a w => ∃ (z_4 : Bool), slices_Equal_byte_byte_j2 F x_3 z_4 = some q1 ∧ A 26 2 fx [(0, vs 0), (1, vs 1), (12, vi .i64 (len s_1)), (13, vi .i64 x_3), (24, vb z_4)] [.rd 1 R8 s_1, .rd 1 R8 s_2] a w) ?_ ?_
     · obtain ⟨x_5, e_x_5, hp⟩ := bind_inv hp
       obtain ⟨x_6, e_x_6, hp⟩ := bind_inv hp
       refine SC.pre (pre_ix (i := 0) (iv := x_3) (sz := 1) (R := R8) (l := s_1) (by kernel_rfl) rfl e_x_5) ?_
       refine SC.pre (pre_ix (i := 1) (iv := x_3) (sz := 1) (R := R8) (l := s_2) (by kernel_rfl) rfl e_x_6) ?_
       refine SC.draw MO [true, true, true, true] (by kernel_rfl) fun kap_7 D_8 => ?_
       refine SD.takes tk D_8 [] kn0 [0, 1, 2, 3, 4, 5, 6, 7, 8] [.el 2, .el 3] [x_3, x_3] (bm 9 511) [(0, vs 0), (1, vs 1), (12, vi .i64 (len s_1)), (13, vi .i64 x_3), (24, vb (x_5 != x_6))] rfl (by kernel_rfl) (by kernel_rfl) (by kernel_rfl) ?_
       refine SD.done (by kernel_rfl) fun a w h => ?_
       exact ⟨(x_5 != x_6), hp, h.at (js := [.g 0, .g 1]) (by kernel_rfl)⟩
     rintro a w ⟨z_4, hp, h⟩
     refine h.go ?_
     refine SC.if' rfl hp (fun hp => ?_) (fun hp => ?_)
     · refine SC.r tk [(4, vb false)] [] [] [] (by kernel_rfl) ?_
       have ho := done_inv hp hs1
       replace hp := ho1
       try rw [ho] at hp
       obtain rfl := some_inv' hp
       exact SC.re (js := [.g 0, .g 1]) tk (by kernel_rfl)
     refine SC.skipThen ?_
     refine SC.reg ?_
     refine SL.sim tk 2 [(0, vs 0), (1, vs 1), (12, vi .i64 (len s_1)), (13, vi .i64 (w64 (x_3 + 1)))] [] [] [] (by kernel_rfl) ?_
     refine SL.nilJ fun a w h => ?_
     exact ⟨n1, Nat.lt_succ_self _, w64 (x_3 + 1), next_inv hp hs1, h.at (js := [.g 0, .g 1]) (by kernel_rfl)⟩
   refine SC.exitJ rfl fun a w h => ?_
   have ho := done_inv hp hs1
   replace hp := ho1
   try rw [ho] at hp
   exact ⟨hp, h.at (js := [.g 0, .g 1]) (by kernel_rfl)⟩
 rintro a w ⟨hp, h⟩
 refine h.go ?_
 refine SC.r tk [(4, vb true)] [] [] [] (by kernel_rfl) ?_
 obtain rfl := some_inv' hp
 exact SC.re (js := [.g 0, .g 1]) tk (by kernel_rfl)

theorem ok_flash_count (F : Nat) (bank_1 : (List Int)) (r : Int) (hp : flash_count F bank_1 = some r) : Spec Tryd.prog 34 [vs 0] [.rd 1 R8 bank_1] (vi .i64 r) [.gone] := by
 refine Spec.enter Tryd.func34 rfl Tryd.ntmps34 rfl rfl fun fx => ?_
 refine SC.r tk [(0, vs 0)] [] [] [] (by kernel_rfl) ?_
 refine SC.seq ?_
 refine SC.r tk [(0, vs 0), (6, vb (decide ((len bank_1) < 10)))] [] [] [] (by kernel_rfl) ?_
 refine SC.if' rfl hp (fun hp => ?_) (fun hp => ?_)
 · refine SC.r tk [(2, vi .i64 (-1))] [] [] [] (by kernel_rfl) ?_
   obtain rfl := some_inv' hp
   exact SC.re (js := [.g 0]) tk (by kernel_rfl)
 refine SC.skipThen ?_
 refine SC.seq ?_
 refine SC.reg ?_
 refine SL.sim tk 1 [(0, vs 0), (7, vs 0)] [] [] [] (by kernel_rfl) ?_
 obtain ⟨l_2, e_l_2, hp⟩ := bind_inv hp
 refine SL.eff (e_sub (sz := 1) (E := 5) (R := R8) (by_ := 1) (l := bank_1) tk rfl (.inl ⟨0, rfl, (by kernel_rfl)⟩) rfl rfl e_l_2 (by kernel_rfl)) rfl (by kernel_rfl) ?_
 obtain ⟨x_3, e_x_3, hp⟩ := bind_inv hp
 refine SL.eff (e_c Tryd.call51 (ok_flash_value F l_2 _ e_x_3) [.g 1] [vs 1] (vi .i64 x_3) (by kernel_rfl) (.inl rfl)) rfl (by kernel_rfl) ?_
 refine SL.sim tk 1 [(0, vs 0), (3, vi .i64 x_3)] [] [] [] (by kernel_rfl) ?_
 refine SL.nilThen ?_
 refine SC.seq ?_
 refine SC.cut (fun a w => ∃ (z_4 : Bool), flash_count_j1 F x_3 z_4 = some r ∧ A 17 1 fx [(3, vi .i64 x_3), (15, vb z_4)] [.gone] a w) ?_ ?_
 · refine SC.draw MO [true, true] (by kernel_rfl) fun kap_5 D_6 => ?_
   refine SD.takes tk D_6 [] kn0 [0, 2] [] [] [I, O, I, O, O, O] [(3, vi .i64 x_3), (10, vi .i64 x_3), (12, vs 0)] rfl (by kernel_rfl) (by kernel_rfl) (by kernel_rfl) ?_
   obtain ⟨l_7, e_l_7, hp⟩ := bind_inv hp
   refine SD.sub (sz := 1) (E := 5) (R := R8) (by_ := 1) (l := bank_1) tk D_6 (i := 3) [I, O, I, I, O, O] rfl rfl (by kernel_rfl) rfl rfl rfl (.inl ⟨0, rfl, (by kernel_rfl)⟩) rfl rfl e_l_7 (by kernel_rfl) ?_
   refine SD.norm (itsN := [.rd 1 R8 bank_1, .rd 1 R8 l_2, .rd 1 R8 l_7]) (by kernel_rfl) ?_
   obtain ⟨x_8, e_x_8, hp⟩ := bind_inv hp
   refine SD.all1 (i := 1) (by kernel_rfl) ?_
   refine SW.eff D_6 (i := 1) (bs' := [I, I, I, I, O, O]) rfl (.inl rfl) rfl (e_c Tryd.call45 (ok_flash_header F x_3 _ e_x_8) [] [vi .i64 x_3] (vs 3) (by kernel_rfl) (.inl rfl)) (by kernel_rfl) rfl (by kernel_rfl) ?_
   obtain ⟨x_9, e_x_9, hp⟩ := bind_inv hp
   refine SD.all1 (i := 4) (by kernel_rfl) ?_
   refine SW.eff D_6 (i := 4) (bs' := [I, I, I, I, I, O]) rfl (.inl rfl) rfl (e_c Tryd.call41 (ok_slices_Equal_byte_byte F x_8 l_7 _ e_x_9) [.g 3, .g 2] [vs 3, vs 2] (vb x_9) (by kernel_rfl) (.inl rfl)) (by kernel_rfl) rfl (by kernel_rfl) ?_
   refine SD.norm (itsN := [.rd 1 R8 bank_1, .rd 1 R8 l_2, .rd 1 R8 l_7, .rd 1 R8 x_8]) (by kernel_rfl) ?_
   refine SD.takes tk D_6 [] kn0 [5] [] [] [I, I, I, I, I, I] [(3, vi .i64 x_3), (15, vb (!x_9))] rfl (by kernel_rfl) (by kernel_rfl) (by kernel_rfl) ?_
   refine SD.done (by kernel_rfl) fun a w h => ?_
   exact ⟨(!x_9), hp, h.at (js := [.g 0]) (by kernel_rfl)⟩
 rintro a w ⟨z_4, hp, h⟩
 refine h.go ?_
 refine SC.if' rfl hp (fun hp => ?_) (fun hp => ?_)
 · refine SC.r tk [(2, vi .i64 (-1))] [] [] [] (by kernel_rfl) ?_
   obtain rfl := some_inv' hp
   exact SC.re (js := [.g 0]) tk (by kernel_rfl)
 refine SC.skipThen ?_
 refine SC.r tk [(2, vi .i64 x_3)] [] [] [] (by kernel_rfl) ?_
 obtain rfl := some_inv' hp
 exact SC.re (js := [.g 0]) tk (by kernel_rfl)

theorem ok_flash_need (F : Nat) (ok_1 : Bool) (r : Unit) (hp : flash_need F ok_1 = some r) : Spec Tryd.prog 64 [vb ok_1] [] (.u []) [] := by
 refine Spec.enter Tryd.func64 rfl Tryd.ntmps64 rfl rfl fun fx => ?_
 refine SC.r tk [(3, vb (!ok_1))] [] [] [] (by kernel_rfl) ?_
 refine SC.if' rfl hp (fun hp => ?_) (fun hp => ?_)
 · cases (show (none : Option (Unit)) = some _ from hp)
 refine SC.skipJ fun a w h => ?_
 obtain rfl := some_inv' hp
 exact A.re (js := []) tk h (by kernel_rfl)

/-- What a record that is not complete is given up with. -/
def PV : Value := .iface 80 (.agg #[])
set_option maxHeartbeats 1000000 in
theorem need_pan (w : World) : Calls Tryd.prog 64 #[.bool false] w fun e w' => e = .panicked [pe PV] ∧ w' = w := by
  go_enter Tryd.func64, Tryd.ntmps64
  go_wp2
  exact ⟨rfl, rfl, rfl⟩


theorem ok_flash_record (F : Nat) (key_1 : Int) (value_2 : (List Int)) (r : (List Int)) (hp : flash_record F key_1 value_2 = some r) : Spec Tryd.prog 42 [vi .u16 key_1, vs 0] [.rd 1 R8 value_2] (vs 1) [.gone, .rd 1 R8 r] := by
 refine Spec.enter Tryd.func42 rfl Tryd.ntmps42 rfl rfl fun fx => ?_
 refine SC.r tk [(0, vi .u16 key_1), (1, vs 0)] [] [] [] (by kernel_rfl) ?_
 refine SC.seq ?_
 refine SC.reg ?_
 refine SL.sim tk 3 [(0, vi .u16 key_1), (1, vs 0), (7, vi .u64 (wu64 (len value_2)))] [] [] [] (by kernel_rfl) ?_
 obtain ⟨x_3, e_x_3, hp⟩ := bind_inv hp
 refine SL.eff (e_c Tryd.call59 (ok_flash_number F 2 (wu64 (len value_2)) _ e_x_3) [] [vi .i64 2, vi .u64 (wu64 (len value_2))] (vs 1) (by kernel_rfl) (.inl rfl)) rfl (by kernel_rfl) ?_
 refine SL.sim tk 2 [(1, vs 0), (8, vs 1), (10, vi .u64 (wu64 key_1))] [] [] [] (by kernel_rfl) ?_
 obtain ⟨x_4, e_x_4, hp⟩ := bind_inv hp
 refine SL.eff (e_c Tryd.call59 (ok_flash_number F 2 (wu64 key_1) _ e_x_4) [] [vi .i64 2, vi .u64 (wu64 key_1)] (vs 2) (by kernel_rfl) (.inl rfl)) rfl (by kernel_rfl) ?_
 refine SL.norm (itsN := [.rd 1 R8 value_2, .rd 1 R8 x_3, .rd 1 R8 x_4]) (by kernel_rfl) ?_
 refine SL.sim tk 1 [(8, vs 1), (11, vs 2), (12, vs 0)] [] [] [] (by kernel_rfl) ?_
 refine SL.eff (e_lit (sz := 1) (E := 22) (R := (RSl 1 R8)) (by_ := 24) tk [[.s 1], [.s 2], [.s 0]] [x_3, x_4, value_2] (by kernel_rfl) ⟨(Clo.sl (by kernel_rfl)), ⟨(Clo.sl (by kernel_rfl)), ⟨(Clo.sl (by kernel_rfl)), trivial⟩⟩⟩ rfl (by kernel_rfl) (by kernel_rfl)) rfl (by kernel_rfl) ?_
 obtain ⟨x_5, e_x_5, hp⟩ := bind_inv hp
 refine SL.eff (e_c Tryd.call39 (ok_octets_Join F [x_3, x_4, value_2] _ e_x_5) [.l 3] [vs 3] (vs 4) (by kernel_rfl) (.inr ⟨trivial, ⟨Fl.int, trivial⟩, trivial⟩)) rfl (by kernel_rfl) ?_
 obtain ⟨x_6, e_x_6, hp⟩ := bind_inv hp
 refine SL.pre (pre_frz (i := 4) (sz := 1) (E := 5) (R := R8) (l := x_5) (by kernel_rfl)) ?_
 refine SL.eff (e_c Tryd.call58 (ok_flash_sealed F x_5 _ e_x_6) [.g 4] [vs 4] (vs 5) (by kernel_rfl) (.inl rfl)) rfl (by kernel_rfl) ?_
 refine SL.norm (itsN := [.rd 1 R8 value_2, .rd 1 R8 x_3, .rd 1 R8 x_4, .own 1 22 (RSl 1 R8) [x_3, x_4, value_2], .rd 1 R8 x_5, .rd 1 R8 x_6]) (by kernel_rfl) ?_
 refine SL.sim tk 1 [(4, vs 5)] [] [] [] (by kernel_rfl) ?_
 refine SL.nilThen ?_
 obtain rfl := some_inv' hp
 exact SC.re (js := [.g 0, .g 5]) tk (by kernel_rfl)

theorem ok_flash_read (F : Nat) (bank_1 : (List Int)) (at_2 : Int) (r : T_api_Item × Int) (hp : flash_read F bank_1 at_2 = some r) : Spec Tryd.prog 53 [vs 0, vi .i64 at_2] [.rd 1 R8 bank_1] (.u [.inr [ci .u16 r.1.Key, .s 1], .inl (ci .i64 r.2)]) [.gone, .rd 1 R8 r.1.Value] := by
 refine Spec.enter Tryd.func53 rfl Tryd.ntmps53 rfl rfl fun fx => ?_
 refine SC.seq ?_
 refine SC.reg ?_
 refine SL.eff (e_alloc (E := 71) tk [ci .u16 0, nl] (by kernel_rfl)) rfl (by kernel_rfl) ?_
 refine SL.sim tk 1 [(0, vs 0), (1, vi .i64 at_2), (4, vp 1 0)] [] [] [] (by kernel_rfl) ?_
 refine SL.nilThen ?_
 refine SC.seq ?_
 refine SC.reg ?_
 refine SL.sim tk 5 [(0, vs 0), (1, vi .i64 at_2), (4, vp 1 0), (12, vb (decide ((w64 (at_2 + 8)) ≤ (len bank_1))))] [] [] [] (by kernel_rfl) ?_
 obtain ⟨x_3, e_x_3, hp⟩ := bind_inv hp
 refine SL.eff (e_c Tryd.call64 (ok_flash_need F (decide ((w64 (at_2 + 8)) ≤ (len bank_1))) _ e_x_3) [] [vb (decide ((w64 (at_2 + 8)) ≤ (len bank_1)))] (.u []) (by kernel_rfl) (.inl rfl)) rfl (by kernel_rfl) ?_
 refine SL.nilThen ?_
 refine SC.seq ?_
 refine SC.reg ?_
 refine SL.sim tk 4 [(0, vs 0), (1, vi .i64 at_2), (4, vp 1 0), (14, vs 0), (15, vi .i64 at_2), (17, vi .i64 (w64 (at_2 + 2)))] [] [] [] (by kernel_rfl) ?_
 obtain ⟨l_4, e_l_4, hp⟩ := bind_inv hp
 refine SL.eff (e_sub (sz := 1) (E := 5) (R := R8) (by_ := 1) (l := bank_1) tk rfl (.inl ⟨0, rfl, (by kernel_rfl)⟩) rfl rfl e_l_4 (by kernel_rfl)) rfl (by kernel_rfl) ?_
 refine SL.norm (itsN := [.rd 1 R8 bank_1, .blk 71 [ci .u16 0, nl], .rd 1 R8 l_4]) (by kernel_rfl) ?_
 obtain ⟨x_5, e_x_5, hp⟩ := bind_inv hp
 refine SL.eff (e_c Tryd.call51 (ok_flash_value F l_4 _ e_x_5) [.g 2] [vs 2] (vi .i64 x_5) (by kernel_rfl) (.inl rfl)) rfl (by kernel_rfl) ?_
 refine SL.sim tk 1 [(0, vs 0), (1, vi .i64 at_2), (4, vp 1 0), (6, vi .i64 x_5)] [] [] [] (by kernel_rfl) ?_
 refine SL.nilThen ?_
 refine SC.seq ?_
 refine SC.reg ?_
 refine SL.sim tk 11 [(0, vs 0), (1, vi .i64 at_2), (4, vp 1 0), (6, vi .i64 x_5), (30, vb ((decide (x_5 ≤ 1024)) && (decide ((w64 ((w64 (at_2 + 8)) + x_5)) ≤ (len bank_1)))))] [] [] [] (by kernel_rfl) ?_
 obtain ⟨x_6, e_x_6, hp⟩ := bind_inv hp
 refine SL.eff (e_c Tryd.call64 (ok_flash_need F ((decide (x_5 ≤ 1024)) && (decide ((w64 ((w64 (at_2 + 8)) + x_5)) ≤ (len bank_1)))) _ e_x_6) [] [vb ((decide (x_5 ≤ 1024)) && (decide ((w64 ((w64 (at_2 + 8)) + x_5)) ≤ (len bank_1))))] (.u []) (by kernel_rfl) (.inl rfl)) rfl (by kernel_rfl) ?_
 refine SL.norm (itsN := [.rd 1 R8 bank_1, .blk 71 [ci .u16 0, nl], .rd 1 R8 l_4]) (by kernel_rfl) ?_
 refine SL.nilThen ?_
 refine SC.cut (fun a w => ∃ (c_9 : T_api_Item), flash_read_j1 F bank_1 at_2 x_5 c_9 = some r ∧ A 70 1 fx [(0, vs 0), (1, vi .i64 at_2), (4, vp 1 0), (6, vi .i64 x_5), (7, vp 2 0)] [.rd 1 R8 bank_1, .blk 71 [ci .u16 0, nl], .blk 71 [ci .u16 c_9.Key, .s 3], .own 1 5 R8 c_9.Value] a w) ?_ ?_
 · refine SC.draw MO [true, true, true] (by kernel_rfl) fun kap_16 D_17 => ?_
   refine SD.takes tk D_17 [] kn0 [0, 1, 2, 3, 4, 8, 9, 10, 11, 12, 13, 14] [] [] (bm 21 32543) [(0, vs 0), (1, vi .i64 at_2), (4, vp 1 0), (6, vi .i64 x_5), (32, vs 0), (34, vi .i64 (w64 (at_2 + 2))), (36, vi .i64 (w64 (at_2 + 4))), (40, vs 0), (42, vi .i64 (w64 (at_2 + 4))), (46, vi .i64 (w64 ((w64 (at_2 + 4)) + x_5)))] rfl (by kernel_rfl) (by kernel_rfl) (by kernel_rfl) ?_
   obtain ⟨l_18, e_l_18, hp⟩ := bind_inv hp
   refine SD.sub (sz := 1) (E := 5) (R := R8) (by_ := 1) (l := bank_1) tk D_17 (i := 5) (bm 21 32575) rfl rfl (by kernel_rfl) rfl rfl rfl (.inl ⟨0, rfl, (by kernel_rfl)⟩) rfl rfl e_l_18 (by kernel_rfl) ?_
   obtain ⟨l_19, e_l_19, hp⟩ := bind_inv hp
   refine SD.sub (sz := 1) (E := 5) (R := R8) (by_ := 1) (l := bank_1) tk D_17 (i := 15) (bm 21 65343) rfl rfl (by kernel_rfl) rfl rfl rfl (.inl ⟨0, rfl, (by kernel_rfl)⟩) rfl rfl e_l_19 (by kernel_rfl) ?_
   obtain ⟨x_500, e_x_500, hp⟩ := bind_inv hp
   obtain ⟨x_1380, e_x_1380, hp⟩ := bind_inv hp
   refine SD.lay 0 (bm 21 2097151) [(0, vs 0), (1, vi .i64 at_2), (4, vp 1 0), (6, vi .i64 x_5), (7, vp 7 0)] [.rd 1 R8 bank_1, .blk 71 [ci .u16 0, nl], .rd 1 R8 l_4, .gone, .gone, .gone, .own 1 5 R8 x_1380, .blk 71 [ci .u16 (wu16 x_500), .s 6]] ?_ (fun c_19_0 => ?_)
   · refine SD.done (by kernel_rfl) fun a w h => ?_
     exact ⟨(T_api_Item.mk (wu16 x_500) x_1380), hp, h.at (js := [.g 0, .g 1, .g 7, .g 6]) (by kernel_rfl)⟩
   refine SD.lay 1 (bm 21 1048575) [(0, vs 0), (1, vi .i64 at_2), (4, vp 1 0), (6, vi .i64 x_5), (7, vp 7 0), (50, .g [ci .u16 (wu16 x_500), .s 6])] [.rd 1 R8 bank_1, .blk 71 [ci .u16 0, nl], .rd 1 R8 l_4, .gone, .gone, .gone, .own 1 5 R8 x_1380, .blk 71 [ci .u16 0, nl]] ?_ (fun c_19_1 => ?_)
   · refine SD.all1 (i := 20) (by kernel_rfl) ?_
     refine SW.store D_17 tk (i := 20) (q := 7) (T := 71) (cs := [ci .u16 (wu16 x_500), .s 6]) (bs' := (bm 21 2097151)) rfl (by kernel_rfl) rfl rfl (by kernel_rfl) ?_
     exact SD.vie D_17 [.g 0, .g 1, .g 2, .n, .n, .n, .g 6, .g 7] c_19_0 (by kernel_rfl)
   refine SD.lay 2 (bm 21 524287) [(0, vs 0), (1, vi .i64 at_2), (4, vp 1 0), (6, vi .i64 x_5), (50, .g [ci .u16 (wu16 x_500), .s 6])] [.rd 1 R8 bank_1, .blk 71 [ci .u16 0, nl], .rd 1 R8 l_4, .gone, .gone, .gone, .own 1 5 R8 x_1380] ?_ (fun c_19_2 => ?_)
   · refine SD.all1 (i := 19) (by kernel_rfl) ?_
     refine SW.eff D_17 (i := 19) (bs' := (bm 21 1048575)) rfl (.inl rfl) rfl (e_alloc (E := 71) tk [ci .u16 0, nl] (by kernel_rfl)) (by kernel_rfl) rfl (by kernel_rfl) ?_
     exact SD.vie D_17 [.g 0, .g 1, .g 2, .n, .n, .n, .g 6, .g 7] c_19_1 (by kernel_rfl)
   refine SD.lay 2 (bm 21 786431) [(0, vs 0), (1, vi .i64 at_2), (4, vp 1 0), (6, vi .i64 x_5), (7, vp 7 0), (39, vi .u16 (wu16 x_500)), (49, vs 6)] [.rd 1 R8 bank_1, .blk 71 [ci .u16 0, nl], .rd 1 R8 l_4, .gone, .gone, .gone, .own 1 5 R8 x_1380, .blk 71 [ci .u16 0, nl]] ?_ (fun c_19_3 => ?_)
   · refine SD.all1 (i := 18) (by kernel_rfl) ?_
     refine SW.eff D_17 (i := 18) (v := .g [ci .u16 (wu16 x_500), .s 6]) (bs' := (bm 21 1048575)) rfl (.inl rfl) rfl (e_val tk (by kernel_rfl)) (by kernel_rfl) rfl (by kernel_rfl) ?_
     exact SD.vie D_17 [.g 0, .g 1, .g 2, .n, .n, .n, .g 6, .g 7] c_19_1 (by kernel_rfl)
   refine SD.lay 3 (bm 21 262143) [(0, vs 0), (1, vi .i64 at_2), (4, vp 1 0), (6, vi .i64 x_5), (39, vi .u16 (wu16 x_500)), (49, vs 6)] [.rd 1 R8 bank_1, .blk 71 [ci .u16 0, nl], .rd 1 R8 l_4, .gone, .gone, .gone, .own 1 5 R8 x_1380] ?_ (fun c_19_4 => ?_)
   · refine SD.all2 (i := 18) (j := 19) (by kernel_rfl) ?_ ?_
     · refine SW.eff D_17 (i := 18) (v := .g [ci .u16 (wu16 x_500), .s 6]) (bs' := (bm 21 524287)) rfl (.inl rfl) rfl (e_val tk (by kernel_rfl)) (by kernel_rfl) rfl (by kernel_rfl) ?_
       exact SD.vie D_17 [.g 0, .g 1, .g 2, .n, .n, .n, .g 6] c_19_2 (by kernel_rfl)
     refine SW.eff D_17 (i := 19) (bs' := (bm 21 786431)) rfl (.inl rfl) rfl (e_alloc (E := 71) tk [ci .u16 0, nl] (by kernel_rfl)) (by kernel_rfl) rfl (by kernel_rfl) ?_
     exact SD.vie D_17 [.g 0, .g 1, .g 2, .n, .n, .n, .g 6, .g 7] c_19_3 (by kernel_rfl)
   refine SD.lay 3 (bm 21 655359) [(0, vs 0), (1, vi .i64 at_2), (4, vp 1 0), (6, vi .i64 x_5), (7, vp 6 0), (39, vi .u16 (wu16 x_500)), (48, vs 5)] [.rd 1 R8 bank_1, .blk 71 [ci .u16 0, nl], .rd 1 R8 l_4, .gone, .gone, .own 1 22 (RSl 1 R8) [l_19], .blk 71 [ci .u16 0, nl]] ?_ (fun c_19_5 => ?_)
   · refine SD.all1 (i := 17) (by kernel_rfl) ?_
     refine SW.eff D_17 (i := 17) (bs' := (bm 21 786431)) rfl (.inl rfl) rfl (e_c Tryd.call39 (ok_octets_Join F [l_19] _ e_x_1380) [.l 5] [vs 5] (vs 7) (by kernel_rfl) (.inr ⟨trivial, ⟨Fl.int, trivial⟩, trivial⟩)) (by kernel_rfl) rfl (by kernel_rfl) ?_
     exact SD.vie D_17 [.g 0, .g 1, .g 2, .n, .n, .n, .g 7, .g 6] c_19_3 (by kernel_rfl)
   refine SD.lay 4 (bm 21 131071) [(0, vs 0), (1, vi .i64 at_2), (4, vp 1 0), (6, vi .i64 x_5), (39, vi .u16 (wu16 x_500)), (48, vs 5)] [.rd 1 R8 bank_1, .blk 71 [ci .u16 0, nl], .rd 1 R8 l_4, .gone, .gone, .own 1 22 (RSl 1 R8) [l_19]] ?_ (fun c_19_6 => ?_)
   · refine SD.all2 (i := 17) (j := 19) (by kernel_rfl) ?_ ?_
     · refine SW.eff D_17 (i := 17) (bs' := (bm 21 262143)) rfl (.inl rfl) rfl (e_c Tryd.call39 (ok_octets_Join F [l_19] _ e_x_1380) [.l 5] [vs 5] (vs 6) (by kernel_rfl) (.inr ⟨trivial, ⟨Fl.int, trivial⟩, trivial⟩)) (by kernel_rfl) rfl (by kernel_rfl) ?_
       exact SD.vie D_17 [.g 0, .g 1, .g 2, .n, .n, .n, .g 6] c_19_4 (by kernel_rfl)
     refine SW.eff D_17 (i := 19) (bs' := (bm 21 655359)) rfl (.inl rfl) rfl (e_alloc (E := 71) tk [ci .u16 0, nl] (by kernel_rfl)) (by kernel_rfl) rfl (by kernel_rfl) ?_
     exact SD.vie D_17 [.g 0, .g 1, .g 2, .n, .n, .g 5, .g 6] c_19_5 (by kernel_rfl)
   refine SD.lay 4 (bm 21 589823) [(0, vs 0), (1, vi .i64 at_2), (4, vp 1 0), (6, vi .i64 x_5), (7, vp 5 0), (39, vi .u16 (wu16 x_500)), (47, vs 4)] [.rd 1 R8 bank_1, .blk 71 [ci .u16 0, nl], .rd 1 R8 l_4, .gone, .rd 1 R8 l_19, .blk 71 [ci .u16 0, nl]] ?_ (fun c_19_7 => ?_)
   · refine SD.all1 (i := 16) (by kernel_rfl) ?_
     refine SW.eff D_17 (i := 16) (bs' := (bm 21 655359)) rfl (.inl rfl) rfl (e_lit (sz := 1) (E := 22) (R := (RSl 1 R8)) (by_ := 24) tk [[.s 4]] [l_19] (by kernel_rfl) ⟨(Clo.sl (by kernel_rfl)), trivial⟩ rfl (by kernel_rfl) (by kernel_rfl)) (by kernel_rfl) rfl (by kernel_rfl) ?_
     exact SD.vie D_17 [.g 0, .g 1, .g 2, .n, .n, .g 6, .g 5] c_19_5 (by kernel_rfl)
   refine SD.lay 5 (bm 21 65535) [(0, vs 0), (1, vi .i64 at_2), (4, vp 1 0), (6, vi .i64 x_5), (39, vi .u16 (wu16 x_500)), (47, vs 4)] [.rd 1 R8 bank_1, .blk 71 [ci .u16 0, nl], .rd 1 R8 l_4, .gone, .rd 1 R8 l_19] ?_ (fun c_19_8 => ?_)
   · refine SD.all2 (i := 16) (j := 19) (by kernel_rfl) ?_ ?_
     · refine SW.eff D_17 (i := 16) (bs' := (bm 21 131071)) rfl (.inl rfl) rfl (e_lit (sz := 1) (E := 22) (R := (RSl 1 R8)) (by_ := 24) tk [[.s 4]] [l_19] (by kernel_rfl) ⟨(Clo.sl (by kernel_rfl)), trivial⟩ rfl (by kernel_rfl) (by kernel_rfl)) (by kernel_rfl) rfl (by kernel_rfl) ?_
       exact SD.vie D_17 [.g 0, .g 1, .g 2, .n, .n, .g 5] c_19_6 (by kernel_rfl)
     refine SW.eff D_17 (i := 19) (bs' := (bm 21 589823)) rfl (.inl rfl) rfl (e_alloc (E := 71) tk [ci .u16 0, nl] (by kernel_rfl)) (by kernel_rfl) rfl (by kernel_rfl) ?_
     exact SD.vie D_17 [.g 0, .g 1, .g 2, .n, .g 4, .g 5] c_19_7 (by kernel_rfl)
   refine SD.lay 5 (bm 21 655167) [(0, vs 0), (1, vi .i64 at_2), (4, vp 1 0), (6, vi .i64 x_5), (7, vp 6 0), (37, vs 3), (48, vs 5)] [.rd 1 R8 bank_1, .blk 71 [ci .u16 0, nl], .rd 1 R8 l_4, .rd 1 R8 l_18, .gone, .own 1 22 (RSl 1 R8) [l_19], .blk 71 [ci .u16 0, nl]] ?_ (fun c_19_9 => ?_)
   · refine SD.all1 (i := 6) (by kernel_rfl) ?_
     refine SW.eff D_17 (i := 6) (bs' := (bm 21 655231)) rfl (.inl rfl) rfl (e_c Tryd.call51 (ok_flash_value F l_18 _ e_x_500) [.g 3] [vs 3] (vi .i64 x_500) (by kernel_rfl) (.inl rfl)) (by kernel_rfl) rfl (by kernel_rfl) ?_
     refine SD.takes tk D_17 [] kn0 [7] [] [] (bm 21 655359) [(0, vs 0), (1, vi .i64 at_2), (4, vp 1 0), (6, vi .i64 x_5), (7, vp 6 0), (39, vi .u16 (wu16 x_500)), (48, vs 5)] rfl (by kernel_rfl) (by kernel_rfl) (by kernel_rfl) ?_
     exact SD.vie D_17 [.g 0, .g 1, .g 2, .n, .n, .g 5, .g 6] c_19_5 (by kernel_rfl)
   refine SD.lay 6 (bm 21 130879) [(0, vs 0), (1, vi .i64 at_2), (4, vp 1 0), (6, vi .i64 x_5), (37, vs 3), (48, vs 5)] [.rd 1 R8 bank_1, .blk 71 [ci .u16 0, nl], .rd 1 R8 l_4, .rd 1 R8 l_18, .gone, .own 1 22 (RSl 1 R8) [l_19]] ?_ (fun c_19_10 => ?_)
   · refine SD.all2 (i := 6) (j := 19) (by kernel_rfl) ?_ ?_
     · refine SW.eff D_17 (i := 6) (bs' := (bm 21 130943)) rfl (.inl rfl) rfl (e_c Tryd.call51 (ok_flash_value F l_18 _ e_x_500) [.g 3] [vs 3] (vi .i64 x_500) (by kernel_rfl) (.inl rfl)) (by kernel_rfl) rfl (by kernel_rfl) ?_
       refine SD.takes tk D_17 [] kn0 [7] [] [] (bm 21 131071) [(0, vs 0), (1, vi .i64 at_2), (4, vp 1 0), (6, vi .i64 x_5), (39, vi .u16 (wu16 x_500)), (48, vs 5)] rfl (by kernel_rfl) (by kernel_rfl) (by kernel_rfl) ?_
       exact SD.vie D_17 [.g 0, .g 1, .g 2, .n, .n, .g 5] c_19_6 (by kernel_rfl)
     refine SW.eff D_17 (i := 19) (bs' := (bm 21 655167)) rfl (.inl rfl) rfl (e_alloc (E := 71) tk [ci .u16 0, nl] (by kernel_rfl)) (by kernel_rfl) rfl (by kernel_rfl) ?_
     exact SD.vie D_17 [.g 0, .g 1, .g 2, .g 3, .n, .g 5, .g 6] c_19_9 (by kernel_rfl)
   refine SD.lay 6 (bm 21 589631) [(0, vs 0), (1, vi .i64 at_2), (4, vp 1 0), (6, vi .i64 x_5), (7, vp 5 0), (37, vs 3), (47, vs 4)] [.rd 1 R8 bank_1, .blk 71 [ci .u16 0, nl], .rd 1 R8 l_4, .rd 1 R8 l_18, .rd 1 R8 l_19, .blk 71 [ci .u16 0, nl]] ?_ (fun c_19_11 => ?_)
   · refine SD.all2 (i := 6) (j := 16) (by kernel_rfl) ?_ ?_
     · refine SW.eff D_17 (i := 6) (bs' := (bm 21 589695)) rfl (.inl rfl) rfl (e_c Tryd.call51 (ok_flash_value F l_18 _ e_x_500) [.g 3] [vs 3] (vi .i64 x_500) (by kernel_rfl) (.inl rfl)) (by kernel_rfl) rfl (by kernel_rfl) ?_
       refine SD.takes tk D_17 [] kn0 [7] [] [] (bm 21 589823) [(0, vs 0), (1, vi .i64 at_2), (4, vp 1 0), (6, vi .i64 x_5), (7, vp 5 0), (39, vi .u16 (wu16 x_500)), (47, vs 4)] rfl (by kernel_rfl) (by kernel_rfl) (by kernel_rfl) ?_
       exact SD.vie D_17 [.g 0, .g 1, .g 2, .n, .g 4, .g 5] c_19_7 (by kernel_rfl)
     refine SW.eff D_17 (i := 16) (bs' := (bm 21 655167)) rfl (.inl rfl) rfl (e_lit (sz := 1) (E := 22) (R := (RSl 1 R8)) (by_ := 24) tk [[.s 4]] [l_19] (by kernel_rfl) ⟨(Clo.sl (by kernel_rfl)), trivial⟩ rfl (by kernel_rfl) (by kernel_rfl)) (by kernel_rfl) rfl (by kernel_rfl) ?_
     exact SD.vie D_17 [.g 0, .g 1, .g 2, .g 3, .n, .g 6, .g 5] c_19_9 (by kernel_rfl)
   refine SD.all3 (i := 6) (j := 16) (k := 19) (by kernel_rfl) ?_ ?_ ?_
   · refine SW.eff D_17 (i := 6) (bs' := (bm 21 65407)) rfl (.inl rfl) rfl (e_c Tryd.call51 (ok_flash_value F l_18 _ e_x_500) [.g 3] [vs 3] (vi .i64 x_500) (by kernel_rfl) (.inl rfl)) (by kernel_rfl) rfl (by kernel_rfl) ?_
     refine SD.norm (itsN := [.rd 1 R8 bank_1, .blk 71 [ci .u16 0, nl], .rd 1 R8 l_4, .rd 1 R8 l_18, .rd 1 R8 l_19]) (by kernel_rfl) ?_
     refine SD.takes tk D_17 [] kn0 [7] [] [] (bm 21 65535) [(0, vs 0), (1, vi .i64 at_2), (4, vp 1 0), (6, vi .i64 x_5), (39, vi .u16 (wu16 x_500)), (47, vs 4)] rfl (by kernel_rfl) (by kernel_rfl) (by kernel_rfl) ?_
     exact SD.vie D_17 [.g 0, .g 1, .g 2, .n, .g 4] c_19_8 (by kernel_rfl)
   · refine SW.eff D_17 (i := 16) (bs' := (bm 21 130879)) rfl (.inl rfl) rfl (e_lit (sz := 1) (E := 22) (R := (RSl 1 R8)) (by_ := 24) tk [[.s 4]] [l_19] (by kernel_rfl) ⟨(Clo.sl (by kernel_rfl)), trivial⟩ rfl (by kernel_rfl) (by kernel_rfl)) (by kernel_rfl) rfl (by kernel_rfl) ?_
     refine SD.norm (itsN := [.rd 1 R8 bank_1, .blk 71 [ci .u16 0, nl], .rd 1 R8 l_4, .rd 1 R8 l_18, .rd 1 R8 l_19, .own 1 22 (RSl 1 R8) [l_19]]) (by kernel_rfl) ?_
     exact SD.vie D_17 [.g 0, .g 1, .g 2, .g 3, .n, .g 5] c_19_10 (by kernel_rfl)
   refine SW.eff D_17 (i := 19) (bs' := (bm 21 589631)) rfl (.inl rfl) rfl (e_alloc (E := 71) tk [ci .u16 0, nl] (by kernel_rfl)) (by kernel_rfl) rfl (by kernel_rfl) ?_
   refine SD.norm (itsN := [.rd 1 R8 bank_1, .blk 71 [ci .u16 0, nl], .rd 1 R8 l_4, .rd 1 R8 l_18, .rd 1 R8 l_19, .blk 71 [ci .u16 0, nl]]) (by kernel_rfl) ?_
   exact SD.vie D_17 [.g 0, .g 1, .g 2, .g 3, .g 4, .g 5] c_19_11 (by kernel_rfl)
 rintro a w ⟨c_9, hp, h⟩
 refine h.go ?_
 refine SC.cut (fun a w => flash_read_j2 F at_2 x_5 c_9 = some r ∧ A 70 1 fx [(1, vi .i64 at_2), (4, vp 1 0), (6, vi .i64 x_5), (7, vp 2 0)] [.gone, .blk 71 [ci .u16 0, nl], .blk 71 [ci .u16 c_9.Key, .s 3], .rd 1 R8 c_9.Value] a w) ?_ ?_
 · refine SC.pre (pre_frz (i := 3) (sz := 1) (E := 5) (R := R8) (l := c_9.Value) (by kernel_rfl)) ?_
   refine SC.draw MO [true, true, true, true] (by kernel_rfl) fun kap_10 D_11 => ?_
   refine SD.takes tk D_11 [] kn0 [0, 1, 2, 3, 5, 6, 7, 8, 9, 10] [] [] (bm 14 2031) [(1, vi .i64 at_2), (4, vp 1 0), (6, vi .i64 x_5), (7, vp 2 0), (52, vi .u16 c_9.Key), (54, vs 3), (56, vs 0), (57, vi .i64 at_2), (61, vi .i64 (w64 ((w64 (at_2 + 8)) + x_5)))] rfl (by kernel_rfl) (by kernel_rfl) (by kernel_rfl) ?_
   obtain ⟨l_12, e_l_12, hp⟩ := bind_inv hp
   refine SD.sub (sz := 1) (E := 5) (R := R8) (by_ := 1) (l := bank_1) tk D_11 (i := 11) (bm 14 4079) rfl rfl (by kernel_rfl) rfl rfl rfl (.inl ⟨0, rfl, (by kernel_rfl)⟩) rfl rfl e_l_12 (by kernel_rfl) ?_
   obtain ⟨x_13, e_x_13, hp⟩ := bind_inv hp
   refine SD.all1 (i := 4) (by kernel_rfl) ?_
   refine SW.eff D_11 (i := 4) (bs' := (bm 14 4095)) rfl (.inl rfl) rfl (e_c Tryd.call42 (ok_flash_record F c_9.Key c_9.Value _ e_x_13) [.g 3] [vi .u16 c_9.Key, vs 3] (vs 5) (by kernel_rfl) (.inl rfl)) (by kernel_rfl) rfl (by kernel_rfl) ?_
   obtain ⟨x_14, e_x_14, hp⟩ := bind_inv hp
   refine SD.all1 (i := 12) (by kernel_rfl) ?_
   refine SW.eff D_11 (i := 12) (bs' := (bm 14 8191)) rfl (.inl rfl) rfl (e_c Tryd.call41 (ok_slices_Equal_byte_byte F x_13 l_12 _ e_x_14) [.g 5, .g 4] [vs 5, vs 4] (vb x_14) (by kernel_rfl) (.inl rfl)) (by kernel_rfl) rfl (by kernel_rfl) ?_
   refine SD.norm (itsN := [.rd 1 R8 bank_1, .blk 71 [ci .u16 0, nl], .blk 71 [ci .u16 c_9.Key, .s 3], .rd 1 R8 c_9.Value, .rd 1 R8 l_12, .rd 1 R8 x_13]) (by kernel_rfl) ?_
   obtain ⟨x_15, e_x_15, hp⟩ := bind_inv hp
   refine SD.all1 (i := 13) (by kernel_rfl) ?_
   refine SW.eff D_11 (i := 13) (bs' := (bm 14 16383)) rfl (.inl rfl) rfl (e_c Tryd.call64 (ok_flash_need F x_14 _ e_x_15) [] [vb x_14] (.u []) (by kernel_rfl) (.inl rfl)) (by kernel_rfl) rfl (by kernel_rfl) ?_
   refine SD.done (by kernel_rfl) fun a w h => ?_
   exact ⟨hp, h.at (js := [.g 0, .g 1, .g 2, .g 3]) (by kernel_rfl)⟩
 rintro a w ⟨hp, h⟩
 refine h.go ?_
 refine SC.r tk [(4, vp 1 0), (5, vi .i64 (w64 ((w64 (at_2 + 8)) + x_5)))] [(1, 71, [ci .u16 c_9.Key, .s 3])] [] [] (by kernel_rfl) ?_
 obtain rfl := some_inv' hp
 exact SC.re (js := [.g 0, .g 3]) tk (by kernel_rfl)

theorem ok_flash_readP (F : Nat) (bank_1 : (List Int)) (at_2 : Int) (hp : flash_readP F bank_1 at_2 = some none) : SpecP Tryd.prog 53 [vs 0, vi .i64 at_2] [.rd 1 R8 bank_1] PV := by
 refine SpecP.enter Tryd.func53 rfl Tryd.ntmps53 rfl rfl fun fx hpx => ?_
 refine SC.seq ?_
 refine SC.reg ?_
 refine SL.eff (e_alloc (E := 71) tk [ci .u16 0, nl] (by kernel_rfl)) rfl (by kernel_rfl) ?_
 refine SL.sim tk 1 [(0, vs 0), (1, vi .i64 at_2), (4, vp 1 0)] [] [] [] (by kernel_rfl) ?_
 refine SL.nilThen ?_
 refine SC.seq ?_
 refine SC.reg ?_
 refine SL.sim tk 5 [(0, vs 0), (1, vi .i64 at_2), (4, vp 1 0), (12, vb (decide ((w64 (at_2 + 8)) ≤ (len bank_1))))] [] [] [] (by kernel_rfl) ?_
 rcases Bool.eq_false_or_eq_true (decide ((w64 (at_2 + 8)) ≤ (len bank_1))) with hn_3 | hn_3
 · replace hp := if_t hp hn_3
   obtain ⟨x_4, e_x_4, hp⟩ := bind_inv hp
   refine SL.eff (e_c Tryd.call64 (ok_flash_need F (decide ((w64 (at_2 + 8)) ≤ (len bank_1))) _ e_x_4) [] [vb (decide ((w64 (at_2 + 8)) ≤ (len bank_1)))] (.u []) (by kernel_rfl) (.inl rfl)) rfl (by kernel_rfl) ?_
   refine SL.nilThen ?_
   refine SC.seq ?_
   refine SC.reg ?_
   refine SL.sim tk 4 [(0, vs 0), (1, vi .i64 at_2), (4, vp 1 0), (14, vs 0), (15, vi .i64 at_2), (17, vi .i64 (w64 (at_2 + 2)))] [] [] [] (by kernel_rfl) ?_
   obtain ⟨l_5, e_l_5, hp⟩ := bind_inv hp
   refine SL.eff (e_sub (sz := 1) (E := 5) (R := R8) (by_ := 1) (l := bank_1) tk rfl (.inl ⟨0, rfl, (by kernel_rfl)⟩) rfl rfl e_l_5 (by kernel_rfl)) rfl (by kernel_rfl) ?_
   refine SL.norm (itsN := [.rd 1 R8 bank_1, .blk 71 [ci .u16 0, nl], .rd 1 R8 l_5]) (by kernel_rfl) ?_
   obtain ⟨x_6, e_x_6, hp⟩ := bind_inv hp
   refine SL.eff (e_c Tryd.call51 (ok_flash_value F l_5 _ e_x_6) [.g 2] [vs 2] (vi .i64 x_6) (by kernel_rfl) (.inl rfl)) rfl (by kernel_rfl) ?_
   refine SL.sim tk 1 [(0, vs 0), (1, vi .i64 at_2), (4, vp 1 0), (6, vi .i64 x_6)] [] [] [] (by kernel_rfl) ?_
   refine SL.nilThen ?_
   refine SC.seq ?_
   refine SC.reg ?_
   refine SL.sim tk 11 [(0, vs 0), (1, vi .i64 at_2), (4, vp 1 0), (6, vi .i64 x_6), (30, vb ((decide (x_6 ≤ 1024)) && (decide ((w64 ((w64 (at_2 + 8)) + x_6)) ≤ (len bank_1)))))] [] [] [] (by kernel_rfl) ?_
   rcases Bool.eq_false_or_eq_true (((decide (x_6 ≤ 1024)) && (decide ((w64 ((w64 (at_2 + 8)) + x_6)) ≤ (len bank_1))))) with hn_7 | hn_7
   · replace hp := if_t hp hn_7
     obtain ⟨x_8, e_x_8, hp⟩ := bind_inv hp
     refine SL.eff (e_c Tryd.call64 (ok_flash_need F ((decide (x_6 ≤ 1024)) && (decide ((w64 ((w64 (at_2 + 8)) + x_6)) ≤ (len bank_1)))) _ e_x_8) [] [vb ((decide (x_6 ≤ 1024)) && (decide ((w64 ((w64 (at_2 + 8)) + x_6)) ≤ (len bank_1))))] (.u []) (by kernel_rfl) (.inl rfl)) rfl (by kernel_rfl) ?_
     refine SL.norm (itsN := [.rd 1 R8 bank_1, .blk 71 [ci .u16 0, nl], .rd 1 R8 l_5]) (by kernel_rfl) ?_
     refine SL.nilThen ?_
     refine SC.cut (fun a w => ∃ (c_11 : T_api_Item), flash_readP_j1 F bank_1 at_2 x_6 c_11 = some none ∧ A 70 1 fx [(0, vs 0), (1, vi .i64 at_2), (4, vp 1 0), (6, vi .i64 x_6), (7, vp 2 0)] [.rd 1 R8 bank_1, .blk 71 [ci .u16 0, nl], .blk 71 [ci .u16 c_11.Key, .s 3], .own 1 5 R8 c_11.Value] a w) ?_ ?_
     · refine SC.draw MO [true, true, true] (by kernel_rfl) fun kap_19 D_20 => ?_
       refine SD.takes tk D_20 [] kn0 [0, 1, 2, 3, 4, 8, 9, 10, 11, 12, 13, 14] [] [] (bm 21 32543) [(0, vs 0), (1, vi .i64 at_2), (4, vp 1 0), (6, vi .i64 x_6), (32, vs 0), (34, vi .i64 (w64 (at_2 + 2))), (36, vi .i64 (w64 (at_2 + 4))), (40, vs 0), (42, vi .i64 (w64 (at_2 + 4))), (46, vi .i64 (w64 ((w64 (at_2 + 4)) + x_6)))] rfl (by kernel_rfl) (by kernel_rfl) (by kernel_rfl) ?_
       obtain ⟨l_21, e_l_21, hp⟩ := bind_inv hp
       refine SD.sub (sz := 1) (E := 5) (R := R8) (by_ := 1) (l := bank_1) tk D_20 (i := 5) (bm 21 32575) rfl rfl (by kernel_rfl) rfl rfl rfl (.inl ⟨0, rfl, (by kernel_rfl)⟩) rfl rfl e_l_21 (by kernel_rfl) ?_
       obtain ⟨l_22, e_l_22, hp⟩ := bind_inv hp
       refine SD.sub (sz := 1) (E := 5) (R := R8) (by_ := 1) (l := bank_1) tk D_20 (i := 15) (bm 21 65343) rfl rfl (by kernel_rfl) rfl rfl rfl (.inl ⟨0, rfl, (by kernel_rfl)⟩) rfl rfl e_l_22 (by kernel_rfl) ?_
       obtain ⟨x_503, e_x_503, hp⟩ := bind_inv hp
       obtain ⟨x_1383, e_x_1383, hp⟩ := bind_inv hp
       refine SD.lay 0 (bm 21 2097151) [(0, vs 0), (1, vi .i64 at_2), (4, vp 1 0), (6, vi .i64 x_6), (7, vp 7 0)] [.rd 1 R8 bank_1, .blk 71 [ci .u16 0, nl], .rd 1 R8 l_5, .gone, .gone, .gone, .own 1 5 R8 x_1383, .blk 71 [ci .u16 (wu16 x_503), .s 6]] ?_ (fun c_22_0 => ?_)
       · refine SD.done (by kernel_rfl) fun a w h => ?_
         exact ⟨(T_api_Item.mk (wu16 x_503) x_1383), hp, h.at (js := [.g 0, .g 1, .g 7, .g 6]) (by kernel_rfl)⟩
       refine SD.lay 1 (bm 21 1048575) [(0, vs 0), (1, vi .i64 at_2), (4, vp 1 0), (6, vi .i64 x_6), (7, vp 7 0), (50, .g [ci .u16 (wu16 x_503), .s 6])] [.rd 1 R8 bank_1, .blk 71 [ci .u16 0, nl], .rd 1 R8 l_5, .gone, .gone, .gone, .own 1 5 R8 x_1383, .blk 71 [ci .u16 0, nl]] ?_ (fun c_22_1 => ?_)
       · refine SD.all1 (i := 20) (by kernel_rfl) ?_
         refine SW.store D_20 tk (i := 20) (q := 7) (T := 71) (cs := [ci .u16 (wu16 x_503), .s 6]) (bs' := (bm 21 2097151)) rfl (by kernel_rfl) rfl rfl (by kernel_rfl) ?_
         exact SD.vie D_20 [.g 0, .g 1, .g 2, .n, .n, .n, .g 6, .g 7] c_22_0 (by kernel_rfl)
       refine SD.lay 2 (bm 21 524287) [(0, vs 0), (1, vi .i64 at_2), (4, vp 1 0), (6, vi .i64 x_6), (50, .g [ci .u16 (wu16 x_503), .s 6])] [.rd 1 R8 bank_1, .blk 71 [ci .u16 0, nl], .rd 1 R8 l_5, .gone, .gone, .gone, .own 1 5 R8 x_1383] ?_ (fun c_22_2 => ?_)
       · refine SD.all1 (i := 19) (by kernel_rfl) ?_
         refine SW.eff D_20 (i := 19) (bs' := (bm 21 1048575)) rfl (.inl rfl) rfl (e_alloc (E := 71) tk [ci .u16 0, nl] (by kernel_rfl)) (by kernel_rfl) rfl (by kernel_rfl) ?_
         exact SD.vie D_20 [.g 0, .g 1, .g 2, .n, .n, .n, .g 6, .g 7] c_22_1 (by kernel_rfl)
       refine SD.lay 2 (bm 21 786431) [(0, vs 0), (1, vi .i64 at_2), (4, vp 1 0), (6, vi .i64 x_6), (7, vp 7 0), (39, vi .u16 (wu16 x_503)), (49, vs 6)] [.rd 1 R8 bank_1, .blk 71 [ci .u16 0, nl], .rd 1 R8 l_5, .gone, .gone, .gone, .own 1 5 R8 x_1383, .blk 71 [ci .u16 0, nl]] ?_ (fun c_22_3 => ?_)
       · refine SD.all1 (i := 18) (by kernel_rfl) ?_
         refine SW.eff D_20 (i := 18) (v := .g [ci .u16 (wu16 x_503), .s 6]) (bs' := (bm 21 1048575)) rfl (.inl rfl) rfl (e_val tk (by kernel_rfl)) (by kernel_rfl) rfl (by kernel_rfl) ?_
         exact SD.vie D_20 [.g 0, .g 1, .g 2, .n, .n, .n, .g 6, .g 7] c_22_1 (by kernel_rfl)
       refine SD.lay 3 (bm 21 262143) [(0, vs 0), (1, vi .i64 at_2), (4, vp 1 0), (6, vi .i64 x_6), (39, vi .u16 (wu16 x_503)), (49, vs 6)] [.rd 1 R8 bank_1, .blk 71 [ci .u16 0, nl], .rd 1 R8 l_5, .gone, .gone, .gone, .own 1 5 R8 x_1383] ?_ (fun c_22_4 => ?_)
       · refine SD.all2 (i := 18) (j := 19) (by kernel_rfl) ?_ ?_
         · refine SW.eff D_20 (i := 18) (v := .g [ci .u16 (wu16 x_503), .s 6]) (bs' := (bm 21 524287)) rfl (.inl rfl) rfl (e_val tk (by kernel_rfl)) (by kernel_rfl) rfl (by kernel_rfl) ?_
           exact SD.vie D_20 [.g 0, .g 1, .g 2, .n, .n, .n, .g 6] c_22_2 (by kernel_rfl)
         refine SW.eff D_20 (i := 19) (bs' := (bm 21 786431)) rfl (.inl rfl) rfl (e_alloc (E := 71) tk [ci .u16 0, nl] (by kernel_rfl)) (by kernel_rfl) rfl (by kernel_rfl) ?_
         exact SD.vie D_20 [.g 0, .g 1, .g 2, .n, .n, .n, .g 6, .g 7] c_22_3 (by kernel_rfl)
       refine SD.lay 3 (bm 21 655359) [(0, vs 0), (1, vi .i64 at_2), (4, vp 1 0), (6, vi .i64 x_6), (7, vp 6 0), (39, vi .u16 (wu16 x_503)), (48, vs 5)] [.rd 1 R8 bank_1, .blk 71 [ci .u16 0, nl], .rd 1 R8 l_5, .gone, .gone, .own 1 22 (RSl 1 R8) [l_22], .blk 71 [ci .u16 0, nl]] ?_ (fun c_22_5 => ?_)
       · refine SD.all1 (i := 17) (by kernel_rfl) ?_
         refine SW.eff D_20 (i := 17) (bs' := (bm 21 786431)) rfl (.inl rfl) rfl (e_c Tryd.call39 (ok_octets_Join F [l_22] _ e_x_1383) [.l 5] [vs 5] (vs 7) (by kernel_rfl) (.inr ⟨trivial, ⟨Fl.int, trivial⟩, trivial⟩)) (by kernel_rfl) rfl (by kernel_rfl) ?_
         exact SD.vie D_20 [.g 0, .g 1, .g 2, .n, .n, .n, .g 7, .g 6] c_22_3 (by kernel_rfl)
       refine SD.lay 4 (bm 21 131071) [(0, vs 0), (1, vi .i64 at_2), (4, vp 1 0), (6, vi .i64 x_6), (39, vi .u16 (wu16 x_503)), (48, vs 5)] [.rd 1 R8 bank_1, .blk 71 [ci .u16 0, nl], .rd 1 R8 l_5, .gone, .gone, .own 1 22 (RSl 1 R8) [l_22]] ?_ (fun c_22_6 => ?_)
       · refine SD.all2 (i := 17) (j := 19) (by kernel_rfl) ?_ ?_
         · refine SW.eff D_20 (i := 17) (bs' := (bm 21 262143)) rfl (.inl rfl) rfl (e_c Tryd.call39 (ok_octets_Join F [l_22] _ e_x_1383) [.l 5] [vs 5] (vs 6) (by kernel_rfl) (.inr ⟨trivial, ⟨Fl.int, trivial⟩, trivial⟩)) (by kernel_rfl) rfl (by kernel_rfl) ?_
           exact SD.vie D_20 [.g 0, .g 1, .g 2, .n, .n, .n, .g 6] c_22_4 (by kernel_rfl)
         refine SW.eff D_20 (i := 19) (bs' := (bm 21 655359)) rfl (.inl rfl) rfl (e_alloc (E := 71) tk [ci .u16 0, nl] (by kernel_rfl)) (by kernel_rfl) rfl (by kernel_rfl) ?_
         exact SD.vie D_20 [.g 0, .g 1, .g 2, .n, .n, .g 5, .g 6] c_22_5 (by kernel_rfl)
       refine SD.lay 4 (bm 21 589823) [(0, vs 0), (1, vi .i64 at_2), (4, vp 1 0), (6, vi .i64 x_6), (7, vp 5 0), (39, vi .u16 (wu16 x_503)), (47, vs 4)] [.rd 1 R8 bank_1, .blk 71 [ci .u16 0, nl], .rd 1 R8 l_5, .gone, .rd 1 R8 l_22, .blk 71 [ci .u16 0, nl]] ?_ (fun c_22_7 => ?_)
       · refine SD.all1 (i := 16) (by kernel_rfl) ?_
         refine SW.eff D_20 (i := 16) (bs' := (bm 21 655359)) rfl (.inl rfl) rfl (e_lit (sz := 1) (E := 22) (R := (RSl 1 R8)) (by_ := 24) tk [[.s 4]] [l_22] (by kernel_rfl) ⟨(Clo.sl (by kernel_rfl)), trivial⟩ rfl (by kernel_rfl) (by kernel_rfl)) (by kernel_rfl) rfl (by kernel_rfl) ?_
         exact SD.vie D_20 [.g 0, .g 1, .g 2, .n, .n, .g 6, .g 5] c_22_5 (by kernel_rfl)
       refine SD.lay 5 (bm 21 65535) [(0, vs 0), (1, vi .i64 at_2), (4, vp 1 0), (6, vi .i64 x_6), (39, vi .u16 (wu16 x_503)), (47, vs 4)] [.rd 1 R8 bank_1, .blk 71 [ci .u16 0, nl], .rd 1 R8 l_5, .gone, .rd 1 R8 l_22] ?_ (fun c_22_8 => ?_)
       · refine SD.all2 (i := 16) (j := 19) (by kernel_rfl) ?_ ?_
         · refine SW.eff D_20 (i := 16) (bs' := (bm 21 131071)) rfl (.inl rfl) rfl (e_lit (sz := 1) (E := 22) (R := (RSl 1 R8)) (by_ := 24) tk [[.s 4]] [l_22] (by kernel_rfl) ⟨(Clo.sl (by kernel_rfl)), trivial⟩ rfl (by kernel_rfl) (by kernel_rfl)) (by kernel_rfl) rfl (by kernel_rfl) ?_
           exact SD.vie D_20 [.g 0, .g 1, .g 2, .n, .n, .g 5] c_22_6 (by kernel_rfl)
         refine SW.eff D_20 (i := 19) (bs' := (bm 21 589823)) rfl (.inl rfl) rfl (e_alloc (E := 71) tk [ci .u16 0, nl] (by kernel_rfl)) (by kernel_rfl) rfl (by kernel_rfl) ?_
         exact SD.vie D_20 [.g 0, .g 1, .g 2, .n, .g 4, .g 5] c_22_7 (by kernel_rfl)
       refine SD.lay 5 (bm 21 655167) [(0, vs 0), (1, vi .i64 at_2), (4, vp 1 0), (6, vi .i64 x_6), (7, vp 6 0), (37, vs 3), (48, vs 5)] [.rd 1 R8 bank_1, .blk 71 [ci .u16 0, nl], .rd 1 R8 l_5, .rd 1 R8 l_21, .gone, .own 1 22 (RSl 1 R8) [l_22], .blk 71 [ci .u16 0, nl]] ?_ (fun c_22_9 => ?_)
       · refine SD.all1 (i := 6) (by kernel_rfl) ?_
         refine SW.eff D_20 (i := 6) (bs' := (bm 21 655231)) rfl (.inl rfl) rfl (e_c Tryd.call51 (ok_flash_value F l_21 _ e_x_503) [.g 3] [vs 3] (vi .i64 x_503) (by kernel_rfl) (.inl rfl)) (by kernel_rfl) rfl (by kernel_rfl) ?_
         refine SD.takes tk D_20 [] kn0 [7] [] [] (bm 21 655359) [(0, vs 0), (1, vi .i64 at_2), (4, vp 1 0), (6, vi .i64 x_6), (7, vp 6 0), (39, vi .u16 (wu16 x_503)), (48, vs 5)] rfl (by kernel_rfl) (by kernel_rfl) (by kernel_rfl) ?_
         exact SD.vie D_20 [.g 0, .g 1, .g 2, .n, .n, .g 5, .g 6] c_22_5 (by kernel_rfl)
       refine SD.lay 6 (bm 21 130879) [(0, vs 0), (1, vi .i64 at_2), (4, vp 1 0), (6, vi .i64 x_6), (37, vs 3), (48, vs 5)] [.rd 1 R8 bank_1, .blk 71 [ci .u16 0, nl], .rd 1 R8 l_5, .rd 1 R8 l_21, .gone, .own 1 22 (RSl 1 R8) [l_22]] ?_ (fun c_22_10 => ?_)
       · refine SD.all2 (i := 6) (j := 19) (by kernel_rfl) ?_ ?_
         · refine SW.eff D_20 (i := 6) (bs' := (bm 21 130943)) rfl (.inl rfl) rfl (e_c Tryd.call51 (ok_flash_value F l_21 _ e_x_503) [.g 3] [vs 3] (vi .i64 x_503) (by kernel_rfl) (.inl rfl)) (by kernel_rfl) rfl (by kernel_rfl) ?_
           refine SD.takes tk D_20 [] kn0 [7] [] [] (bm 21 131071) [(0, vs 0), (1, vi .i64 at_2), (4, vp 1 0), (6, vi .i64 x_6), (39, vi .u16 (wu16 x_503)), (48, vs 5)] rfl (by kernel_rfl) (by kernel_rfl) (by kernel_rfl) ?_
           exact SD.vie D_20 [.g 0, .g 1, .g 2, .n, .n, .g 5] c_22_6 (by kernel_rfl)
         refine SW.eff D_20 (i := 19) (bs' := (bm 21 655167)) rfl (.inl rfl) rfl (e_alloc (E := 71) tk [ci .u16 0, nl] (by kernel_rfl)) (by kernel_rfl) rfl (by kernel_rfl) ?_
         exact SD.vie D_20 [.g 0, .g 1, .g 2, .g 3, .n, .g 5, .g 6] c_22_9 (by kernel_rfl)
       refine SD.lay 6 (bm 21 589631) [(0, vs 0), (1, vi .i64 at_2), (4, vp 1 0), (6, vi .i64 x_6), (7, vp 5 0), (37, vs 3), (47, vs 4)] [.rd 1 R8 bank_1, .blk 71 [ci .u16 0, nl], .rd 1 R8 l_5, .rd 1 R8 l_21, .rd 1 R8 l_22, .blk 71 [ci .u16 0, nl]] ?_ (fun c_22_11 => ?_)
       · refine SD.all2 (i := 6) (j := 16) (by kernel_rfl) ?_ ?_
         · refine SW.eff D_20 (i := 6) (bs' := (bm 21 589695)) rfl (.inl rfl) rfl (e_c Tryd.call51 (ok_flash_value F l_21 _ e_x_503) [.g 3] [vs 3] (vi .i64 x_503) (by kernel_rfl) (.inl rfl)) (by kernel_rfl) rfl (by kernel_rfl) ?_
           refine SD.takes tk D_20 [] kn0 [7] [] [] (bm 21 589823) [(0, vs 0), (1, vi .i64 at_2), (4, vp 1 0), (6, vi .i64 x_6), (7, vp 5 0), (39, vi .u16 (wu16 x_503)), (47, vs 4)] rfl (by kernel_rfl) (by kernel_rfl) (by kernel_rfl) ?_
           exact SD.vie D_20 [.g 0, .g 1, .g 2, .n, .g 4, .g 5] c_22_7 (by kernel_rfl)
         refine SW.eff D_20 (i := 16) (bs' := (bm 21 655167)) rfl (.inl rfl) rfl (e_lit (sz := 1) (E := 22) (R := (RSl 1 R8)) (by_ := 24) tk [[.s 4]] [l_22] (by kernel_rfl) ⟨(Clo.sl (by kernel_rfl)), trivial⟩ rfl (by kernel_rfl) (by kernel_rfl)) (by kernel_rfl) rfl (by kernel_rfl) ?_
         exact SD.vie D_20 [.g 0, .g 1, .g 2, .g 3, .n, .g 6, .g 5] c_22_9 (by kernel_rfl)
       refine SD.all3 (i := 6) (j := 16) (k := 19) (by kernel_rfl) ?_ ?_ ?_
       · refine SW.eff D_20 (i := 6) (bs' := (bm 21 65407)) rfl (.inl rfl) rfl (e_c Tryd.call51 (ok_flash_value F l_21 _ e_x_503) [.g 3] [vs 3] (vi .i64 x_503) (by kernel_rfl) (.inl rfl)) (by kernel_rfl) rfl (by kernel_rfl) ?_
         refine SD.norm (itsN := [.rd 1 R8 bank_1, .blk 71 [ci .u16 0, nl], .rd 1 R8 l_5, .rd 1 R8 l_21, .rd 1 R8 l_22]) (by kernel_rfl) ?_
         refine SD.takes tk D_20 [] kn0 [7] [] [] (bm 21 65535) [(0, vs 0), (1, vi .i64 at_2), (4, vp 1 0), (6, vi .i64 x_6), (39, vi .u16 (wu16 x_503)), (47, vs 4)] rfl (by kernel_rfl) (by kernel_rfl) (by kernel_rfl) ?_
         exact SD.vie D_20 [.g 0, .g 1, .g 2, .n, .g 4] c_22_8 (by kernel_rfl)
       · refine SW.eff D_20 (i := 16) (bs' := (bm 21 130879)) rfl (.inl rfl) rfl (e_lit (sz := 1) (E := 22) (R := (RSl 1 R8)) (by_ := 24) tk [[.s 4]] [l_22] (by kernel_rfl) ⟨(Clo.sl (by kernel_rfl)), trivial⟩ rfl (by kernel_rfl) (by kernel_rfl)) (by kernel_rfl) rfl (by kernel_rfl) ?_
         refine SD.norm (itsN := [.rd 1 R8 bank_1, .blk 71 [ci .u16 0, nl], .rd 1 R8 l_5, .rd 1 R8 l_21, .rd 1 R8 l_22, .own 1 22 (RSl 1 R8) [l_22]]) (by kernel_rfl) ?_
         exact SD.vie D_20 [.g 0, .g 1, .g 2, .g 3, .n, .g 5] c_22_10 (by kernel_rfl)
       refine SW.eff D_20 (i := 19) (bs' := (bm 21 589631)) rfl (.inl rfl) rfl (e_alloc (E := 71) tk [ci .u16 0, nl] (by kernel_rfl)) (by kernel_rfl) rfl (by kernel_rfl) ?_
       refine SD.norm (itsN := [.rd 1 R8 bank_1, .blk 71 [ci .u16 0, nl], .rd 1 R8 l_5, .rd 1 R8 l_21, .rd 1 R8 l_22, .blk 71 [ci .u16 0, nl]]) (by kernel_rfl) ?_
       exact SD.vie D_20 [.g 0, .g 1, .g 2, .g 3, .g 4, .g 5] c_22_11 (by kernel_rfl)
     rintro a w ⟨c_11, hp, h⟩
     refine h.go ?_
     refine SC.cut (fun a w => flash_readP_j2 F at_2 x_6 c_11 = some none ∧ A 70 1 fx [(1, vi .i64 at_2), (4, vp 1 0), (6, vi .i64 x_6), (7, vp 2 0)] [.gone, .blk 71 [ci .u16 0, nl], .blk 71 [ci .u16 c_11.Key, .s 3], .rd 1 R8 c_11.Value] a w) ?_ ?_
     · refine SC.pre (pre_frz (i := 3) (sz := 1) (E := 5) (R := R8) (l := c_11.Value) (by kernel_rfl)) ?_
       refine SC.draw MO [true, true, true, true] (by kernel_rfl) fun kap_12 D_13 => ?_
       refine SD.takes tk D_13 [] kn0 [0, 1, 2, 3, 5, 6, 7, 8, 9, 10] [] [] (bm 14 2031) [(1, vi .i64 at_2), (4, vp 1 0), (6, vi .i64 x_6), (7, vp 2 0), (52, vi .u16 c_11.Key), (54, vs 3), (56, vs 0), (57, vi .i64 at_2), (61, vi .i64 (w64 ((w64 (at_2 + 8)) + x_6)))] rfl (by kernel_rfl) (by kernel_rfl) (by kernel_rfl) ?_
       obtain ⟨l_14, e_l_14, hp⟩ := bind_inv hp
       refine SD.sub (sz := 1) (E := 5) (R := R8) (by_ := 1) (l := bank_1) tk D_13 (i := 11) (bm 14 4079) rfl rfl (by kernel_rfl) rfl rfl rfl (.inl ⟨0, rfl, (by kernel_rfl)⟩) rfl rfl e_l_14 (by kernel_rfl) ?_
       obtain ⟨x_15, e_x_15, hp⟩ := bind_inv hp
       refine SD.all1 (i := 4) (by kernel_rfl) ?_
       refine SW.eff D_13 (i := 4) (bs' := (bm 14 4095)) rfl (.inl rfl) rfl (e_c Tryd.call42 (ok_flash_record F c_11.Key c_11.Value _ e_x_15) [.g 3] [vi .u16 c_11.Key, vs 3] (vs 5) (by kernel_rfl) (.inl rfl)) (by kernel_rfl) rfl (by kernel_rfl) ?_
       obtain ⟨x_16, e_x_16, hp⟩ := bind_inv hp
       refine SD.all1 (i := 12) (by kernel_rfl) ?_
       refine SW.eff D_13 (i := 12) (bs' := (bm 14 8191)) rfl (.inl rfl) rfl (e_c Tryd.call41 (ok_slices_Equal_byte_byte F x_15 l_14 _ e_x_16) [.g 5, .g 4] [vs 5, vs 4] (vb x_16) (by kernel_rfl) (.inl rfl)) (by kernel_rfl) rfl (by kernel_rfl) ?_
       refine SD.norm (itsN := [.rd 1 R8 bank_1, .blk 71 [ci .u16 0, nl], .blk 71 [ci .u16 c_11.Key, .s 3], .rd 1 R8 c_11.Value, .rd 1 R8 l_14, .rd 1 R8 x_15]) (by kernel_rfl) ?_
       rcases Bool.eq_false_or_eq_true (x_16) with hn_17 | hn_17
       · replace hp := if_t hp hn_17
         obtain ⟨x_18, e_x_18, hp⟩ := bind_inv hp
         refine SD.all1 (i := 13) (by kernel_rfl) ?_
         refine SW.eff D_13 (i := 13) (bs' := (bm 14 16383)) rfl (.inl rfl) rfl (e_c Tryd.call64 (ok_flash_need F x_16 _ e_x_18) [] [vb x_16] (.u []) (by kernel_rfl) (.inl rfl)) (by kernel_rfl) rfl (by kernel_rfl) ?_
         refine SD.done (by kernel_rfl) fun a w h => ?_
         exact ⟨hp, h.at (js := [.g 0, .g 1, .g 2, .g 3]) (by kernel_rfl)⟩
       refine SD.all1 (i := 13) (by kernel_rfl) ?_
       exact SW.pan rfl rfl Tryd.call64 rfl hn_17 need_pan (px_at hpx [.g 0] (by kernel_rfl))
     rintro a w ⟨hp, h⟩
     refine h.go ?_
     refine SC.r tk [(4, vp 1 0), (5, vi .i64 (w64 ((w64 (at_2 + 8)) + x_6)))] [(1, 71, [ci .u16 c_11.Key, .s 3])] [] [] (by kernel_rfl) ?_
     cases hp
   exact SL.pan rfl Tryd.call64 rfl hn_7 need_pan (px_at hpx [.g 0] (by kernel_rfl))
 exact SL.pan rfl Tryd.call64 rfl hn_3 need_pan (px_at hpx [.g 0] (by kernel_rfl))

theorem ok_cmp_isNaN_uint16 (F : Nat) (x_1 : Int) (r : Bool) (hp : cmp_isNaN_uint16 F x_1 = some r) : Spec Tryd.prog 65 [vi .u16 x_1] [] (vb r) [] := by
 refine Spec.enter Tryd.func65 rfl Tryd.ntmps65 rfl rfl fun fx => ?_
 refine SC.r tk [(0, vi .u16 x_1)] [] [] [] (by kernel_rfl) ?_
 refine SC.r tk [(2, vb (x_1 != x_1))] [] [] [] (by kernel_rfl) ?_
 obtain rfl := some_inv' hp
 exact SC.re (js := []) tk (by kernel_rfl)

theorem ok_cmp_Compare_uint16 (F : Nat) (x_1 : Int) (y_2 : Int) (r : Int) (hp : cmp_Compare_uint16 F x_1 y_2 = some r) : Spec Tryd.prog 57 [vi .u16 x_1, vi .u16 y_2] [] (vi .i64 r) [] := by
 refine Spec.enter Tryd.func57 rfl Tryd.ntmps57 rfl rfl fun fx => ?_
 refine SC.r tk [(0, vi .u16 x_1), (1, vi .u16 y_2)] [] [] [] (by kernel_rfl) ?_
 refine SC.seq ?_
 refine SC.reg ?_
 refine SL.sim tk 1 [(0, vi .u16 x_1), (1, vi .u16 y_2), (7, vi .u16 x_1)] [] [] [] (by kernel_rfl) ?_
 obtain ⟨x_3, e_x_3, hp⟩ := bind_inv hp
 refine SL.eff (e_c Tryd.call65 (ok_cmp_isNaN_uint16 F x_1 _ e_x_3) [] [vi .u16 x_1] (vb x_3) (by kernel_rfl) (.inl rfl)) rfl (by kernel_rfl) ?_
 refine SL.sim tk 1 [(0, vi .u16 x_1), (1, vi .u16 y_2), (5, vb x_3)] [] [] [] (by kernel_rfl) ?_
 refine SL.nilThen ?_
 refine SC.seq ?_
 refine SC.reg ?_
 refine SL.sim tk 1 [(0, vi .u16 x_1), (1, vi .u16 y_2), (5, vb x_3), (9, vi .u16 y_2)] [] [] [] (by kernel_rfl) ?_
 obtain ⟨x_4, e_x_4, hp⟩ := bind_inv hp
 refine SL.eff (e_c Tryd.call65 (ok_cmp_isNaN_uint16 F y_2 _ e_x_4) [] [vi .u16 y_2] (vb x_4) (by kernel_rfl) (.inl rfl)) rfl (by kernel_rfl) ?_
 refine SL.norm (itsN := []) (by kernel_rfl) ?_
 refine SL.sim tk 1 [(0, vi .u16 x_1), (1, vi .u16 y_2), (5, vb x_3), (6, vb x_4)] [] [] [] (by kernel_rfl) ?_
 refine SL.nilThen ?_
 refine SC.seq ?_
 refine SC.r tk [(0, vi .u16 x_1), (1, vi .u16 y_2), (6, vb x_4), (11, vb x_3)] [] [] [] (by kernel_rfl) ?_
 refine SC.if' rfl hp (fun hp => ?_) (fun hp => ?_)
 · refine SC.seq ?_
   refine SC.r tk [(12, vb x_4)] [] [] [] (by kernel_rfl) ?_
   refine SC.if' rfl hp (fun hp => ?_) (fun hp => ?_)
   · refine SC.r tk [(4, vi .i64 0)] [] [] [] (by kernel_rfl) ?_
     obtain rfl := some_inv' hp
     exact SC.re (js := []) tk (by kernel_rfl)
   refine SC.skipThen ?_
   refine SC.r tk [(4, vi .i64 (-1))] [] [] [] (by kernel_rfl) ?_
   obtain rfl := some_inv' hp
   exact SC.re (js := []) tk (by kernel_rfl)
 refine SC.skipThen ?_
 refine SC.seq ?_
 refine SC.r tk [(0, vi .u16 x_1), (1, vi .u16 y_2), (13, vb x_4)] [] [] [] (by kernel_rfl) ?_
 refine SC.if' rfl hp (fun hp => ?_) (fun hp => ?_)
 · refine SC.r tk [(4, vi .i64 1)] [] [] [] (by kernel_rfl) ?_
   obtain rfl := some_inv' hp
   exact SC.re (js := []) tk (by kernel_rfl)
 refine SC.skipThen ?_
 refine SC.seq ?_
 refine SC.r tk [(0, vi .u16 x_1), (1, vi .u16 y_2), (16, vb (decide (x_1 < y_2)))] [] [] [] (by kernel_rfl) ?_
 refine SC.if' rfl hp (fun hp => ?_) (fun hp => ?_)
 · refine SC.r tk [(4, vi .i64 (-1))] [] [] [] (by kernel_rfl) ?_
   obtain rfl := some_inv' hp
   exact SC.re (js := []) tk (by kernel_rfl)
 refine SC.skipThen ?_
 refine SC.seq ?_
 refine SC.r tk [(19, vb (decide (x_1 > y_2)))] [] [] [] (by kernel_rfl) ?_
 refine SC.if' rfl hp (fun hp => ?_) (fun hp => ?_)
 · refine SC.r tk [(4, vi .i64 1)] [] [] [] (by kernel_rfl) ?_
   obtain rfl := some_inv' hp
   exact SC.re (js := []) tk (by kernel_rfl)
 refine SC.skipThen ?_
 refine SC.r tk [(4, vi .i64 0)] [] [] [] (by kernel_rfl) ?_
 obtain rfl := some_inv' hp
 exact SC.re (js := []) tk (by kernel_rfl)

theorem ok_flash_place_1 (F : Nat) (i_1 : T_api_Item) (k_2 : Int) (r : Int) (hp : flash_place_1 F i_1 k_2 = some r) : Spec Tryd.prog 56 [.g [ci .u16 i_1.Key, .s 0], vi .u16 k_2] [.rd 1 R8 i_1.Value] (vi .i64 r) [.gone] := by
 refine Spec.enter Tryd.func56 rfl Tryd.ntmps56 rfl rfl fun fx => ?_
 refine SC.seq ?_
 refine SC.reg ?_
 refine SL.eff (e_box (E := 71) [ci .u16 i_1.Key, .s 0] (by kernel_rfl)) rfl (by kernel_rfl) ?_
 refine SL.sim tk 1 [(1, vi .u16 k_2), (2, vp 1 0)] [] [] [] (by kernel_rfl) ?_
 refine SL.nilThen ?_
 refine SC.seq ?_
 refine SC.reg ?_
 refine SL.sim tk 3 [(6, vi .u16 i_1.Key), (7, vi .u16 k_2)] [] [] [] (by kernel_rfl) ?_
 obtain ⟨x_3, e_x_3, hp⟩ := bind_inv hp
 refine SL.eff (e_c Tryd.call57 (ok_cmp_Compare_uint16 F i_1.Key k_2 _ e_x_3) [] [vi .u16 i_1.Key, vi .u16 k_2] (vi .i64 x_3) (by kernel_rfl) (.inl rfl)) rfl (by kernel_rfl) ?_
 refine SL.sim tk 1 [(4, vi .i64 x_3)] [] [] [] (by kernel_rfl) ?_
 refine SL.nilThen ?_
 obtain rfl := some_inv' hp
 exact SC.re (js := [.g 0]) tk (by kernel_rfl)

theorem ok_slices_BinarySearchFunc_api_Item_api_Item_uint16_at56 (F : Nat) (x_1 : (List T_api_Item)) (target_2 : Int) (r : Int × Bool) (hp : slices_BinarySearchFunc_api_Item_api_Item_uint16_at56 F x_1 target_2 = some r) : Spec Tryd.prog 55 [vs 0, vi .u16 target_2, .f 56 []] [.rd 2 R_T_api_Item x_1] (.u [.inl (ci .i64 r.1), .inl (cb r.2)]) [.gone] := by
 refine Spec.enter Tryd.func55 rfl Tryd.ntmps55 rfl rfl fun fx => ?_
 refine SC.r tk [(0, vs 0), (1, vi .u16 target_2), (2, .f 56 [])] [] [] [] (by kernel_rfl) ?_
 refine SC.r tk [(0, vs 0), (1, vi .u16 target_2), (2, .f 56 []), (8, vi .i64 (len x_1))] [] [] [] (by kernel_rfl) ?_
 refine SC.r tk [(0, vs 0), (1, vi .u16 target_2), (2, .f 56 []), (8, vi .i64 (len x_1)), (9, vi .i64 0), (10, vi .i64 (len x_1))] [] [] [] (by kernel_rfl) ?_
 refine SC.cut (fun a w => ∃ (x_3 : Int), slices_BinarySearchFunc_api_Item_api_Item_uint16_at56_j1 F x_1 target_2 x_3 = some r ∧ A 49 1 fx [(0, vs 0), (1, vi .u16 target_2), (2, .f 56 []), (8, vi .i64 (len x_1)), (9, vi .i64 x_3)] [.rd 2 R_T_api_Item x_1] a w) ?_ ?_
 · refine SC.block ?_
   obtain ⟨o1, hi1, ho1⟩ := bind_inv hp
   clear hp
   refine SC.loop (fun n a w => ∃ (x_9 : Int) (x_10 : Int), iter (fun s => slices_BinarySearchFunc_api_Item_api_Item_uint16_at56_l1 F x_1 target_2 s.1 s.2) n (x_9, x_10) = some o1 ∧ A 49 1 fx [(0, vs 0), (1, vi .u16 target_2), (2, .f 56 []), (8, vi .i64 (len x_1)), (9, vi .i64 x_9), (10, vi .i64 x_10)] [.rd 2 R_T_api_Item x_1] a w) F (fun a w h => ⟨0, len x_1, hi1, h.at (js := [.g 0]) (by kernel_rfl)⟩) ?_
   rintro n1 a w ⟨x_9, x_10, hi1, h⟩
   obtain ⟨n1, q1, rfl, hp, hs1⟩ := iter_inv hi1
   replace hp : slices_BinarySearchFunc_api_Item_api_Item_uint16_at56_l1 F x_1 target_2 x_9 x_10 = some q1 := hp
   clear hi1
   refine h.go ?_
   refine SC.seq ?_
   refine SC.r tk [(0, vs 0), (1, vi .u16 target_2), (2, .f 56 []), (8, vi .i64 (len x_1)), (9, vi .i64 x_9), (10, vi .i64 x_10), (17, vb (decide (x_9 < x_10)))] [] [] [] (by kernel_rfl) ?_
   refine SC.if' rfl hp (fun hp => ?_) (fun hp => ?_)
   · refine SC.skipThen ?_
     refine SC.block ?_
     refine SC.r tk [(0, vs 0), (1, vi .u16 target_2), (2, .f 56 []), (8, vi .i64 (len x_1)), (9, vi .i64 x_9), (10, vi .i64 x_10), (11, vi .i64 (w64 (shrp (wu64 (w64 (x_9 + x_10))) 1)))] [] [.bin .shr .u64 (wu64 (w64 (x_9 + x_10))) 1 (shrp (wu64 (w64 (x_9 + x_10))) 1) (by kernel_rfl)] [wu64 (w64 (x_9 + x_10)), 1] (by kernel_rfl) ?_
     refine SC.seq ?_
     refine SC.reg ?_
     obtain ⟨x_11, e_x_11, hp⟩ := bind_inv hp
     refine SL.pre (pre_ix (i := 0) (iv := w64 (shrp (wu64 (w64 (x_9 + x_10))) 1)) (sz := 2) (R := R_T_api_Item) (l := x_1) (by kernel_rfl) rfl e_x_11) ?_
     refine SL.sim tk 6 [(0, vs 0), (1, vi .u16 target_2), (2, .f 56 []), (8, vi .i64 (len x_1)), (9, vi .i64 x_9), (10, vi .i64 x_10), (11, vi .i64 (w64 (shrp (wu64 (w64 (x_9 + x_10))) 1))), (24, .f 56 []), (28, .g [ci .u16 x_11.Key, .s 2]), (29, vi .u16 target_2)] [] [.el 1] [w64 (shrp (wu64 (w64 (x_9 + x_10))) 1)] (by kernel_rfl) ?_
     obtain ⟨x_12, e_x_12, hp⟩ := bind_inv hp
     refine SL.eff (e_c Tryd.call56 (ok_flash_place_1 F x_11 target_2 _ e_x_12) [.g 2] [.g [ci .u16 x_11.Key, .s 2], vi .u16 target_2] (vi .i64 x_12) (by kernel_rfl) (.inl rfl)) rfl (by kernel_rfl) ?_
     refine SL.sim tk 1 [(0, vs 0), (1, vi .u16 target_2), (2, .f 56 []), (8, vi .i64 (len x_1)), (9, vi .i64 x_9), (10, vi .i64 x_10), (11, vi .i64 (w64 (shrp (wu64 (w64 (x_9 + x_10))) 1))), (31, vb (decide (x_12 < 0)))] [] [] [] (by kernel_rfl) ?_
     refine SL.nilThen ?_
     refine SC.if' rfl hp (fun hp => ?_) (fun hp => ?_)
     · refine SC.reg ?_
       refine SL.sim tk 3 [(0, vs 0), (1, vi .u16 target_2), (2, .f 56 []), (8, vi .i64 (len x_1)), (9, vi .i64 (w64 ((w64 (shrp (wu64 (w64 (x_9 + x_10))) 1)) + 1))), (10, vi .i64 x_10)] [] [] [] (by kernel_rfl) ?_
       refine SL.nilJ fun a w h => ?_
       exact ⟨n1, Nat.lt_succ_self _, w64 ((w64 (shrp (wu64 (w64 (x_9 + x_10))) 1)) + 1), x_10, next_inv hp hs1, h.at (js := [.g 0]) (by kernel_rfl)⟩
     refine SC.reg ?_
     refine SL.sim tk 2 [(0, vs 0), (1, vi .u16 target_2), (2, .f 56 []), (8, vi .i64 (len x_1)), (9, vi .i64 x_9), (10, vi .i64 (w64 (shrp (wu64 (w64 (x_9 + x_10))) 1)))] [] [] [] (by kernel_rfl) ?_
     refine SL.nilJ fun a w h => ?_
     exact ⟨n1, Nat.lt_succ_self _, x_9, w64 (shrp (wu64 (w64 (x_9 + x_10))) 1), next_inv hp hs1, h.at (js := [.g 0]) (by kernel_rfl)⟩
   refine SC.exitJ rfl fun a w h => ?_
   have ho := done_inv hp hs1
   replace hp := ho1
   try rw [ho] at hp
   exact ⟨x_9, hp, h.at (js := [.g 0]) (by kernel_rfl)⟩
 rintro a w ⟨x_3, hp, h⟩
 refine h.go ?_
 refine SC.seq ?_
 refine SC.reg ?_
 refine SL.sim tk 5 [(0, vs 0), (1, vi .u16 target_2), (2, .f 56 []), (9, vi .i64 x_3), (35, vi .i64 x_3), (39, vb (decide (x_3 < (len x_1))))] [] [] [] (by kernel_rfl) ?_
 obtain ⟨z_5, hz, hpr⟩ := bind_inv hp
 clear hp
 refine SL.cutAt 9 (fun a w => A 49 1 fx [(35, vi .i64 x_3), (48, vb z_5)] [.gone] a w) ?_ ?_
 · have hp := hz
   rcases Bool.eq_false_or_eq_true (decide (x_3 < (len x_1))) with hg_4 | hg_4
   · replace hp := if_t hp hg_4
     refine SL.yes rfl rfl hg_4 ?_
     refine SL.sim tk 1 [(0, vs 0), (1, vi .u16 target_2), (9, vi .i64 x_3), (35, vi .i64 x_3), (39, vb (decide (x_3 < (len x_1)))), (40, .f 56 [])] [] [] [] (by kernel_rfl) ?_
     refine SL.yes rfl rfl hg_4 ?_
     refine SL.sim tk 1 [(1, vi .u16 target_2), (9, vi .i64 x_3), (35, vi .i64 x_3), (39, vb (decide (x_3 < (len x_1)))), (40, .f 56 []), (41, vs 0)] [] [] [] (by kernel_rfl) ?_
     refine SL.yes rfl rfl hg_4 ?_
     refine SL.sim tk 1 [(1, vi .u16 target_2), (35, vi .i64 x_3), (39, vb (decide (x_3 < (len x_1)))), (40, .f 56 []), (41, vs 0), (42, vi .i64 x_3)] [] [] [] (by kernel_rfl) ?_
     refine SL.yes rfl rfl hg_4 ?_
     obtain ⟨x_7, e_x_7, hp⟩ := bind_inv hp
     refine SL.pre (pre_ix (i := 0) (iv := x_3) (sz := 2) (R := R_T_api_Item) (l := x_1) (by kernel_rfl) rfl e_x_7) ?_
     refine SL.sim tk 1 [(1, vi .u16 target_2), (35, vi .i64 x_3), (39, vb (decide (x_3 < (len x_1)))), (40, .f 56 []), (43, vp 1 0)] [] [.el 1] [x_3] (by kernel_rfl) ?_
     refine SL.yes rfl rfl hg_4 ?_
     refine SL.sim tk 1 [(1, vi .u16 target_2), (35, vi .i64 x_3), (39, vb (decide (x_3 < (len x_1)))), (40, .f 56 []), (44, .g [ci .u16 x_7.Key, .s 2])] [] [] [] (by kernel_rfl) ?_
     refine SL.yes rfl rfl hg_4 ?_
     refine SL.sim tk 1 [(35, vi .i64 x_3), (39, vb (decide (x_3 < (len x_1)))), (40, .f 56 []), (44, .g [ci .u16 x_7.Key, .s 2]), (45, vi .u16 target_2)] [] [] [] (by kernel_rfl) ?_
     refine SL.yes rfl rfl hg_4 ?_
     obtain ⟨x_8, e_x_8, hp⟩ := bind_inv hp
     refine SL.eff (e_c Tryd.call56 (ok_flash_place_1 F x_7 target_2 _ e_x_8) [.g 2] [.g [ci .u16 x_7.Key, .s 2], vi .u16 target_2] (vi .i64 x_8) (by kernel_rfl) (.inl rfl)) rfl (by kernel_rfl) ?_
     refine SL.yes rfl rfl hg_4 ?_
     refine SL.sim tk 1 [(35, vi .i64 x_3), (39, vb (decide (x_3 < (len x_1)))), (47, vb (x_8 == 0))] [] [] [] (by kernel_rfl) ?_
     refine SL.pickt rfl hg_4 rfl rfl ?_
     refine SL.nilJ fun a w h => ?_
     obtain rfl := some_inv' hp
     exact h.at (js := [.g 0]) (by kernel_rfl)
   replace hp := if_f hp hg_4
   refine SL.no rfl rfl hg_4 rfl ?_
   refine SL.no rfl rfl hg_4 rfl ?_
   refine SL.no rfl rfl hg_4 rfl ?_
   refine SL.no rfl rfl hg_4 rfl ?_
   refine SL.no rfl rfl hg_4 rfl ?_
   refine SL.no rfl rfl hg_4 rfl ?_
   refine SL.no rfl rfl hg_4 rfl ?_
   refine SL.no rfl rfl hg_4 rfl ?_
   refine SL.pickf rfl hg_4 rfl rfl ?_
   refine SL.nilJ fun a w h => ?_
   obtain rfl := some_inv' hp
   exact h.at (js := [.g 0]) (by kernel_rfl)
 intro a w h
 have hp := hpr; clear hpr hz
 refine h.goL ?_
 refine SL.sim tk 2 [(6, vi .i64 x_3), (7, vb z_5)] [] [] [] (by kernel_rfl) ?_
 refine SL.nilThen ?_
 obtain rfl := some_inv' hp
 exact SC.re (js := [.g 0]) tk (by kernel_rfl)

theorem ok_flash_place (F : Nat) (l_1 : (List T_api_Item)) (key_2 : Int) (r : Int × Bool) (hp : flash_place F l_1 key_2 = some r) : Spec Tryd.prog 38 [vs 0, vi .u16 key_2] [.rd 2 R_T_api_Item l_1] (.u [.inl (ci .i64 r.1), .inl (cb r.2)]) [.gone] := by
 refine Spec.enter Tryd.func38 rfl Tryd.ntmps38 rfl rfl fun fx => ?_
 refine SC.r tk [(0, vs 0), (1, vi .u16 key_2)] [] [] [] (by kernel_rfl) ?_
 refine SC.seq ?_
 refine SC.reg ?_
 refine SL.sim tk 2 [(6, vs 0), (7, vi .u16 key_2)] [] [] [] (by kernel_rfl) ?_
 obtain ⟨x_3, e_x_3, hp⟩ := bind_inv hp
 refine SL.eff (e_c Tryd.call55 (ok_slices_BinarySearchFunc_api_Item_api_Item_uint16_at56 F l_1 key_2 _ e_x_3) [.g 0] [vs 0, vi .u16 key_2, .f 56 []] (.u [.inl (ci .i64 x_3.1), .inl (cb x_3.2)]) (by kernel_rfl) (.inl rfl)) rfl (by kernel_rfl) ?_
 refine SL.sim tk 4 [(4, vi .i64 x_3.1), (5, vb x_3.2)] [] [] [] (by kernel_rfl) ?_
 refine SL.nilThen ?_
 obtain rfl := some_inv' hp
 exact SC.re (js := [.g 0]) tk (by kernel_rfl)

theorem ok_slices_Delete_api_Item_api_Item (F : Nat) (s_1 : (List T_api_Item)) (i_2 : Int) (j_3 : Int) (r : (List T_api_Item)) (hp : slices_Delete_api_Item_api_Item F s_1 i_2 j_3 = some r) : Spec Tryd.prog 60 [vs 0, vi .i64 i_2, vi .i64 j_3] [.own 2 71 R_T_api_Item s_1] (vs 1) [.gone, .own 2 71 R_T_api_Item r] := by
 unfold slices_Delete_api_Item_api_Item at hp
 split at hp
 · rename_i h
   injection hp with hp
   subst hp
   exact spec_del60 _ _ _ h.1 h.2.1 h.2.2
 cases hp

theorem ok_slices_Insert_api_Item_api_Item (F : Nat) (s_1 : (List T_api_Item)) (i_2 : Int) (v_3 : (List T_api_Item)) (r : (List T_api_Item)) (hp : slices_Insert_api_Item_api_Item F s_1 i_2 v_3 = some r) : Spec Tryd.prog 61 [vs 0, vi .i64 i_2, vs 1] [.own 2 71 R_T_api_Item s_1, .own 2 71 R_T_api_Item v_3] (vs 2) [.gone, .gone, .own 2 71 R_T_api_Item r] := by
 unfold slices_Insert_api_Item_api_Item at hp
 split at hp
 · rename_i h
   obtain ⟨x, rfl⟩ := List.length_eq_one_iff.1 h.2.2.1
   injection hp with hp
   subst hp
   exact spec_ins61 _ _ _ h.1 h.2.1 h.2.2.2
 cases hp

theorem ok_flash_set (F : Nat) (l_1 : (List T_api_Item)) (r_2 : T_api_Item) (r : (List T_api_Item)) (hp : flash_set F l_1 r_2 = some r) : Spec Tryd.prog 43 [vs 0, .g [ci .u16 r_2.Key, .s 1]] [.own 2 71 R_T_api_Item l_1, .rd 1 R8 r_2.Value] (vs 2) [.gone, .gone, .own 2 71 R_T_api_Item r] := by
 refine Spec.enter Tryd.func43 rfl Tryd.ntmps43 rfl rfl fun fx => ?_
 refine SC.seq ?_
 refine SC.reg ?_
 refine SL.eff (e_box (E := 71) [ci .u16 r_2.Key, .s 1] (by kernel_rfl)) rfl (by kernel_rfl) ?_
 refine SL.sim tk 1 [(0, vs 0), (3, vp 2 0)] [] [] [] (by kernel_rfl) ?_
 refine SL.nilThen ?_
 refine SC.seq ?_
 refine SC.reg ?_
 refine SL.sim tk 3 [(0, vs 0), (3, vp 2 0), (8, vs 0), (10, vi .u16 r_2.Key)] [] [] [] (by kernel_rfl) ?_
 obtain ⟨x_3, e_x_3, hp⟩ := bind_inv hp
 refine SL.eff (e_c Tryd.call38 (ok_flash_place F l_1 r_2.Key _ e_x_3) [.l 0] [vs 0, vi .u16 r_2.Key] (.u [.inl (ci .i64 x_3.1), .inl (cb x_3.2)]) (by kernel_rfl) (.inr ⟨trivial, trivial⟩)) rfl (by kernel_rfl) ?_
 refine SL.sim tk 5 [(0, vs 0), (3, vp 2 0), (5, vi .i64 x_3.1), (6, vb x_3.2)] [] [] [] (by kernel_rfl) ?_
 refine SL.nilThen ?_
 refine SC.seq ?_
 refine SC.block ?_
 refine SC.r tk [(0, vs 0), (3, vp 2 0), (5, vi .i64 x_3.1), (6, vb x_3.2), (14, vb (((len r_2.Value) == 0) && x_3.2))] [] [] [] (by kernel_rfl) ?_
 refine SC.if' rfl hp (fun hp => ?_) (fun hp => ?_)
 · refine SC.seq ?_
   refine SC.reg ?_
   refine SL.sim tk 4 [(22, vs 0), (23, vi .i64 x_3.1), (25, vi .i64 (w64 (x_3.1 + 1)))] [] [] [] (by kernel_rfl) ?_
   obtain ⟨x_4, e_x_4, hp⟩ := bind_inv hp
   refine SL.eff (e_c Tryd.call60 (ok_slices_Delete_api_Item_api_Item F l_1 x_3.1 (w64 (x_3.1 + 1)) _ e_x_4) [.g 0] [vs 0, vi .i64 x_3.1, vi .i64 (w64 (x_3.1 + 1))] (vs 3) (by kernel_rfl) (.inl rfl)) rfl (by kernel_rfl) ?_
   refine SL.norm (itsN := [.gone, .rd 1 R8 r_2.Value, .blk 71 [ci .u16 r_2.Key, .s 1], .own 2 71 R_T_api_Item x_4]) (by kernel_rfl) ?_
   refine SL.sim tk 1 [(4, vs 3)] [] [] [] (by kernel_rfl) ?_
   refine SL.nilThen ?_
   obtain rfl := some_inv' hp
   exact SC.re (js := [.g 0, .g 1, .g 3]) tk (by kernel_rfl)
 refine SC.r tk [(0, vs 0), (3, vp 2 0), (5, vi .i64 x_3.1), (6, vb x_3.2), (27, vb ((len r_2.Value) == 0))] [] [] [] (by kernel_rfl) ?_
 refine SC.if' rfl hp (fun hp => ?_) (fun hp => ?_)
 · refine SC.r tk [(4, vs 0)] [] [] [] (by kernel_rfl) ?_
   obtain rfl := some_inv' hp
   exact SC.re (js := [.g 0, .g 1, .g 0]) tk (by kernel_rfl)
 refine SC.r tk [(0, vs 0), (3, vp 2 0), (5, vi .i64 x_3.1), (33, vb x_3.2)] [] [] [] (by kernel_rfl) ?_
 refine SC.if' rfl hp (fun hp => ?_) (fun hp => ?_)
 · refine SC.seq ?_
   refine SC.reg ?_
   obtain ⟨x_5, e_x_5, hp⟩ := bind_inv hp
   refine SL.pre (pre_ixo (i := 0) (iv := x_3.1) (sz := 2) (E := 71) (R := R_T_api_Item) (l := l_1) (by kernel_rfl) rfl e_x_5) ?_
   refine SL.sim tk 4 [(0, vs 0), (37, .g [ci .u16 r_2.Key, .s 1]), (38, vp 3 0)] [] [.el 3] [x_3.1] (by kernel_rfl) ?_
   obtain ⟨l_6, e_l_6, hp⟩ := bind_inv hp
   refine SL.eff0 (e_updf (sz := 2) (R := R_T_api_Item) (i := 0) (iv := x_3.1) (cs1 := [ci .u16 r_2.Key, .s 1]) (e := r_2) tk rfl rfl rfl (by kernel_rfl) rfl rfl rfl (clo_T_api_Item (x := r_2) (Clo.sl (by kernel_rfl))) (by kernel_rfl) (by kernel_rfl) e_l_6) ?_
   refine SL.norm (itsN := [.own 2 71 R_T_api_Item l_6, .rd 1 R8 r_2.Value, .blk 71 [ci .u16 r_2.Key, .s 1], .gone, .rd 1 R8 x_5.Value]) (by kernel_rfl) ?_
   refine SL.nilThen ?_
   refine SC.r tk [(4, vs 0)] [] [] [] (by kernel_rfl) ?_
   obtain rfl := some_inv' hp
   exact SC.re (js := [.g 0, .g 1, .g 0]) tk (by kernel_rfl)
 refine SC.skipThen ?_
 refine SC.seq ?_
 refine SC.reg ?_
 refine SL.sim tk 3 [(40, vs 0), (41, vi .i64 x_3.1), (42, .g [ci .u16 r_2.Key, .s 1])] [] [] [] (by kernel_rfl) ?_
 refine SL.eff (e_lit (sz := 2) (E := 71) (R := R_T_api_Item) (by_ := 32) tk [[ci .u16 r_2.Key, .s 1]] [r_2] (by kernel_rfl) ⟨(clo_T_api_Item (x := r_2) (Clo.sl (by kernel_rfl))), trivial⟩ rfl (by kernel_rfl) (by kernel_rfl)) rfl (by kernel_rfl) ?_
 refine SL.norm (itsN := [.own 2 71 R_T_api_Item l_1, .rd 1 R8 r_2.Value, .blk 71 [ci .u16 r_2.Key, .s 1], .own 2 71 R_T_api_Item [r_2]]) (by kernel_rfl) ?_
 obtain ⟨x_7, e_x_7, hp⟩ := bind_inv hp
 refine SL.eff (e_c Tryd.call61 (ok_slices_Insert_api_Item_api_Item F l_1 x_3.1 [r_2] _ e_x_7) [.g 0, .g 3] [vs 0, vi .i64 x_3.1, vs 3] (vs 4) (by kernel_rfl) (.inl rfl)) rfl (by kernel_rfl) ?_
 refine SL.sim tk 1 [(4, vs 4)] [] [] [] (by kernel_rfl) ?_
 refine SL.nilThen ?_
 obtain rfl := some_inv' hp
 exact SC.re (js := [.g 0, .g 1, .g 4]) tk (by kernel_rfl)

theorem recov (w : World) : CallsD Tryd.prog 52 #[] (.panicking [pe PV]) w fun e u' w' => e = .returned (.tuple #[]) ∧ u' = .panicking [{ v := PV, recovered := true, goexit := false }] ∧ w' = w.alloc (.cells #[] 80) := by
  refine callsD_of_wpS Tryd.func52 rfl fun c₀ cs hu => ?_
  apply wpS_seq
  apply wpS_region
  simp [wpOpsS, go_sem, recoverD, hu, Tryd.ntmps52, Exit.thenS, pe]
  apply wpS_seq
  apply wpS_region
  simp [wpOpsS, go_sem, PV, Exit.thenS]
  refine wpS_cond (t := true) (by simp [Act.eval, Array.replicate]) ?_
  simp only [if_true]
  refine wpS_of_wp ?_
  have hta : ∀ w : World, (Instr.typeAssert (Value.iface 80 (Value.agg #[])) 20 80 true).run Tryd.prog w = .ok (.tuple #[.agg #[], .bool true]) w := fun _ => by kernel_rfl
  go_wp2_with (simp only [hta])
  refine ⟨rfl, _, rfl, .tuple #[], ?_, rfl, rfl, rfl⟩
  simp [results, Tryd.results52]
theorem readP_some {F : Nat} {b : List Int} {a : Int} {r : T_api_Item × Int} (h : flash_readP F b a = some (some r)) : flash_read F b a = some r := by
  unfold flash_readP at h
  unfold flash_read
  rcases ite_inv h with ⟨_, h⟩ | ⟨_, h⟩
  · obtain ⟨u1, e1, h⟩ := bind_inv h
    obtain ⟨l5, e2, h⟩ := bind_inv h
    obtain ⟨x6, e3, h⟩ := bind_inv h
    rw [e1, Option.bind_some, e2, Option.bind_some, e3, Option.bind_some]
    rcases ite_inv h with ⟨_, h⟩ | ⟨_, h⟩
    · obtain ⟨u2, e4, h⟩ := bind_inv h
      obtain ⟨l7, e5, h⟩ := bind_inv h
      obtain ⟨l8, e6, h⟩ := bind_inv h
      obtain ⟨x7, e7, h⟩ := bind_inv h
      obtain ⟨x8, e8, h⟩ := bind_inv h
      rw [e4, Option.bind_some, e5, Option.bind_some, e6, Option.bind_some, e7, Option.bind_some, e8, Option.bind_some]
      unfold flash_readP_j1 at h
      unfold flash_read_j1
      obtain ⟨l9, f1, h⟩ := bind_inv h
      obtain ⟨x9, f2, h⟩ := bind_inv h
      obtain ⟨x10, f3, h⟩ := bind_inv h
      rw [f1, Option.bind_some, f2, Option.bind_some, f3, Option.bind_some]
      rcases ite_inv h with ⟨_, h⟩ | ⟨_, h⟩
      · obtain ⟨u3, f4, h⟩ := bind_inv h
        rw [f4, Option.bind_some]
        unfold flash_readP_j2 at h
        unfold flash_read_j2
        injection h
      cases h
    cases h
  cases h
/-- What is walked with no deferred call is walked beside some. -/
theorem xferD {P : Program} {ops : Array Oper} {Kn : Act → World → Prop} (ds : List Deferred) :
    ∀ (rest : List Oper) (a : Act) (w : World), wpList P ops (QN (fun _ _ => False) Kn) rest a w →
      wpList P ops (QN (fun _ _ => False) fun a w => ∃ a0, a = { a0 with defers := a0.defers ++ ds } ∧ Kn a0 w) rest { a with defers := a.defers ++ ds } w
  | [], a, w, h => by
    rcases h with ⟨_, h⟩ | ⟨_, h, _⟩
    · exact .inl ⟨rfl, a, rfl, h⟩
    · cases h
  | o :: rest, a, w, h => by
    have ih := fun (a' : Act) (w' : World) (h' : wpList P ops (QN (fun _ _ => False) Kn) rest a' w') => xferD ds rest a' w' h'
    have hno : ∀ (e : Exit) (a : Act) (w : World), e ≠ .normal → ¬ QN (fun _ _ => False) Kn e a w := fun e a w hne hq => by
      rcases hq with ⟨h, _⟩ | ⟨_, _, _, h⟩
      · exact hne h
      · exact h
    unfold wpList at h ⊢
    have hev : ({ a with defers := a.defers ++ ds } : Act).eval = a.eval := by
      funext x; cases x <;> rfl
    have hput : ∀ v, ({ a with defers := a.defers ++ ds } : Act).put o.dst v = { (a.put o.dst v) with defers := (a.put o.dst v).defers ++ ds } := fun v => by
      cases o.dst <;> rfl
    split at h
    · rename_i hw
      rw [if_pos hw]
      rcases h with h | ⟨_, a', w', h⟩
      · refine .inl ?_
        unfold Oper.wp at h ⊢
        rw [hev]
        generalize (execOp a.eval o).run P w = r at *
        cases r with
        | ok n w' =>
          cases n <;> simp only [Oper.upon] at h ⊢ <;>
            first
              | exact h.elim
              | (rw [hput]; exact ih _ _ h)
              | (have := ih _ _ h
                 revert this
                 cases o.dst <;> exact id)
              | (refine Calls.mono h fun e w'' he => ?_
                 cases e with
                 | returned v => simp only at he ⊢; rw [hput]; exact ih _ _ he
                 | panicked c => exact absurd he (hno _ _ _ (by simp))
                 | outgrown => obtain ⟨_, _, h0⟩ := he; exact absurd h0 (hno _ _ _ (by simp)))
              | (refine Rows.mono h fun v w'' he => ?_
                 rw [hput]; exact ih _ _ he)
        | halt x w' => cases x <;> simp only [Oper.upon] at h <;> first | exact h.elim | exact absurd h (hno _ _ _ (by simp))
      · exact absurd h (hno _ _ _ (by simp))
    · rename_i hw
      rw [if_neg hw, hput]
      exact ih _ _ h
def D52 : Deferred := { target := .fn (.func 52) #[], args := #[] }
noncomputable def contB : Code := match Tryd.f35.body with
  | some (.seq _ (.seq _ (.seq _ (.block _ (.loop c))))) => c
  | _ => .skip
noncomputable def ops3 : List Oper := match contB with
  | .block _ (.seq (.region _ l _) _) => l.toList
  | _ => []
noncomputable def ops4 : List Oper := match contB with
  | .block _ (.seq _ (.region _ l _)) => l.toList
  | _ => []
theorem contB_eq : contB = .block 1 (.seq (.region 3 ops3.toArray false) (.region 4 ops4.toArray false)) := by kernel_rfl
def envL (e : Int) : Env' := [(0, vs 0), (2, vs 1), (3, vi .i64 e)]
def itsL (bank : List Int) (l : List T_api_Item) : List Item := [.rd 1 R8 bank, .own 2 71 R_T_api_Item l]
theorem cont3 {F : Nat} {bank : List Int} {l : List T_api_Item} {e : Int} {x : T_api_Item × Int} {fx : Fx} (hr : flash_read F bank e = some x) :
    SL Tryd.prog ops3.toArray ops3 (fun a w => A 16 1 fx [(0, vs 0), (2, vs 1), (3, vi .i64 e), (4, vp 3 0), (5, vi .i64 x.2)] [.rd 1 R8 bank, .own 2 71 R_T_api_Item l, .rd 1 R8 x.1.Value, .blk 71 [ci .u16 x.1.Key, .s 2]] a w) 16 1 fx (envL e) (itsL bank l) := by
  refine SL.sim tk 2 [(0, vs 0), (2, vs 1), (3, vi .i64 e), (7, vs 0), (8, vi .i64 e)] [] [] [] (by kernel_rfl) ?_
  refine SL.eff (e_c Tryd.call53 (ok_flash_read F bank e _ hr) [.g 0] [vs 0, vi .i64 e] (.u [.inr [ci .u16 x.1.Key, .s 2], .inl (ci .i64 x.2)]) (by kernel_rfl) (.inl rfl)) rfl (by kernel_rfl) ?_
  refine SL.sim tk 3 [(0, vs 0), (2, vs 1), (3, vi .i64 e), (10, .g [ci .u16 x.1.Key, .s 2]), (11, vi .i64 x.2)] [] [] [] (by kernel_rfl) ?_
  refine SL.eff (e_alloc (E := 71) tk [ci .u16 0, nl] (by kernel_rfl)) rfl (by kernel_rfl) ?_
  refine SL.sim tk 2 [(0, vs 0), (2, vs 1), (3, vi .i64 e), (4, vp 3 0), (5, vi .i64 x.2)] [(3, 71, [ci .u16 x.1.Key, .s 2])] [] [] (by kernel_rfl) ?_
  refine SL.nilJ fun a w h => ?_
  exact h.at (js := [.g 0, .g 1, .g 2, .g 3]) (by kernel_rfl)
theorem cont4 {F : Nat} {bank : List Int} {l l2 : List T_api_Item} {e : Int} {x : T_api_Item × Int} {fx : Fx} (hs : flash_set F l x.1 = some l2) :
    SL Tryd.prog ops4.toArray ops4 (fun a w => A 16 1 fx (envL x.2) (itsL bank l2) a w) 16 1 fx [(0, vs 0), (2, vs 1), (3, vi .i64 e), (4, vp 3 0), (5, vi .i64 x.2)] [.rd 1 R8 bank, .own 2 71 R_T_api_Item l, .rd 1 R8 x.1.Value, .blk 71 [ci .u16 x.1.Key, .s 2]] := by
  refine SL.sim tk 2 [(0, vs 0), (5, vi .i64 x.2), (12, vs 1), (13, .g [ci .u16 x.1.Key, .s 2])] [] [] [] (by kernel_rfl) ?_
  refine SL.eff (e_c Tryd.call43 (ok_flash_set F l x.1 _ hs) [.g 1, .g 2] [vs 1, .g [ci .u16 x.1.Key, .s 2]] (vs 4) (by kernel_rfl) (.inl rfl)) rfl (by kernel_rfl) ?_
  refine SL.sim tk 3 [(0, vs 0), (2, vs 4), (3, vi .i64 x.2)] [] [] [] (by kernel_rfl) ?_
  refine SL.nilJ fun a w h => ?_
  exact h.at (js := [.g 0, .g 4]) (by kernel_rfl)
theorem readPan {F : Nat} {bank : List Int} {l : List T_api_Item} {e : Int} {fx : Fx} {env : Env'} {κ : List Conc} {w : World} (S : St 1 fx env (itsL bank l) κ w) (hp : flash_readP F bank e = some none) :
    Calls Tryd.prog 53 ([vs 0, vi .i64 e].map (SV.den κ)).toArray w fun en w' => en = .panicked [pe PV] ∧ St 1 fx env (itsL bank l) κ w' := by
  obtain ⟨U0c, glc, SC0, back⟩ := call_st (js := [.g 0]) (asC := [vs 0, vi .i64 e]) (itsC := [.rd 1 R8 bank]) (itsC' := [.rd 1 R8 bank]) S (by kernel_rfl) (by kernel_rfl) (by kernel_rfl) (.inl rfl)
  have h := ok_flash_readP F bank e hp U0c _ w glc SC0
  have hl : κ.length = 2 := S.len
  rw [renSs_den (js := [.g 0]) (l' := [vs 0, vi .i64 e]) (fun j i h => by
    match j with
    | 0 =>
      rcases h with h | h | h
      · simp at h
        omega
      · simp at h
      · simp at h
    | j + 1 => simp at h) (by kernel_rfl)] at h
  refine h.mono ?_
  rintro en w' ⟨rfl, S'⟩
  refine ⟨rfl, ?_⟩
  have h2 := back [] [] w' (by rw [List.append_nil]; exact S')
  have hb : (backI [.g 0] [.rd 1 R8 bank] [.rd 1 R8 bank] (itsL bank l)).getD [] = itsL bank l := by kernel_rfl
  rw [hb, List.append_nil] at h2
  exact h2
theorem cont_rounds {F : Nat} {bank : List Int} {r : (List T_api_Item) × Int} {fx : Fx} (hfx : fx.px = fun _ _ => False) {Q : Exit → Act → World → Prop}
    (hQ : ∀ a1 w', A 16 1 fx (envL r.2) (itsL bank r.1) a1 w' → Q (.panic [pe PV]) { a1 with defers := a1.defers ++ [D52] } w') :
    ∀ (n : Nat) (l : List T_api_Item) (e : Int), iter (fun s : List T_api_Item × Int => flash_contents_l1 F bank s.1 s.2) n (l, e) = some r → ∀ a0 w, A 16 1 fx (envL e) (itsL bank l) a0 w → Code.rounds Tryd.prog contB Q n { a0 with defers := a0.defers ++ [D52] } w
  | 0, _, _, h, _, _, _ => by cases h
  | n + 1, l, e, h, a0, w, hA => by
    have ih := fun l2 e2 h2 => cont_rounds (F := F) (bank := bank) (r := r) hfx hQ n l2 e2 h2
    rw [rounds_succ]
    generalize Code.rounds Tryd.prog contB Q n = RR at ih
    rw [contB_eq]
    apply wp_block
    apply wp_seq
    refine wp_region_lit (l := ops3) ?_
    obtain ⟨κ, ha, S⟩ := hA
    unfold iter at h
    cases hb : flash_readP F bank e with
    | none => simp [flash_contents_l1, hb] at h
    | some q =>
      cases q with
      | none =>
        simp [flash_contents_l1, hb] at h
        subst h
        have hpre : SL Tryd.prog ops3.toArray (ops3.take 2) (fun a w => A 16 1 fx [(0, vs 0), (2, vs 1), (3, vi .i64 e), (7, vs 0), (8, vi .i64 e)] (itsL bank l) a w) 16 1 fx (envL e) (itsL bank l) := by
          refine SL.sim tk 2 [(0, vs 0), (2, vs 1), (3, vi .i64 e), (7, vs 0), (8, vi .i64 e)] [] [] [] (by kernel_rfl) ?_
          exact SL.nilJ fun a w h => h
        have h1 := hpre κ w S a0 ha
        rw [hfx] at h1
        have h3 := wpList_cut (P := Tryd.prog) (px := fun _ _ => False) (Q := Exit.then (Code.wp Tryd.prog (Code.region 4 ops4.toArray false) (Exit.inBlock 1 (Exit.then RR Q))) (Exit.inBlock 1 (Exit.then RR Q))) (fun _ _ _ h => h.2.elim) (ops3.drop 2) (fun a w hJ => ?_) (ops3.take 2) _ _ (xferD [D52] _ a0 w h1)
        · rwa [List.take_append_drop] at h3
        obtain ⟨a1, rfl, κ, ha, S⟩ := hJ
        obtain ⟨o, rest, hd, hg, hc⟩ : ∃ o rest, ops3.drop 2 = o :: rest ∧ o.guard = none ∧ calE [(0, vs 0), (2, vs 1), (3, vi .i64 e), (7, vs 0), (8, vi .i64 e)] o.op = some (53, [vs 0, vi .i64 e]) := ⟨_, _, rfl, rfl, rfl⟩
        rw [hd]
        unfold wpList
        rw [if_pos (by simp [Region.wanted, hg])]
        refine .inl ?_
        unfold Oper.wp
        have hev : ({ a1 with defers := a1.defers ++ [D52] } : Act).eval = a1.eval := by
          funext x; cases x <;> rfl
        rw [hev, call_run Tryd.call53 hc a1 ha]
        simp only [Oper.upon]
        refine (readPan S hb).mono ?_
        rintro en w' ⟨rfl, S'⟩
        show Q (.panic [pe PV]) _ w'
        exact hQ a1 w' (A.at (js := [.g 0, .g 1]) (show A 16 1 fx [(0, vs 0), (2, vs 1), (3, vi .i64 e), (7, vs 0), (8, vi .i64 e)] (itsL bank l) a1 w' from ⟨κ, ha, S'⟩) (by kernel_rfl))
      | some x =>
        cases hs : flash_set F l x.1 with
        | none => simp [flash_contents_l1, hb, hs] at h
        | some l2 =>
          simp [flash_contents_l1, hb, hs] at h
          have h1 := cont3 (readP_some hb) κ w S a0 ha
          rw [hfx] at h1
          have h3 := wpList_cut (P := Tryd.prog) (px := fun _ _ => False) (Q := Exit.then (Code.wp Tryd.prog (Code.region 4 ops4.toArray false) (Exit.inBlock 1 (Exit.then RR Q))) (Exit.inBlock 1 (Exit.then RR Q))) (fun _ _ _ h => h.2.elim) [] (fun a w hJ => ?_) ops3 _ _ (xferD [D52] _ a0 w h1)
          · rwa [List.append_nil] at h3
          obtain ⟨a1, rfl, κ, ha, S⟩ := hJ
          show (Code.region 4 ops4.toArray false).wp Tryd.prog (Exit.inBlock 1 (Exit.then RR Q)) _ w
          refine wp_region_lit (l := ops4) ?_
          have h4 := cont4 hs κ w S a1 ha
          rw [hfx] at h4
          have h5 := wpList_cut (P := Tryd.prog) (px := fun _ _ => False) (Q := Exit.inBlock 1 (Exit.then RR Q)) (fun _ _ _ h => h.2.elim) [] (fun a w hJ => ?_) ops4 _ _ (xferD [D52] _ a1 w h4)
          · rwa [List.append_nil] at h5
          obtain ⟨a2, rfl, hA2⟩ := hJ
          show RR _ w
          exact ih l2 x.2 h a2 w hA2
theorem holds_enter {N : Nat} {fn : Func} {vs : List Value} (hN : fn.ntmps = N) (hle : vs.length ≤ N) : Holds N (enumFrom 0 vs) { tmps := vs.toArray ++ Array.replicate (fn.ntmps - vs.toArray.size) undef, defers := [] } := by
  subst hN
  refine ⟨by simp; omega, rfl, fun t v hv => ?_⟩
  obtain ⟨_, h2⟩ := lk_enum vs 0 t v hv
  simp only [Nat.sub_zero] at h2
  have hlt := (List.getElem?_eq_some_iff.1 h2).1
  rw [Array.getElem?_append_left (by simpa using hlt)]
  simpa using h2
noncomputable def ops0 : List Oper := match Tryd.f35.body with
  | some (.seq (.region _ l _) _) => l.toList
  | _ => []
noncomputable def ops1 : List Oper := match Tryd.f35.body with
  | some (.seq _ (.seq (.region _ l _) _)) => l.toList
  | _ => []
noncomputable def ops2 : List Oper := match Tryd.f35.body with
  | some (.seq _ (.seq _ (.seq (.region _ l _) _))) => l.toList
  | _ => []
theorem body35 : Tryd.f35.body = some (.seq (.region 0 ops0.toArray false) (.seq (.region 1 ops1.toArray false) (.seq (.region 2 ops2.toArray false) (.block 0 (.loop contB))))) := by kernel_rfl
theorem lift0 {ops : Array Oper} {Kn : Act → World → Prop} {Q : Exit → Act → World → Prop} {rest : List Oper} {N n0 : Nat} {fx : Fx} {env : Env'} {its : List Item} {a : Act} {w : World} (hfx : fx.px = fun _ _ => False) (h : SL Tryd.prog ops rest Kn N n0 fx env its) (hA : A N n0 fx env its a w) (hQ : ∀ a w, Kn a w → Q .normal a w) : wpList Tryd.prog ops Q rest a w := by
  obtain ⟨κ, ha, S⟩ := hA
  have h1 := h κ w S a ha
  rw [hfx] at h1
  have h2 := wpList_cut (P := Tryd.prog) (px := fun _ _ => False) (Q := Q) (fun _ _ _ h => h.2.elim) [] hQ rest a w h1
  rwa [List.append_nil] at h2
theorem ok_contents {F : Nat} {bank_1 : List Int} {r : (List T_api_Item) × Int} (hp : flash_contents F bank_1 = some r) : Spec Tryd.prog 35 [vs 0] [.rd 1 R8 bank_1] (.u [.inl (.s 1), .inl (ci .i64 r.2)]) [.gone, .own 2 71 R_T_api_Item r.1] := fun U0 κ w gl S => by
  obtain ⟨fx, hfx0⟩ : ∃ fx : Fx, fx = ⟨U0, Lof [.rd 1 R8 bank_1] κ, w, κ, gl, fun _ _ => False⟩ := ⟨_, rfl⟩
  have hpx : fx.px = fun _ _ => False := by rw [hfx0]
  have S0 : St 1 fx (enumS 0 [vs 0]) [.rd 1 R8 bank_1] κ w := by rw [hfx0]; exact S
  refine calls_of_wp_defers Tryd.func35 body35 ?_
  have hH : Holds 16 (enumFrom 0 ([vs 0].map (SV.den κ))) { tmps := ([vs 0].map (SV.den κ)).toArray ++ Array.replicate (Tryd.f35.ntmps - ([vs 0].map (SV.den κ)).toArray.size) undef, defers := [] } := holds_enter (N := 16) Tryd.ntmps35 (by simp)
  rw [← denE_enumS] at hH
  have hA0 : A 16 1 fx (enumS 0 [vs 0]) [.rd 1 R8 bank_1] _ w := ⟨κ, hH, S0⟩
  apply wp_seq
  refine wp_region_lit (l := ops0) ?_
  refine lift0 hpx (Kn := fun a w => A 16 1 fx [(0, vs 0), (2, vn), (3, vi .i64 0)] [.rd 1 R8 bank_1] a w) ?_ hA0 fun a w hA => ?_
  · refine SL.sim tk 2 [(0, vs 0), (2, vn), (3, vi .i64 0)] [] [] [] (by kernel_rfl) ?_
    exact SL.nilJ fun a w h => h
  apply wp_seq
  refine wp_region_lit (l := ops1) ?_
  refine lift0 hpx (Kn := fun a w => A 16 1 fx (envL 10) (itsL bank_1 []) a w) ?_ hA fun a w hA => ?_
  · refine SL.sim tk 1 [(0, vs 0), (2, vn), (3, vi .i64 10)] [] [] [] (by kernel_rfl) ?_
    refine SL.nil 2 71 R_T_api_Item rfl 2 rfl ?_
    exact SL.nilJ fun a w h => h.at (js := [.g 0, .g 1]) (by kernel_rfl)
  apply wp_seq
  refine wp_region_lit (l := ops2) ?_
  obtain ⟨o, hd, hg, hrun⟩ : ∃ o, ops2 = [o] ∧ o.guard = none ∧ o.dst = none ∧ ∀ w, (execOp a.eval o).run Tryd.prog w = .ok (.defer D52) w := ⟨_, rfl, rfl, rfl, fun _ => by simp [execOp, resolve, go_sem, D52]⟩
  rw [hd]
  unfold wpList
  rw [if_pos (by simp [Region.wanted, hg])]
  refine .inl ?_
  unfold Oper.wp
  rw [hrun.2 w]
  simp only [Oper.upon, hrun.1]
  have hde : D52 :: a.defers = a.defers ++ [D52] := by
    obtain ⟨κ, ha, _⟩ := hA
    rw [ha.defers]
    rfl
  rw [hde]
  unfold wpList
  show (Code.block 0 (.loop contB)).wp Tryd.prog _ { a with defers := a.defers ++ [D52] } w
  apply wp_block
  refine wp_loop_rounds F ?_
  refine cont_rounds hpx (fun a1 w' hA1 => ?_) F [] 10 hp a w hA
  obtain ⟨κ1, ha1, S1⟩ := hA1
  show Leaves Tryd.prog Tryd.f35 a1.tmps _ (a1.defers ++ [D52]) (.panicking [pe PV]) w'
  rw [ha1.defers, List.nil_append]
  refine leaves_cons (f := 52) (args := #[]) (by simp) (by simp [go_sem]) ?_
  refine (recov w').mono ?_
  rintro e u' w'' ⟨rfl, rfl, rfl⟩
  obtain ⟨κx, _, S2⟩ := newBlk_st (E := 80) (cs := []) S1 rfl rfl (newBlk_mk S1.ctx 80 [])
  have hA2 : A 16 1 fx (envL r.2) (itsL bank_1 r.1 ++ [.blk 80 []]) a1 (w'.alloc (.cells #[] 80)) := ⟨κ1 ++ κx, by rw [denE_app (by rw [S1.len]; exact S1.sce)]; exact ha1, S2⟩
  obtain ⟨_, v, hv, hres⟩ := (A.re (fn := Tryd.f35) (rs := .u [.inl (.s 1), .inl (ci .i64 r.2)]) (its' := [.gone, .own 2 71 R_T_api_Item r.1]) (js := [.g 0, .g 1]) tk hA2 (by kernel_rfl) : RetE Tryd.prog Tryd.f35 1 fx _ _ a1 _)
  obtain ⟨κy, he, S3⟩ := hres
  refine ⟨v, hv, κy, ?_, ?_⟩
  · rw [hfx0] at he; exact he
  · rw [hfx0] at S3; exact S3
theorem ok_flash_contents (F : Nat) (bank_1 : (List Int)) (r : (List T_api_Item) × Int) (hp : flash_contents F bank_1 = some r) : Spec Tryd.prog 35 [vs 0] [.rd 1 R8 bank_1] (.u [.inl (.s 1), .inl (ci .i64 r.2)]) [.gone, .own 2 71 R_T_api_Item r.1] := by
 exact ok_contents hp


theorem ok_flash_Mount (F : Nat) (f_1 : T_api_Flash) (r : T_api_Store × Int) (hp : flash_Mount F f_1 = some r) : Spec Tryd.prog 16 [.g [.s 0, .s 1]] [.rd 1 R8 f_1.Banks.1, .rd 1 R8 f_1.Banks.2] (.u [.inr [.s 2, .s 3, ci .i64 r.1.Bank, ci .i64 r.1.Count, ci .i64 r.1.End, .s 4], .inl (ci .i64 r.2)]) [.gone, .gone, .rd 1 R8 r.1.Flash.Banks.1, .rd 1 R8 r.1.Flash.Banks.2, .rd 2 R_T_api_Item r.1.Items] := by
 refine Spec.enter Tryd.func16 rfl Tryd.ntmps16 rfl rfl fun fx => ?_
 refine SC.seq ?_
 refine SC.reg ?_
 refine SL.eff (e_box (E := 25) [.s 0, .s 1] (by kernel_rfl)) rfl (by kernel_rfl) ?_
 refine SL.eff (e_alloc (E := 40) tk [nl, nl, ci .i64 0, ci .i64 0, ci .i64 0, nl] (by kernel_rfl)) rfl (by kernel_rfl) ?_
 refine SL.sim tk 1 [(1, vp 2 0), (2, vp 3 0)] [] [] [] (by kernel_rfl) ?_
 refine SL.nilThen ?_
 refine SC.scope ?_
 refine SC.seq ?_
 refine SC.reg ?_
 refine SL.sim tk 1 [(1, vp 2 0), (2, vp 3 0), (10, vp 2 0)] [] [] [] (by kernel_rfl) ?_
 refine SL.eff (e_ixa (off := 0) (T := 25) (cs := [.s 0, .s 1]) tk rfl rfl (by kernel_rfl) (by kernel_rfl)) rfl (by kernel_rfl) ?_
 refine SL.sim tk 3 [(1, vp 2 0), (2, vp 3 0), (4, vi .i64 (len f_1.Banks.1))] [] [] [] (by kernel_rfl) ?_
 refine SL.nilThen ?_
 refine SC.seq ?_
 refine SC.seq ?_
 refine SC.reg ?_
 refine SL.sim tk 1 [(1, vp 2 0), (2, vp 3 0), (4, vi .i64 (len f_1.Banks.1)), (14, vp 2 0)] [] [] [] (by kernel_rfl) ?_
 refine SL.eff (e_ixa (off := 1) (T := 25) (cs := [.s 0, .s 1]) tk rfl rfl (by kernel_rfl) (by kernel_rfl)) rfl (by kernel_rfl) ?_
 refine SL.norm (itsN := [.rd 1 R8 f_1.Banks.1, .rd 1 R8 f_1.Banks.2, .blk 25 [.s 0, .s 1], .blk 40 [nl, nl, ci .i64 0, ci .i64 0, ci .i64 0, nl]]) (by kernel_rfl) ?_
 refine SL.sim tk 5 [(1, vp 2 0), (2, vp 3 0), (4, vi .i64 (len f_1.Banks.1)), (20, vb ((len f_1.Banks.2) != (len f_1.Banks.1)))] [] [] [] (by kernel_rfl) ?_
 obtain ⟨z_3, hz, hpr⟩ := bind_inv hp
 clear hp
 refine SL.cutAt 4 (fun a w => A 84 2 fx [(1, vp 2 0), (2, vp 3 0), (4, vi .i64 (len f_1.Banks.1)), (24, vb z_3)] [.rd 1 R8 f_1.Banks.1, .rd 1 R8 f_1.Banks.2, .blk 25 [.s 0, .s 1], .blk 40 [nl, nl, ci .i64 0, ci .i64 0, ci .i64 0, nl]] a w) ?_ ?_
 · have hp := hz
   rcases Bool.eq_false_or_eq_true (((len f_1.Banks.2) != (len f_1.Banks.1))) with hg_2 | hg_2
   · replace hp := if_t hp hg_2
     refine SL.no rfl rfl hg_2 rfl ?_
     refine SL.no rfl rfl hg_2 rfl ?_
     refine SL.no rfl rfl hg_2 rfl ?_
     refine SL.pickt rfl hg_2 rfl rfl ?_
     refine SL.nilJ fun a w h => ?_
     obtain rfl := some_inv' hp
     exact h.at (js := [.g 0, .g 1, .g 2, .g 3]) (by kernel_rfl)
   replace hp := if_f hp hg_2
   refine SL.yes rfl rfl hg_2 ?_
   refine SL.sim tk 1 [(1, vp 2 0), (2, vp 3 0), (4, vi .i64 (len f_1.Banks.1)), (20, vb ((len f_1.Banks.2) != (len f_1.Banks.1))), (21, vi .i64 (len f_1.Banks.1))] [] [] [] (by kernel_rfl) ?_
   refine SL.yes rfl rfl hg_2 ?_
   obtain ⟨x_985, e_x_985, hp⟩ := bind_inv hp
   refine SL.eff (e_c Tryd.call30 (ok_flash_fits F (len f_1.Banks.1) _ e_x_985) [] [vi .i64 (len f_1.Banks.1)] (vb x_985) (by kernel_rfl) (.inl rfl)) rfl (by kernel_rfl) ?_
   refine SL.yes rfl rfl hg_2 ?_
   refine SL.sim tk 1 [(1, vp 2 0), (2, vp 3 0), (4, vi .i64 (len f_1.Banks.1)), (20, vb ((len f_1.Banks.2) != (len f_1.Banks.1))), (23, vb (!x_985))] [] [] [] (by kernel_rfl) ?_
   refine SL.pickf rfl hg_2 rfl rfl ?_
   refine SL.nilJ fun a w h => ?_
   obtain rfl := some_inv' hp
   exact h.at (js := [.g 0, .g 1, .g 2, .g 3]) (by kernel_rfl)
 intro a w h
 have hp := hpr; clear hpr hz
 refine h.goL ?_
 refine SL.nilThen ?_
 refine SC.if' rfl hp (fun hp => ?_) (fun hp => ?_)
 · refine SC.r tk [(2, vp 3 0), (3, vi .i64 5)] [(3, 40, [nl, nl, ci .i64 0, ci .i64 0, ci .i64 0, nl])] [] [] (by kernel_rfl) ?_
   obtain rfl := some_inv' hp
   exact SC.re (js := [.g 0, .g 1, .n, .n, .n]) tk (by kernel_rfl)
 refine SC.skipThen ?_
 refine SC.seq ?_
 refine SC.reg ?_
 refine SL.sim tk 1 [(1, vp 2 0), (2, vp 3 0), (4, vi .i64 (len f_1.Banks.1)), (26, .g [.s 0, .s 1])] [] [] [] (by kernel_rfl) ?_
 obtain ⟨x_4, e_x_4, hp⟩ := bind_inv hp
 refine SL.eff (e_c Tryd.call33 (ok_flash_copied F f_1 _ e_x_4) [.g 0, .g 1] [.g [.s 0, .s 1]] (.g [.s 4, .s 5]) (by kernel_rfl) (.inl rfl)) rfl (by kernel_rfl) ?_
 refine SL.sim tk 2 [(1, vp 2 0), (2, vp 3 0), (4, vi .i64 (len f_1.Banks.1)), (29, .g [.s 4, .s 5, ci .i64 0, ci .i64 0, ci .i64 (len f_1.Banks.1), nl])] [] [] [] (by kernel_rfl) ?_
 refine SL.eff (e_alloc (E := 40) tk [nl, nl, ci .i64 0, ci .i64 0, ci .i64 0, nl] (by kernel_rfl)) rfl (by kernel_rfl) ?_
 refine SL.sim tk 1 [(1, vp 2 0), (2, vp 3 0), (4, vi .i64 (len f_1.Banks.1)), (5, vp 6 0)] [(6, 40, [.s 4, .s 5, ci .i64 0, ci .i64 0, ci .i64 (len f_1.Banks.1), nl])] [] [] (by kernel_rfl) ?_
 refine SL.nilThen ?_
 refine SC.cut (fun a w => ∃ (x_5 : Int) (x_6 : Int), flash_Mount_j1 F f_1 x_4 x_5 x_6 = some r ∧ A 84 2 fx [(2, vp 2 0), (4, vi .i64 (len f_1.Banks.1)), (5, vp 3 0), (6, vp 6 0)] [.gone, .gone, .blk 40 [nl, nl, ci .i64 0, ci .i64 0, ci .i64 0, nl], .blk 40 [.s 4, .s 5, ci .i64 0, ci .i64 0, ci .i64 (len f_1.Banks.1), nl], .own 1 5 R8 x_4.Banks.1, .own 1 5 R8 x_4.Banks.2, .blk 64 [ci .i64 x_5, ci .i64 x_6]] a w) ?_ ?_
 · refine SC.draw MO [I, I, I, I, I, I, I] (by kernel_rfl) fun kap_22 D_23 => ?_
   refine SD.takes tk D_23 [] kn0 [0, 4] [] [] (bm 11 17) [(2, vp 3 0), (4, vi .i64 (len f_1.Banks.1)), (5, vp 6 0), (30, vp 2 0), (34, vp 2 0)] rfl (by kernel_rfl) (by kernel_rfl) (by kernel_rfl) ?_
   obtain ⟨x_264, e_x_264, hp⟩ := bind_inv hp
   obtain ⟨x_584, e_x_584, hp⟩ := bind_inv hp
   refine SD.lay 0 (bm 11 2047) [(2, vp 3 0), (4, vi .i64 (len f_1.Banks.1)), (5, vp 6 0), (6, vp 7 0)] [.rd 1 R8 f_1.Banks.1, .rd 1 R8 f_1.Banks.2, .blk 25 [.s 0, .s 1], .blk 40 [nl, nl, ci .i64 0, ci .i64 0, ci .i64 0, nl], .own 1 5 R8 x_4.Banks.1, .own 1 5 R8 x_4.Banks.2, .blk 40 [.s 4, .s 5, ci .i64 0, ci .i64 0, ci .i64 (len f_1.Banks.1), nl], .blk 64 [ci .i64 x_264, ci .i64 x_584]] ?_ (fun c_23_0 => ?_)
   · refine SD.done (by kernel_rfl) fun a w h => ?_
     exact ⟨x_264, x_584, hp, h.at (js := [.g 0, .g 1, .g 3, .g 6, .g 4, .g 5, .g 7]) (by kernel_rfl)⟩
   refine SD.lay 1 (bm 11 1023) [(2, vp 3 0), (4, vi .i64 (len f_1.Banks.1)), (5, vp 6 0), (6, vp 7 0), (38, .g [ci .i64 x_264, ci .i64 x_584])] [.rd 1 R8 f_1.Banks.1, .rd 1 R8 f_1.Banks.2, .blk 25 [.s 0, .s 1], .blk 40 [nl, nl, ci .i64 0, ci .i64 0, ci .i64 0, nl], .own 1 5 R8 x_4.Banks.1, .own 1 5 R8 x_4.Banks.2, .blk 40 [.s 4, .s 5, ci .i64 0, ci .i64 0, ci .i64 (len f_1.Banks.1), nl], .blk 64 [ci .i64 0, ci .i64 0]] ?_ (fun c_23_1 => ?_)
   · refine SD.all1 (i := 10) (by kernel_rfl) ?_
     refine SW.store D_23 tk (i := 10) (q := 7) (T := 64) (cs := [ci .i64 x_264, ci .i64 x_584]) (bs' := (bm 11 2047)) rfl (by kernel_rfl) rfl rfl (by kernel_rfl) ?_
     exact SD.vie D_23 [.g 0, .g 1, .g 2, .g 3, .g 4, .g 5, .g 6, .g 7] c_23_0 (by kernel_rfl)
   refine SD.lay 2 (bm 11 511) [(2, vp 3 0), (4, vi .i64 (len f_1.Banks.1)), (5, vp 6 0), (38, .g [ci .i64 x_264, ci .i64 x_584])] [.rd 1 R8 f_1.Banks.1, .rd 1 R8 f_1.Banks.2, .blk 25 [.s 0, .s 1], .blk 40 [nl, nl, ci .i64 0, ci .i64 0, ci .i64 0, nl], .own 1 5 R8 x_4.Banks.1, .own 1 5 R8 x_4.Banks.2, .blk 40 [.s 4, .s 5, ci .i64 0, ci .i64 0, ci .i64 (len f_1.Banks.1), nl]] ?_ (fun c_23_2 => ?_)
   · refine SD.all1 (i := 9) (by kernel_rfl) ?_
     refine SW.eff D_23 (i := 9) (bs' := (bm 11 1023)) rfl (.inl rfl) rfl (e_alloc (E := 64) tk [ci .i64 0, ci .i64 0] (by kernel_rfl)) (by kernel_rfl) rfl (by kernel_rfl) ?_
     exact SD.vie D_23 [.g 0, .g 1, .g 2, .g 3, .g 4, .g 5, .g 6, .g 7] c_23_1 (by kernel_rfl)
   refine SD.lay 3 (bm 11 639) [(2, vp 3 0), (4, vi .i64 (len f_1.Banks.1)), (5, vp 6 0), (6, vp 7 0), (33, vi .i64 x_264), (36, vs 1)] [.rd 1 R8 f_1.Banks.1, .rd 1 R8 f_1.Banks.2, .blk 25 [.s 0, .s 1], .blk 40 [nl, nl, ci .i64 0, ci .i64 0, ci .i64 0, nl], .own 1 5 R8 x_4.Banks.1, .own 1 5 R8 x_4.Banks.2, .blk 40 [.s 4, .s 5, ci .i64 0, ci .i64 0, ci .i64 (len f_1.Banks.1), nl], .blk 64 [ci .i64 0, ci .i64 0]] ?_ (fun c_23_3 => ?_)
   · refine SD.all1 (i := 7) (by kernel_rfl) ?_
     refine SW.eff D_23 (i := 7) (bs' := (bm 11 767)) rfl (.inl rfl) rfl (e_c Tryd.call34 (ok_flash_count F f_1.Banks.2 _ e_x_584) [.g 1] [vs 1] (vi .i64 x_584) (by kernel_rfl) (.inl rfl)) (by kernel_rfl) rfl (by kernel_rfl) ?_
     refine SD.takes tk D_23 [] kn0 [8] [] [] (bm 11 1023) [(2, vp 3 0), (4, vi .i64 (len f_1.Banks.1)), (5, vp 6 0), (6, vp 7 0), (38, .g [ci .i64 x_264, ci .i64 x_584])] rfl (by kernel_rfl) (by kernel_rfl) (by kernel_rfl) ?_
     exact SD.vie D_23 [.g 0, .g 1, .g 2, .g 3, .g 4, .g 5, .g 6, .g 7] c_23_1 (by kernel_rfl)
   refine SD.lay 4 (bm 11 127) [(2, vp 3 0), (4, vi .i64 (len f_1.Banks.1)), (5, vp 6 0), (33, vi .i64 x_264), (36, vs 1)] [.rd 1 R8 f_1.Banks.1, .rd 1 R8 f_1.Banks.2, .blk 25 [.s 0, .s 1], .blk 40 [nl, nl, ci .i64 0, ci .i64 0, ci .i64 0, nl], .own 1 5 R8 x_4.Banks.1, .own 1 5 R8 x_4.Banks.2, .blk 40 [.s 4, .s 5, ci .i64 0, ci .i64 0, ci .i64 (len f_1.Banks.1), nl]] ?_ (fun c_23_4 => ?_)
   · refine SD.all2 (i := 7) (j := 9) (by kernel_rfl) ?_ ?_
     · refine SW.eff D_23 (i := 7) (bs' := (bm 11 255)) rfl (.inl rfl) rfl (e_c Tryd.call34 (ok_flash_count F f_1.Banks.2 _ e_x_584) [.g 1] [vs 1] (vi .i64 x_584) (by kernel_rfl) (.inl rfl)) (by kernel_rfl) rfl (by kernel_rfl) ?_
       refine SD.takes tk D_23 [] kn0 [8] [] [] (bm 11 511) [(2, vp 3 0), (4, vi .i64 (len f_1.Banks.1)), (5, vp 6 0), (38, .g [ci .i64 x_264, ci .i64 x_584])] rfl (by kernel_rfl) (by kernel_rfl) (by kernel_rfl) ?_
       exact SD.vie D_23 [.g 0, .g 1, .g 2, .g 3, .g 4, .g 5, .g 6] c_23_2 (by kernel_rfl)
     refine SW.eff D_23 (i := 9) (bs' := (bm 11 639)) rfl (.inl rfl) rfl (e_alloc (E := 64) tk [ci .i64 0, ci .i64 0] (by kernel_rfl)) (by kernel_rfl) rfl (by kernel_rfl) ?_
     exact SD.vie D_23 [.g 0, .g 1, .g 2, .g 3, .g 4, .g 5, .g 6, .g 7] c_23_3 (by kernel_rfl)
   refine SD.lay 5 (bm 11 543) [(2, vp 3 0), (4, vi .i64 (len f_1.Banks.1)), (5, vp 6 0), (6, vp 7 0), (33, vi .i64 x_264), (34, vp 2 0)] [.rd 1 R8 f_1.Banks.1, .rd 1 R8 f_1.Banks.2, .blk 25 [.s 0, .s 1], .blk 40 [nl, nl, ci .i64 0, ci .i64 0, ci .i64 0, nl], .own 1 5 R8 x_4.Banks.1, .own 1 5 R8 x_4.Banks.2, .blk 40 [.s 4, .s 5, ci .i64 0, ci .i64 0, ci .i64 (len f_1.Banks.1), nl], .blk 64 [ci .i64 0, ci .i64 0]] ?_ (fun c_23_5 => ?_)
   · refine SD.all1 (i := 5) (by kernel_rfl) ?_
     refine SW.eff D_23 (i := 5) (bs' := (bm 11 575)) rfl (.inl rfl) rfl (e_ixa (off := 1) (T := 25) (cs := [.s 0, .s 1]) tk rfl rfl (by kernel_rfl) (by kernel_rfl)) (by kernel_rfl) rfl (by kernel_rfl) ?_
     refine SD.takes tk D_23 [] kn0 [6] [] [] (bm 11 639) [(2, vp 3 0), (4, vi .i64 (len f_1.Banks.1)), (5, vp 6 0), (6, vp 7 0), (33, vi .i64 x_264), (36, vs 1)] rfl (by kernel_rfl) (by kernel_rfl) (by kernel_rfl) ?_
     exact SD.vie D_23 [.g 0, .g 1, .g 2, .g 3, .g 4, .g 5, .g 6, .g 7] c_23_3 (by kernel_rfl)
   refine SD.lay 6 (bm 11 31) [(2, vp 3 0), (4, vi .i64 (len f_1.Banks.1)), (5, vp 6 0), (33, vi .i64 x_264), (34, vp 2 0)] [.rd 1 R8 f_1.Banks.1, .rd 1 R8 f_1.Banks.2, .blk 25 [.s 0, .s 1], .blk 40 [nl, nl, ci .i64 0, ci .i64 0, ci .i64 0, nl], .own 1 5 R8 x_4.Banks.1, .own 1 5 R8 x_4.Banks.2, .blk 40 [.s 4, .s 5, ci .i64 0, ci .i64 0, ci .i64 (len f_1.Banks.1), nl]] ?_ (fun c_23_6 => ?_)
   · refine SD.all2 (i := 5) (j := 9) (by kernel_rfl) ?_ ?_
     · refine SW.eff D_23 (i := 5) (bs' := (bm 11 63)) rfl (.inl rfl) rfl (e_ixa (off := 1) (T := 25) (cs := [.s 0, .s 1]) tk rfl rfl (by kernel_rfl) (by kernel_rfl)) (by kernel_rfl) rfl (by kernel_rfl) ?_
       refine SD.takes tk D_23 [] kn0 [6] [] [] (bm 11 127) [(2, vp 3 0), (4, vi .i64 (len f_1.Banks.1)), (5, vp 6 0), (33, vi .i64 x_264), (36, vs 1)] rfl (by kernel_rfl) (by kernel_rfl) (by kernel_rfl) ?_
       exact SD.vie D_23 [.g 0, .g 1, .g 2, .g 3, .g 4, .g 5, .g 6] c_23_4 (by kernel_rfl)
     refine SW.eff D_23 (i := 9) (bs' := (bm 11 543)) rfl (.inl rfl) rfl (e_alloc (E := 64) tk [ci .i64 0, ci .i64 0] (by kernel_rfl)) (by kernel_rfl) rfl (by kernel_rfl) ?_
     exact SD.vie D_23 [.g 0, .g 1, .g 2, .g 3, .g 4, .g 5, .g 6, .g 7] c_23_5 (by kernel_rfl)
   refine SD.lay 4 (bm 11 631) [(2, vp 3 0), (4, vi .i64 (len f_1.Banks.1)), (5, vp 6 0), (6, vp 7 0), (32, vs 0), (36, vs 1)] [.rd 1 R8 f_1.Banks.1, .rd 1 R8 f_1.Banks.2, .blk 25 [.s 0, .s 1], .blk 40 [nl, nl, ci .i64 0, ci .i64 0, ci .i64 0, nl], .own 1 5 R8 x_4.Banks.1, .own 1 5 R8 x_4.Banks.2, .blk 40 [.s 4, .s 5, ci .i64 0, ci .i64 0, ci .i64 (len f_1.Banks.1), nl], .blk 64 [ci .i64 0, ci .i64 0]] ?_ (fun c_23_7 => ?_)
   · refine SD.all1 (i := 3) (by kernel_rfl) ?_
     refine SW.eff D_23 (i := 3) (bs' := (bm 11 639)) rfl (.inl rfl) rfl (e_c Tryd.call34 (ok_flash_count F f_1.Banks.1 _ e_x_264) [.g 0] [vs 0] (vi .i64 x_264) (by kernel_rfl) (.inl rfl)) (by kernel_rfl) rfl (by kernel_rfl) ?_
     exact SD.vie D_23 [.g 0, .g 1, .g 2, .g 3, .g 4, .g 5, .g 6, .g 7] c_23_3 (by kernel_rfl)
   refine SD.lay 5 (bm 11 119) [(2, vp 3 0), (4, vi .i64 (len f_1.Banks.1)), (5, vp 6 0), (32, vs 0), (36, vs 1)] [.rd 1 R8 f_1.Banks.1, .rd 1 R8 f_1.Banks.2, .blk 25 [.s 0, .s 1], .blk 40 [nl, nl, ci .i64 0, ci .i64 0, ci .i64 0, nl], .own 1 5 R8 x_4.Banks.1, .own 1 5 R8 x_4.Banks.2, .blk 40 [.s 4, .s 5, ci .i64 0, ci .i64 0, ci .i64 (len f_1.Banks.1), nl]] ?_ (fun c_23_8 => ?_)
   · refine SD.all2 (i := 3) (j := 9) (by kernel_rfl) ?_ ?_
     · refine SW.eff D_23 (i := 3) (bs' := (bm 11 127)) rfl (.inl rfl) rfl (e_c Tryd.call34 (ok_flash_count F f_1.Banks.1 _ e_x_264) [.g 0] [vs 0] (vi .i64 x_264) (by kernel_rfl) (.inl rfl)) (by kernel_rfl) rfl (by kernel_rfl) ?_
       exact SD.vie D_23 [.g 0, .g 1, .g 2, .g 3, .g 4, .g 5, .g 6] c_23_4 (by kernel_rfl)
     refine SW.eff D_23 (i := 9) (bs' := (bm 11 631)) rfl (.inl rfl) rfl (e_alloc (E := 64) tk [ci .i64 0, ci .i64 0] (by kernel_rfl)) (by kernel_rfl) rfl (by kernel_rfl) ?_
     exact SD.vie D_23 [.g 0, .g 1, .g 2, .g 3, .g 4, .g 5, .g 6, .g 7] c_23_7 (by kernel_rfl)
   refine SD.lay 6 (bm 11 535) [(2, vp 3 0), (4, vi .i64 (len f_1.Banks.1)), (5, vp 6 0), (6, vp 7 0), (32, vs 0), (34, vp 2 0)] [.rd 1 R8 f_1.Banks.1, .rd 1 R8 f_1.Banks.2, .blk 25 [.s 0, .s 1], .blk 40 [nl, nl, ci .i64 0, ci .i64 0, ci .i64 0, nl], .own 1 5 R8 x_4.Banks.1, .own 1 5 R8 x_4.Banks.2, .blk 40 [.s 4, .s 5, ci .i64 0, ci .i64 0, ci .i64 (len f_1.Banks.1), nl], .blk 64 [ci .i64 0, ci .i64 0]] ?_ (fun c_23_9 => ?_)
   · refine SD.all2 (i := 3) (j := 5) (by kernel_rfl) ?_ ?_
     · refine SW.eff D_23 (i := 3) (bs' := (bm 11 543)) rfl (.inl rfl) rfl (e_c Tryd.call34 (ok_flash_count F f_1.Banks.1 _ e_x_264) [.g 0] [vs 0] (vi .i64 x_264) (by kernel_rfl) (.inl rfl)) (by kernel_rfl) rfl (by kernel_rfl) ?_
       exact SD.vie D_23 [.g 0, .g 1, .g 2, .g 3, .g 4, .g 5, .g 6, .g 7] c_23_5 (by kernel_rfl)
     refine SW.eff D_23 (i := 5) (bs' := (bm 11 567)) rfl (.inl rfl) rfl (e_ixa (off := 1) (T := 25) (cs := [.s 0, .s 1]) tk rfl rfl (by kernel_rfl) (by kernel_rfl)) (by kernel_rfl) rfl (by kernel_rfl) ?_
     refine SD.takes tk D_23 [] kn0 [6] [] [] (bm 11 631) [(2, vp 3 0), (4, vi .i64 (len f_1.Banks.1)), (5, vp 6 0), (6, vp 7 0), (32, vs 0), (36, vs 1)] rfl (by kernel_rfl) (by kernel_rfl) (by kernel_rfl) ?_
     exact SD.vie D_23 [.g 0, .g 1, .g 2, .g 3, .g 4, .g 5, .g 6, .g 7] c_23_7 (by kernel_rfl)
   refine SD.lay 7 (bm 11 23) [(2, vp 3 0), (4, vi .i64 (len f_1.Banks.1)), (5, vp 6 0), (32, vs 0), (34, vp 2 0)] [.rd 1 R8 f_1.Banks.1, .rd 1 R8 f_1.Banks.2, .blk 25 [.s 0, .s 1], .blk 40 [nl, nl, ci .i64 0, ci .i64 0, ci .i64 0, nl], .own 1 5 R8 x_4.Banks.1, .own 1 5 R8 x_4.Banks.2, .blk 40 [.s 4, .s 5, ci .i64 0, ci .i64 0, ci .i64 (len f_1.Banks.1), nl]] ?_ (fun c_23_10 => ?_)
   · refine SD.all3 (i := 3) (j := 5) (k := 9) (by kernel_rfl) ?_ ?_ ?_
     · refine SW.eff D_23 (i := 3) (bs' := (bm 11 31)) rfl (.inl rfl) rfl (e_c Tryd.call34 (ok_flash_count F f_1.Banks.1 _ e_x_264) [.g 0] [vs 0] (vi .i64 x_264) (by kernel_rfl) (.inl rfl)) (by kernel_rfl) rfl (by kernel_rfl) ?_
       exact SD.vie D_23 [.g 0, .g 1, .g 2, .g 3, .g 4, .g 5, .g 6] c_23_6 (by kernel_rfl)
     · refine SW.eff D_23 (i := 5) (bs' := (bm 11 55)) rfl (.inl rfl) rfl (e_ixa (off := 1) (T := 25) (cs := [.s 0, .s 1]) tk rfl rfl (by kernel_rfl) (by kernel_rfl)) (by kernel_rfl) rfl (by kernel_rfl) ?_
       refine SD.takes tk D_23 [] kn0 [6] [] [] (bm 11 119) [(2, vp 3 0), (4, vi .i64 (len f_1.Banks.1)), (5, vp 6 0), (32, vs 0), (36, vs 1)] rfl (by kernel_rfl) (by kernel_rfl) (by kernel_rfl) ?_
       exact SD.vie D_23 [.g 0, .g 1, .g 2, .g 3, .g 4, .g 5, .g 6] c_23_8 (by kernel_rfl)
     refine SW.eff D_23 (i := 9) (bs' := (bm 11 535)) rfl (.inl rfl) rfl (e_alloc (E := 64) tk [ci .i64 0, ci .i64 0] (by kernel_rfl)) (by kernel_rfl) rfl (by kernel_rfl) ?_
     exact SD.vie D_23 [.g 0, .g 1, .g 2, .g 3, .g 4, .g 5, .g 6, .g 7] c_23_9 (by kernel_rfl)
   refine SD.lay 6 (bm 11 625) [(2, vp 3 0), (4, vi .i64 (len f_1.Banks.1)), (5, vp 6 0), (6, vp 7 0), (30, vp 2 0), (36, vs 1)] [.rd 1 R8 f_1.Banks.1, .rd 1 R8 f_1.Banks.2, .blk 25 [.s 0, .s 1], .blk 40 [nl, nl, ci .i64 0, ci .i64 0, ci .i64 0, nl], .own 1 5 R8 x_4.Banks.1, .own 1 5 R8 x_4.Banks.2, .blk 40 [.s 4, .s 5, ci .i64 0, ci .i64 0, ci .i64 (len f_1.Banks.1), nl], .blk 64 [ci .i64 0, ci .i64 0]] ?_ (fun c_23_11 => ?_)
   · refine SD.all1 (i := 1) (by kernel_rfl) ?_
     refine SW.eff D_23 (i := 1) (bs' := (bm 11 627)) rfl (.inl rfl) rfl (e_ixa (off := 0) (T := 25) (cs := [.s 0, .s 1]) tk rfl rfl (by kernel_rfl) (by kernel_rfl)) (by kernel_rfl) rfl (by kernel_rfl) ?_
     refine SD.takes tk D_23 [] kn0 [2] [] [] (bm 11 631) [(2, vp 3 0), (4, vi .i64 (len f_1.Banks.1)), (5, vp 6 0), (6, vp 7 0), (32, vs 0), (36, vs 1)] rfl (by kernel_rfl) (by kernel_rfl) (by kernel_rfl) ?_
     exact SD.vie D_23 [.g 0, .g 1, .g 2, .g 3, .g 4, .g 5, .g 6, .g 7] c_23_7 (by kernel_rfl)
   refine SD.lay 7 (bm 11 113) [(2, vp 3 0), (4, vi .i64 (len f_1.Banks.1)), (5, vp 6 0), (30, vp 2 0), (36, vs 1)] [.rd 1 R8 f_1.Banks.1, .rd 1 R8 f_1.Banks.2, .blk 25 [.s 0, .s 1], .blk 40 [nl, nl, ci .i64 0, ci .i64 0, ci .i64 0, nl], .own 1 5 R8 x_4.Banks.1, .own 1 5 R8 x_4.Banks.2, .blk 40 [.s 4, .s 5, ci .i64 0, ci .i64 0, ci .i64 (len f_1.Banks.1), nl]] ?_ (fun c_23_12 => ?_)
   · refine SD.all2 (i := 1) (j := 9) (by kernel_rfl) ?_ ?_
     · refine SW.eff D_23 (i := 1) (bs' := (bm 11 115)) rfl (.inl rfl) rfl (e_ixa (off := 0) (T := 25) (cs := [.s 0, .s 1]) tk rfl rfl (by kernel_rfl) (by kernel_rfl)) (by kernel_rfl) rfl (by kernel_rfl) ?_
       refine SD.takes tk D_23 [] kn0 [2] [] [] (bm 11 119) [(2, vp 3 0), (4, vi .i64 (len f_1.Banks.1)), (5, vp 6 0), (32, vs 0), (36, vs 1)] rfl (by kernel_rfl) (by kernel_rfl) (by kernel_rfl) ?_
       exact SD.vie D_23 [.g 0, .g 1, .g 2, .g 3, .g 4, .g 5, .g 6] c_23_8 (by kernel_rfl)
     refine SW.eff D_23 (i := 9) (bs' := (bm 11 625)) rfl (.inl rfl) rfl (e_alloc (E := 64) tk [ci .i64 0, ci .i64 0] (by kernel_rfl)) (by kernel_rfl) rfl (by kernel_rfl) ?_
     exact SD.vie D_23 [.g 0, .g 1, .g 2, .g 3, .g 4, .g 5, .g 6, .g 7] c_23_11 (by kernel_rfl)
   refine SD.lay 8 (bm 11 529) [(2, vp 3 0), (4, vi .i64 (len f_1.Banks.1)), (5, vp 6 0), (6, vp 7 0), (30, vp 2 0), (34, vp 2 0)] [.rd 1 R8 f_1.Banks.1, .rd 1 R8 f_1.Banks.2, .blk 25 [.s 0, .s 1], .blk 40 [nl, nl, ci .i64 0, ci .i64 0, ci .i64 0, nl], .own 1 5 R8 x_4.Banks.1, .own 1 5 R8 x_4.Banks.2, .blk 40 [.s 4, .s 5, ci .i64 0, ci .i64 0, ci .i64 (len f_1.Banks.1), nl], .blk 64 [ci .i64 0, ci .i64 0]] ?_ (fun c_23_13 => ?_)
   · refine SD.all2 (i := 1) (j := 5) (by kernel_rfl) ?_ ?_
     · refine SW.eff D_23 (i := 1) (bs' := (bm 11 531)) rfl (.inl rfl) rfl (e_ixa (off := 0) (T := 25) (cs := [.s 0, .s 1]) tk rfl rfl (by kernel_rfl) (by kernel_rfl)) (by kernel_rfl) rfl (by kernel_rfl) ?_
       refine SD.takes tk D_23 [] kn0 [2] [] [] (bm 11 535) [(2, vp 3 0), (4, vi .i64 (len f_1.Banks.1)), (5, vp 6 0), (6, vp 7 0), (32, vs 0), (34, vp 2 0)] rfl (by kernel_rfl) (by kernel_rfl) (by kernel_rfl) ?_
       exact SD.vie D_23 [.g 0, .g 1, .g 2, .g 3, .g 4, .g 5, .g 6, .g 7] c_23_9 (by kernel_rfl)
     refine SW.eff D_23 (i := 5) (bs' := (bm 11 561)) rfl (.inl rfl) rfl (e_ixa (off := 1) (T := 25) (cs := [.s 0, .s 1]) tk rfl rfl (by kernel_rfl) (by kernel_rfl)) (by kernel_rfl) rfl (by kernel_rfl) ?_
     refine SD.takes tk D_23 [] kn0 [6] [] [] (bm 11 625) [(2, vp 3 0), (4, vi .i64 (len f_1.Banks.1)), (5, vp 6 0), (6, vp 7 0), (30, vp 2 0), (36, vs 1)] rfl (by kernel_rfl) (by kernel_rfl) (by kernel_rfl) ?_
     exact SD.vie D_23 [.g 0, .g 1, .g 2, .g 3, .g 4, .g 5, .g 6, .g 7] c_23_11 (by kernel_rfl)
   refine SD.all3 (i := 1) (j := 5) (k := 9) (by kernel_rfl) ?_ ?_ ?_
   · refine SW.eff D_23 (i := 1) (bs' := (bm 11 19)) rfl (.inl rfl) rfl (e_ixa (off := 0) (T := 25) (cs := [.s 0, .s 1]) tk rfl rfl (by kernel_rfl) (by kernel_rfl)) (by kernel_rfl) rfl (by kernel_rfl) ?_
     refine SD.norm (itsN := [.rd 1 R8 f_1.Banks.1, .rd 1 R8 f_1.Banks.2, .blk 25 [.s 0, .s 1], .blk 40 [nl, nl, ci .i64 0, ci .i64 0, ci .i64 0, nl], .own 1 5 R8 x_4.Banks.1, .own 1 5 R8 x_4.Banks.2, .blk 40 [.s 4, .s 5, ci .i64 0, ci .i64 0, ci .i64 (len f_1.Banks.1), nl]]) (by kernel_rfl) ?_
     refine SD.takes tk D_23 [] kn0 [2] [] [] (bm 11 23) [(2, vp 3 0), (4, vi .i64 (len f_1.Banks.1)), (5, vp 6 0), (32, vs 0), (34, vp 2 0)] rfl (by kernel_rfl) (by kernel_rfl) (by kernel_rfl) ?_
     exact SD.vie D_23 [.g 0, .g 1, .g 2, .g 3, .g 4, .g 5, .g 6] c_23_10 (by kernel_rfl)
   · refine SW.eff D_23 (i := 5) (bs' := (bm 11 49)) rfl (.inl rfl) rfl (e_ixa (off := 1) (T := 25) (cs := [.s 0, .s 1]) tk rfl rfl (by kernel_rfl) (by kernel_rfl)) (by kernel_rfl) rfl (by kernel_rfl) ?_
     refine SD.norm (itsN := [.rd 1 R8 f_1.Banks.1, .rd 1 R8 f_1.Banks.2, .blk 25 [.s 0, .s 1], .blk 40 [nl, nl, ci .i64 0, ci .i64 0, ci .i64 0, nl], .own 1 5 R8 x_4.Banks.1, .own 1 5 R8 x_4.Banks.2, .blk 40 [.s 4, .s 5, ci .i64 0, ci .i64 0, ci .i64 (len f_1.Banks.1), nl]]) (by kernel_rfl) ?_
     refine SD.takes tk D_23 [] kn0 [6] [] [] (bm 11 113) [(2, vp 3 0), (4, vi .i64 (len f_1.Banks.1)), (5, vp 6 0), (30, vp 2 0), (36, vs 1)] rfl (by kernel_rfl) (by kernel_rfl) (by kernel_rfl) ?_
     exact SD.vie D_23 [.g 0, .g 1, .g 2, .g 3, .g 4, .g 5, .g 6] c_23_12 (by kernel_rfl)
   refine SW.eff D_23 (i := 9) (bs' := (bm 11 529)) rfl (.inl rfl) rfl (e_alloc (E := 64) tk [ci .i64 0, ci .i64 0] (by kernel_rfl)) (by kernel_rfl) rfl (by kernel_rfl) ?_
   refine SD.norm (itsN := [.rd 1 R8 f_1.Banks.1, .rd 1 R8 f_1.Banks.2, .blk 25 [.s 0, .s 1], .blk 40 [nl, nl, ci .i64 0, ci .i64 0, ci .i64 0, nl], .own 1 5 R8 x_4.Banks.1, .own 1 5 R8 x_4.Banks.2, .blk 40 [.s 4, .s 5, ci .i64 0, ci .i64 0, ci .i64 (len f_1.Banks.1), nl], .blk 64 [ci .i64 0, ci .i64 0]]) (by kernel_rfl) ?_
   exact SD.vie D_23 [.g 0, .g 1, .g 2, .g 3, .g 4, .g 5, .g 6, .g 7] c_23_13 (by kernel_rfl)
 rintro a w ⟨x_5, x_6, hp, h⟩
 refine h.go ?_
 refine SC.cut (fun a w => ∃ (x_7 : Int), flash_Mount_j2 F f_1 x_4 x_5 x_6 x_7 = some r ∧ A 84 2 fx [(2, vp 2 0), (4, vi .i64 (len f_1.Banks.1)), (5, vp 3 0), (6, vp 6 0)] [.gone, .gone, .blk 40 [nl, nl, ci .i64 0, ci .i64 0, ci .i64 0, nl], .blk 40 [.s 4, .s 5, ci .i64 x_7, ci .i64 0, ci .i64 (len f_1.Banks.1), nl], .own 1 5 R8 x_4.Banks.1, .own 1 5 R8 x_4.Banks.2, .blk 64 [ci .i64 x_5, ci .i64 x_6]] a w) ?_ ?_
 · refine SC.seq ?_
   refine SC.reg ?_
   refine SL.eff (e_ixa (off := 1) (T := 64) (cs := [ci .i64 x_5, ci .i64 x_6]) tk rfl rfl (by kernel_rfl) (by kernel_rfl)) rfl (by kernel_rfl) ?_
   refine SL.sim tk 1 [(2, vp 2 0), (4, vi .i64 (len f_1.Banks.1)), (5, vp 3 0), (6, vp 6 0), (40, vi .i64 x_6)] [] [] [] (by kernel_rfl) ?_
   refine SL.eff (e_ixa (off := 0) (T := 64) (cs := [ci .i64 x_5, ci .i64 x_6]) tk rfl rfl (by kernel_rfl) (by kernel_rfl)) rfl (by kernel_rfl) ?_
   refine SL.sim tk 2 [(2, vp 2 0), (4, vi .i64 (len f_1.Banks.1)), (5, vp 3 0), (6, vp 6 0), (43, vb (decide (x_6 > x_5)))] [] [] [] (by kernel_rfl) ?_
   refine SL.nilThen ?_
   refine SC.if' rfl hp (fun hp => ?_) (fun hp => ?_)
   · refine SC.reg ?_
     refine SL.sim tk 2 [(2, vp 2 0), (4, vi .i64 (len f_1.Banks.1)), (5, vp 3 0), (6, vp 6 0)] [(3, 40, [.s 4, .s 5, ci .i64 1, ci .i64 0, ci .i64 (len f_1.Banks.1), nl])] [] [] (by kernel_rfl) ?_
     refine SL.nilJ fun a w h => ?_
     exact ⟨1, hp, h.at (js := [.g 0, .g 1, .g 2, .g 3, .g 4, .g 5, .g 6]) (by kernel_rfl)⟩
   refine SC.skipJ fun a w h => ?_
   exact ⟨0, hp, h.at (js := [.g 0, .g 1, .g 2, .g 3, .g 4, .g 5, .g 6]) (by kernel_rfl)⟩
 rintro a w ⟨x_7, hp, h⟩
 refine h.go ?_
 refine SC.cut (fun a w => flash_Mount_j3 F f_1 x_4 x_5 x_6 x_7 = some r ∧ A 84 2 fx [(2, vp 2 0), (4, vi .i64 (len f_1.Banks.1)), (5, vp 3 0), (6, vp 6 0)] [.gone, .gone, .blk 40 [nl, nl, ci .i64 0, ci .i64 0, ci .i64 0, nl], .blk 40 [.s 4, .s 5, ci .i64 x_7, ci .i64 0, ci .i64 (len f_1.Banks.1), nl], .own 1 5 R8 x_4.Banks.1, .own 1 5 R8 x_4.Banks.2, .blk 64 [ci .i64 x_5, ci .i64 x_6]] a w) ?_ ?_
 · refine SC.seq ?_
   refine SC.reg ?_
   refine SL.sim tk 2 [(2, vp 2 0), (4, vi .i64 (len f_1.Banks.1)), (5, vp 3 0), (6, vp 6 0), (46, vi .i64 x_7)] [] [] [] (by kernel_rfl) ?_
   rcases Bool.eq_false_or_eq_true (x_7 == 0) with he_20 | he_20
   · replace hp := if_t hp he_20
     refine SL.eff (e_ixn (n := 0) (off := 0) (T := 64) (cs := [ci .i64 x_5, ci .i64 x_6]) tk (eq_of_beq he_20) rfl rfl (by kernel_rfl) (by kernel_rfl)) rfl (by kernel_rfl) ?_
     refine SL.sim tk 2 [(2, vp 2 0), (4, vi .i64 (len f_1.Banks.1)), (5, vp 3 0), (6, vp 6 0), (49, vb (decide (x_5 < 0)))] [] [] [] (by kernel_rfl) ?_
     refine SL.nilThen ?_
     refine SC.if' rfl hp (fun hp => ?_) (fun hp => ?_)
     · refine SC.r tk [(2, vp 2 0), (3, vi .i64 0)] [(2, 40, [.s 4, .s 5, ci .i64 x_7, ci .i64 0, ci .i64 (len f_1.Banks.1), nl])] [] [] (by kernel_rfl) ?_
       obtain rfl := some_inv' hp
       exact SC.re (js := [.g 0, .g 1, .z 4, .z 5, .n]) tk (by kernel_rfl)
     refine SC.skipJ fun a w h => ?_
     exact ⟨hp, h.at (js := [.g 0, .g 1, .g 2, .g 3, .g 4, .g 5, .g 6]) (by kernel_rfl)⟩
   replace hp := if_f hp he_20
   rcases Bool.eq_false_or_eq_true (x_7 == 1) with he_21 | he_21
   · replace hp := if_t hp he_21
     refine SL.eff (e_ixn (n := 1) (off := 1) (T := 64) (cs := [ci .i64 x_5, ci .i64 x_6]) tk (eq_of_beq he_21) rfl rfl (by kernel_rfl) (by kernel_rfl)) rfl (by kernel_rfl) ?_
     refine SL.sim tk 2 [(2, vp 2 0), (4, vi .i64 (len f_1.Banks.1)), (5, vp 3 0), (6, vp 6 0), (49, vb (decide (x_6 < 0)))] [] [] [] (by kernel_rfl) ?_
     refine SL.nilThen ?_
     refine SC.if' rfl hp (fun hp => ?_) (fun hp => ?_)
     · refine SC.r tk [(2, vp 2 0), (3, vi .i64 0)] [(2, 40, [.s 4, .s 5, ci .i64 x_7, ci .i64 0, ci .i64 (len f_1.Banks.1), nl])] [] [] (by kernel_rfl) ?_
       obtain rfl := some_inv' hp
       exact SC.re (js := [.g 0, .g 1, .z 4, .z 5, .n]) tk (by kernel_rfl)
     refine SC.skipJ fun a w h => ?_
     exact ⟨hp, h.at (js := [.g 0, .g 1, .g 2, .g 3, .g 4, .g 5, .g 6]) (by kernel_rfl)⟩
   replace hp := if_f hp he_21
   cases hp
 rintro a w ⟨hp, h⟩
 refine h.go ?_
 refine SC.seq ?_
 refine SC.reg ?_
 refine SL.sim tk 2 [(2, vp 2 0), (4, vi .i64 (len f_1.Banks.1)), (5, vp 3 0), (6, vp 6 0), (52, vi .i64 x_7)] [] [] [] (by kernel_rfl) ?_
 rcases Bool.eq_false_or_eq_true (x_7 == 0) with he_8 | he_8
 · replace hp := if_t hp he_8
   refine SL.eff (e_ixn (n := 0) (off := 0) (T := 64) (cs := [ci .i64 x_5, ci .i64 x_6]) tk (eq_of_beq he_8) rfl rfl (by kernel_rfl) (by kernel_rfl)) rfl (by kernel_rfl) ?_
   refine SL.sim tk 3 [(2, vp 2 0), (4, vi .i64 (len f_1.Banks.1)), (5, vp 3 0)] [(3, 40, [.s 4, .s 5, ci .i64 x_7, ci .i64 x_5, ci .i64 (len f_1.Banks.1), nl])] [] [] (by kernel_rfl) ?_
   refine SL.nilThen ?_
   refine SC.seq ?_
   refine SC.reg ?_
   refine SL.sim tk 4 [(2, vp 2 0), (4, vi .i64 (len f_1.Banks.1)), (5, vp 3 0), (57, vi .i64 x_7), (59, vp 3 0)] [] [] [] (by kernel_rfl) ?_
   refine SL.eff (e_ixn (n := 0) (off := 0) (T := 40) (cs := [.s 4, .s 5, ci .i64 x_7, ci .i64 x_5, ci .i64 (len f_1.Banks.1), nl]) tk (eq_of_beq he_8) rfl rfl (by kernel_rfl) (by kernel_rfl)) rfl (by kernel_rfl) ?_
   refine SL.sim tk 2 [(2, vp 2 0), (4, vi .i64 (len f_1.Banks.1)), (5, vp 3 0), (7, vs 4)] [] [] [] (by kernel_rfl) ?_
   refine SL.nilThen ?_
   refine SC.seq ?_
   refine SC.reg ?_
   refine SL.sim tk 1 [(2, vp 2 0), (4, vi .i64 (len f_1.Banks.1)), (5, vp 3 0), (7, vs 4), (63, vs 4)] [] [] [] (by kernel_rfl) ?_
   obtain ⟨x_9, e_x_9, hp⟩ := bind_inv hp
   refine SL.pre (pre_frz (i := 4) (sz := 1) (E := 5) (R := R8) (l := x_4.Banks.1) (by kernel_rfl)) ?_
   refine SL.eff (e_c Tryd.call35 (ok_flash_contents F x_4.Banks.1 _ e_x_9) [.g 4] [vs 4] (.u [.inl (.s 7), .inl (ci .i64 x_9.2)]) (by kernel_rfl) (.inl rfl)) rfl (by kernel_rfl) ?_
   refine SL.norm (itsN := [.gone, .gone, .blk 40 [nl, nl, ci .i64 0, ci .i64 0, ci .i64 0, nl], .blk 40 [.s 4, .s 5, ci .i64 x_7, ci .i64 x_5, ci .i64 (len f_1.Banks.1), nl], .rd 1 R8 x_4.Banks.1, .own 1 5 R8 x_4.Banks.2, .blk 64 [ci .i64 x_5, ci .i64 x_6], .own 2 71 R_T_api_Item x_9.1]) (by kernel_rfl) ?_
   refine SL.sim tk 7 [(2, vp 2 0), (4, vi .i64 (len f_1.Banks.1)), (5, vp 3 0), (7, vs 4)] [(3, 40, [.s 4, .s 5, ci .i64 x_7, ci .i64 x_5, ci .i64 x_9.2, .s 7])] [] [] (by kernel_rfl) ?_
   refine SL.nilThen ?_
   refine SC.lab ?_
   refine SC.cut (fun a w => ∃ (x_10 : Int), flash_Mount_j4 F x_4 x_5 x_7 x_9 x_10 = some r ∧ A 84 2 fx [(2, vp 2 0), (5, vp 3 0)] [.gone, .gone, .blk 40 [nl, nl, ci .i64 0, ci .i64 0, ci .i64 0, nl], .blk 40 [.s 4, .s 5, ci .i64 x_7, ci .i64 x_5, ci .i64 x_10, .s 6], .rd 1 R8 x_4.Banks.1, .own 1 5 R8 x_4.Banks.2, .own 2 71 R_T_api_Item x_9.1] a w) ?_ ?_
   · refine SC.seq ?_
     refine SC.reg ?_
     refine SL.sim tk 3 [(2, vp 2 0), (4, vi .i64 (len f_1.Banks.1)), (5, vp 3 0), (69, vs 4), (71, vi .i64 x_9.2)] [] [] [] (by kernel_rfl) ?_
     obtain ⟨l_11, e_l_11, hp⟩ := bind_inv hp
     refine SL.eff (e_sub (sz := 1) (E := 5) (R := R8) (by_ := 1) (l := x_4.Banks.1) tk rfl (.inl ⟨4, rfl, (by kernel_rfl)⟩) rfl rfl e_l_11 (by kernel_rfl)) rfl (by kernel_rfl) ?_
     refine SL.sim tk 2 [(2, vp 2 0), (4, vi .i64 (len f_1.Banks.1)), (5, vp 3 0), (72, vs 8), (73, vi .i64 (len l_11)), (74, vi .i64 0)] [] [] [] (by kernel_rfl) ?_
     refine SL.nilThen ?_
     refine SC.block ?_
     obtain ⟨o1, hi1, ho1⟩ := bind_inv hp
     clear hp
     refine SC.loop (fun n a w => ∃ (x_12 : Int), iter (fun s => flash_Mount_l1 F f_1 x_9 l_11 s) n (x_12) = some o1 ∧ A 84 2 fx [(2, vp 2 0), (4, vi .i64 (len f_1.Banks.1)), (5, vp 3 0), (72, vs 7), (73, vi .i64 (len l_11)), (74, vi .i64 x_12)] [.gone, .gone, .blk 40 [nl, nl, ci .i64 0, ci .i64 0, ci .i64 0, nl], .blk 40 [.s 4, .s 5, ci .i64 x_7, ci .i64 x_5, ci .i64 x_9.2, .s 6], .rd 1 R8 x_4.Banks.1, .own 1 5 R8 x_4.Banks.2, .own 2 71 R_T_api_Item x_9.1, .rd 1 R8 l_11] a w) F (fun a w h => ⟨0, hi1, h.at (js := [.g 0, .g 1, .g 2, .g 3, .g 4, .g 5, .g 7, .g 8]) (by kernel_rfl)⟩) ?_
     rintro n1 a w ⟨x_12, hi1, h⟩
     obtain ⟨n1, q1, rfl, hp, hs1⟩ := iter_inv hi1
     replace hp : flash_Mount_l1 F f_1 x_9 l_11 x_12 = some q1 := hp
     clear hi1
     refine h.go ?_
     refine SC.r tk [(2, vp 2 0), (4, vi .i64 (len f_1.Banks.1)), (5, vp 3 0), (72, vs 7), (73, vi .i64 (len l_11)), (74, vi .i64 x_12), (75, vb (decide (x_12 < (len l_11))))] [] [] [] (by kernel_rfl) ?_
     refine SC.seq ?_
     refine SC.if' rfl hp (fun hp => ?_) (fun hp => ?_)
     · refine SC.skipThen ?_
       refine SC.seq ?_
       refine SC.block ?_
       obtain ⟨x_13, e_x_13, hp⟩ := bind_inv hp
       refine SC.pre (pre_ix (i := 7) (iv := x_12) (sz := 1) (R := R8) (l := l_11) (by kernel_rfl) rfl e_x_13) ?_
       refine SC.r tk [(2, vp 2 0), (4, vi .i64 (len f_1.Banks.1)), (5, vp 3 0), (9, vi .u8 x_13), (72, vs 7), (73, vi .i64 (len l_11)), (74, vi .i64 x_12)] [] [.el 8] [x_12] (by kernel_rfl) ?_
       refine SC.r tk [(2, vp 2 0), (4, vi .i64 (len f_1.Banks.1)), (5, vp 3 0), (72, vs 7), (73, vi .i64 (len l_11)), (74, vi .i64 x_12), (79, vb (x_13 != 255))] [] [] [] (by kernel_rfl) ?_
       refine SC.if' rfl hp (fun hp => ?_) (fun hp => ?_)
       · refine SC.r tk [(2, vp 2 0), (5, vp 3 0)] [(3, 40, [.s 4, .s 5, ci .i64 x_7, ci .i64 x_5, ci .i64 (len f_1.Banks.1), .s 6])] [] [] (by kernel_rfl) ?_
         refine SC.exitJ rfl fun a w h => ?_
         have ho := done_inv hp hs1
         replace hp := ho1
         try rw [ho] at hp
         exact ⟨len f_1.Banks.1, hp, h.at (js := [.g 0, .g 1, .g 2, .g 3, .g 4, .g 5, .g 6]) (by kernel_rfl)⟩
       refine SC.skipThen ?_
       refine SC.reg ?_
       refine SL.sim tk 2 [(2, vp 2 0), (4, vi .i64 (len f_1.Banks.1)), (5, vp 3 0), (72, vs 7), (73, vi .i64 (len l_11)), (74, vi .i64 (w64 (x_12 + 1)))] [] [] [] (by kernel_rfl) ?_
       refine SL.nilJ fun a w h => ?_
       exact ⟨n1, Nat.lt_succ_self _, w64 (x_12 + 1), next_inv hp hs1, h.at (js := [.g 0, .g 1, .g 2, .g 3, .g 4, .g 5, .g 6, .g 7]) (by kernel_rfl)⟩
     refine SC.exitJ rfl fun a w h => ?_
     have ho := done_inv hp hs1
     replace hp := ho1
     try rw [ho] at hp
     exact ⟨x_9.2, hp, h.at (js := [.g 0, .g 1, .g 2, .g 3, .g 4, .g 5, .g 6]) (by kernel_rfl)⟩
   rintro a w ⟨x_10, hp, h⟩
   refine h.go ?_
   refine SC.r tk [(2, vp 2 0), (3, vi .i64 0)] [(2, 40, [.s 4, .s 5, ci .i64 x_7, ci .i64 x_5, ci .i64 x_10, .s 6])] [] [] (by kernel_rfl) ?_
   obtain rfl := some_inv' hp
   exact SC.re (js := [.g 0, .g 1, .g 4, .z 5, .z 6]) tk (by kernel_rfl)
 replace hp := if_f hp he_8
 rcases Bool.eq_false_or_eq_true (x_7 == 1) with he_14 | he_14
 · replace hp := if_t hp he_14
   refine SL.eff (e_ixn (n := 1) (off := 1) (T := 64) (cs := [ci .i64 x_5, ci .i64 x_6]) tk (eq_of_beq he_14) rfl rfl (by kernel_rfl) (by kernel_rfl)) rfl (by kernel_rfl) ?_
   refine SL.sim tk 3 [(2, vp 2 0), (4, vi .i64 (len f_1.Banks.1)), (5, vp 3 0)] [(3, 40, [.s 4, .s 5, ci .i64 x_7, ci .i64 x_6, ci .i64 (len f_1.Banks.1), nl])] [] [] (by kernel_rfl) ?_
   refine SL.nilThen ?_
   refine SC.seq ?_
   refine SC.reg ?_
   refine SL.sim tk 4 [(2, vp 2 0), (4, vi .i64 (len f_1.Banks.1)), (5, vp 3 0), (57, vi .i64 x_7), (59, vp 3 0)] [] [] [] (by kernel_rfl) ?_
   refine SL.eff (e_ixn (n := 1) (off := 1) (T := 40) (cs := [.s 4, .s 5, ci .i64 x_7, ci .i64 x_6, ci .i64 (len f_1.Banks.1), nl]) tk (eq_of_beq he_14) rfl rfl (by kernel_rfl) (by kernel_rfl)) rfl (by kernel_rfl) ?_
   refine SL.sim tk 2 [(2, vp 2 0), (4, vi .i64 (len f_1.Banks.1)), (5, vp 3 0), (7, vs 5)] [] [] [] (by kernel_rfl) ?_
   refine SL.nilThen ?_
   refine SC.seq ?_
   refine SC.reg ?_
   refine SL.sim tk 1 [(2, vp 2 0), (4, vi .i64 (len f_1.Banks.1)), (5, vp 3 0), (7, vs 5), (63, vs 5)] [] [] [] (by kernel_rfl) ?_
   obtain ⟨x_15, e_x_15, hp⟩ := bind_inv hp
   refine SL.pre (pre_frz (i := 5) (sz := 1) (E := 5) (R := R8) (l := x_4.Banks.2) (by kernel_rfl)) ?_
   refine SL.eff (e_c Tryd.call35 (ok_flash_contents F x_4.Banks.2 _ e_x_15) [.g 5] [vs 5] (.u [.inl (.s 7), .inl (ci .i64 x_15.2)]) (by kernel_rfl) (.inl rfl)) rfl (by kernel_rfl) ?_
   refine SL.norm (itsN := [.gone, .gone, .blk 40 [nl, nl, ci .i64 0, ci .i64 0, ci .i64 0, nl], .blk 40 [.s 4, .s 5, ci .i64 x_7, ci .i64 x_6, ci .i64 (len f_1.Banks.1), nl], .own 1 5 R8 x_4.Banks.1, .rd 1 R8 x_4.Banks.2, .blk 64 [ci .i64 x_5, ci .i64 x_6], .own 2 71 R_T_api_Item x_15.1]) (by kernel_rfl) ?_
   refine SL.sim tk 7 [(2, vp 2 0), (4, vi .i64 (len f_1.Banks.1)), (5, vp 3 0), (7, vs 5)] [(3, 40, [.s 4, .s 5, ci .i64 x_7, ci .i64 x_6, ci .i64 x_15.2, .s 7])] [] [] (by kernel_rfl) ?_
   refine SL.nilThen ?_
   refine SC.lab ?_
   refine SC.cut (fun a w => ∃ (x_16 : Int), flash_Mount_j5 F x_4 x_6 x_7 x_15 x_16 = some r ∧ A 84 2 fx [(2, vp 2 0), (5, vp 3 0)] [.gone, .gone, .blk 40 [nl, nl, ci .i64 0, ci .i64 0, ci .i64 0, nl], .blk 40 [.s 4, .s 5, ci .i64 x_7, ci .i64 x_6, ci .i64 x_16, .s 6], .own 1 5 R8 x_4.Banks.1, .rd 1 R8 x_4.Banks.2, .own 2 71 R_T_api_Item x_15.1] a w) ?_ ?_
   · refine SC.seq ?_
     refine SC.reg ?_
     refine SL.sim tk 3 [(2, vp 2 0), (4, vi .i64 (len f_1.Banks.1)), (5, vp 3 0), (69, vs 5), (71, vi .i64 x_15.2)] [] [] [] (by kernel_rfl) ?_
     obtain ⟨l_17, e_l_17, hp⟩ := bind_inv hp
     refine SL.eff (e_sub (sz := 1) (E := 5) (R := R8) (by_ := 1) (l := x_4.Banks.2) tk rfl (.inl ⟨5, rfl, (by kernel_rfl)⟩) rfl rfl e_l_17 (by kernel_rfl)) rfl (by kernel_rfl) ?_
     refine SL.sim tk 2 [(2, vp 2 0), (4, vi .i64 (len f_1.Banks.1)), (5, vp 3 0), (72, vs 8), (73, vi .i64 (len l_17)), (74, vi .i64 0)] [] [] [] (by kernel_rfl) ?_
     refine SL.nilThen ?_
     refine SC.block ?_
     obtain ⟨o2, hi2, ho2⟩ := bind_inv hp
     clear hp
     refine SC.loop (fun n a w => ∃ (x_18 : Int), iter (fun s => flash_Mount_l2 F f_1 x_15 l_17 s) n (x_18) = some o2 ∧ A 84 2 fx [(2, vp 2 0), (4, vi .i64 (len f_1.Banks.1)), (5, vp 3 0), (72, vs 7), (73, vi .i64 (len l_17)), (74, vi .i64 x_18)] [.gone, .gone, .blk 40 [nl, nl, ci .i64 0, ci .i64 0, ci .i64 0, nl], .blk 40 [.s 4, .s 5, ci .i64 x_7, ci .i64 x_6, ci .i64 x_15.2, .s 6], .own 1 5 R8 x_4.Banks.1, .rd 1 R8 x_4.Banks.2, .own 2 71 R_T_api_Item x_15.1, .rd 1 R8 l_17] a w) F (fun a w h => ⟨0, hi2, h.at (js := [.g 0, .g 1, .g 2, .g 3, .g 4, .g 5, .g 7, .g 8]) (by kernel_rfl)⟩) ?_
     rintro n2 a w ⟨x_18, hi2, h⟩
     obtain ⟨n2, q2, rfl, hp, hs2⟩ := iter_inv hi2
     replace hp : flash_Mount_l2 F f_1 x_15 l_17 x_18 = some q2 := hp
     clear hi2
     refine h.go ?_
     refine SC.r tk [(2, vp 2 0), (4, vi .i64 (len f_1.Banks.1)), (5, vp 3 0), (72, vs 7), (73, vi .i64 (len l_17)), (74, vi .i64 x_18), (75, vb (decide (x_18 < (len l_17))))] [] [] [] (by kernel_rfl) ?_
     refine SC.seq ?_
     refine SC.if' rfl hp (fun hp => ?_) (fun hp => ?_)
     · refine SC.skipThen ?_
       refine SC.seq ?_
       refine SC.block ?_
       obtain ⟨x_19, e_x_19, hp⟩ := bind_inv hp
       refine SC.pre (pre_ix (i := 7) (iv := x_18) (sz := 1) (R := R8) (l := l_17) (by kernel_rfl) rfl e_x_19) ?_
       refine SC.r tk [(2, vp 2 0), (4, vi .i64 (len f_1.Banks.1)), (5, vp 3 0), (9, vi .u8 x_19), (72, vs 7), (73, vi .i64 (len l_17)), (74, vi .i64 x_18)] [] [.el 8] [x_18] (by kernel_rfl) ?_
       refine SC.r tk [(2, vp 2 0), (4, vi .i64 (len f_1.Banks.1)), (5, vp 3 0), (72, vs 7), (73, vi .i64 (len l_17)), (74, vi .i64 x_18), (79, vb (x_19 != 255))] [] [] [] (by kernel_rfl) ?_
       refine SC.if' rfl hp (fun hp => ?_) (fun hp => ?_)
       · refine SC.r tk [(2, vp 2 0), (5, vp 3 0)] [(3, 40, [.s 4, .s 5, ci .i64 x_7, ci .i64 x_6, ci .i64 (len f_1.Banks.1), .s 6])] [] [] (by kernel_rfl) ?_
         refine SC.exitJ rfl fun a w h => ?_
         have ho := done_inv hp hs2
         replace hp := ho2
         try rw [ho] at hp
         exact ⟨len f_1.Banks.1, hp, h.at (js := [.g 0, .g 1, .g 2, .g 3, .g 4, .g 5, .g 6]) (by kernel_rfl)⟩
       refine SC.skipThen ?_
       refine SC.reg ?_
       refine SL.sim tk 2 [(2, vp 2 0), (4, vi .i64 (len f_1.Banks.1)), (5, vp 3 0), (72, vs 7), (73, vi .i64 (len l_17)), (74, vi .i64 (w64 (x_18 + 1)))] [] [] [] (by kernel_rfl) ?_
       refine SL.nilJ fun a w h => ?_
       exact ⟨n2, Nat.lt_succ_self _, w64 (x_18 + 1), next_inv hp hs2, h.at (js := [.g 0, .g 1, .g 2, .g 3, .g 4, .g 5, .g 6, .g 7]) (by kernel_rfl)⟩
     refine SC.exitJ rfl fun a w h => ?_
     have ho := done_inv hp hs2
     replace hp := ho2
     try rw [ho] at hp
     exact ⟨x_15.2, hp, h.at (js := [.g 0, .g 1, .g 2, .g 3, .g 4, .g 5, .g 6]) (by kernel_rfl)⟩
   rintro a w ⟨x_16, hp, h⟩
   refine h.go ?_
   refine SC.r tk [(2, vp 2 0), (3, vi .i64 0)] [(2, 40, [.s 4, .s 5, ci .i64 x_7, ci .i64 x_6, ci .i64 x_16, .s 6])] [] [] (by kernel_rfl) ?_
   obtain rfl := some_inv' hp
   exact SC.re (js := [.g 0, .g 1, .z 4, .g 5, .z 6]) tk (by kernel_rfl)
 replace hp := if_f hp he_14
 cases hp

theorem ok_flash_Get (F : Nat) (s_1 : T_api_Store) (key_2 : Int) (r : (List Int) × Bool) (hp : flash_Get F s_1 key_2 = some r) : Spec Tryd.prog 19 [.g (C_api_Store s_1 (.s 0) (.s 1) (.s 2)), vi .u16 key_2] [.rd 1 R8 s_1.Flash.Banks.1, .rd 1 R8 s_1.Flash.Banks.2, .rd 2 R_T_api_Item s_1.Items] (.u [.inl (.s 3), .inl (cb r.2)]) [.gone, .gone, .gone, .rd 1 R8 r.1] := by
 refine Spec.enter Tryd.func19 rfl Tryd.ntmps19 rfl rfl fun fx => ?_
 refine SC.seq ?_
 refine SC.reg ?_
 refine SL.eff (e_box (E := 40) (C_api_Store s_1 (.s 0) (.s 1) (.s 2)) (by kernel_rfl)) rfl (by kernel_rfl) ?_
 refine SL.sim tk 2 [(1, vi .u16 key_2), (2, vp 3 0)] [] [] [] (by kernel_rfl) ?_
 refine SL.nilThen ?_
 refine SC.seq ?_
 refine SC.reg ?_
 refine SL.sim tk 3 [(2, vp 3 0), (10, vs 2), (11, vi .u16 key_2)] [] [] [] (by kernel_rfl) ?_
 obtain ⟨x_3, e_x_3, hp⟩ := bind_inv hp
 refine SL.eff (e_c Tryd.call38 (ok_flash_place F s_1.Items key_2 _ e_x_3) [.g 2] [vs 2, vi .u16 key_2] (.u [.inl (ci .i64 x_3.1), .inl (cb x_3.2)]) (by kernel_rfl) (.inl rfl)) rfl (by kernel_rfl) ?_
 refine SL.sim tk 5 [(2, vp 3 0), (6, vi .i64 x_3.1), (7, vb x_3.2)] [] [] [] (by kernel_rfl) ?_
 refine SL.nilThen ?_
 refine SC.seq ?_
 refine SC.r tk [(2, vp 3 0), (6, vi .i64 x_3.1), (16, vb (!x_3.2))] [] [] [] (by kernel_rfl) ?_
 refine SC.if' rfl hp (fun hp => ?_) (fun hp => ?_)
 · refine SC.r tk [(4, vn), (5, vb false)] [] [] [] (by kernel_rfl) ?_
   obtain rfl := some_inv' hp
   exact SC.re (js := [.g 0, .g 1, .g 2, .n]) tk (by kernel_rfl)
 refine SC.skipThen ?_
 refine SC.seq ?_
 refine SC.reg ?_
 obtain ⟨x_4, e_x_4, hp⟩ := bind_inv hp
 refine SL.pre (pre_ix (i := 2) (iv := x_3.1) (sz := 2) (R := R_T_api_Item) (l := s_1.Items) (by kernel_rfl) rfl e_x_4) ?_
 refine SL.sim tk 6 [(22, vs 5)] [] [.el 4] [x_3.1] (by kernel_rfl) ?_
 refine SL.eff (e_lit (sz := 1) (E := 22) (R := (RSl 1 R8)) (by_ := 24) tk [[.s 5]] [x_4.Value] (by kernel_rfl) ⟨(Clo.sl (by kernel_rfl)), trivial⟩ rfl (by kernel_rfl) (by kernel_rfl)) rfl (by kernel_rfl) ?_
 refine SL.norm (itsN := [.rd 1 R8 s_1.Flash.Banks.1, .rd 1 R8 s_1.Flash.Banks.2, .rd 2 R_T_api_Item s_1.Items, .blk 40 (C_api_Store s_1 (.s 0) (.s 1) (.s 2)), .elt (some (2, x_3.1)) false [ci .u16 x_4.Key, .s 5], .rd 1 R8 x_4.Value, .own 1 22 (RSl 1 R8) [x_4.Value]]) (by kernel_rfl) ?_
 obtain ⟨x_5, e_x_5, hp⟩ := bind_inv hp
 refine SL.eff (e_c Tryd.call39 (ok_octets_Join F [x_4.Value] _ e_x_5) [.l 6] [vs 6] (vs 7) (by kernel_rfl) (.inr ⟨trivial, ⟨Fl.int, trivial⟩, trivial⟩)) rfl (by kernel_rfl) ?_
 refine SL.sim tk 2 [(4, vs 7), (5, vb true)] [] [] [] (by kernel_rfl) ?_
 refine SL.nilThen ?_
 obtain rfl := some_inv' hp
 exact SC.re (js := [.g 0, .g 1, .g 2, .z 7]) tk (by kernel_rfl)

theorem ok_flash_size (F : Nat) (s_1 : T_api_Store) (r : Int) (hp : flash_size F s_1 = some r) : Spec Tryd.prog 40 [.g (C_api_Store s_1 (.s 0) (.s 1) (.s 2))] [.rd 1 R8 s_1.Flash.Banks.1, .rd 1 R8 s_1.Flash.Banks.2, .rd 2 R_T_api_Item s_1.Items] (vi .i64 r) [.gone, .gone, .gone] := by
 refine Spec.enter Tryd.func40 rfl Tryd.ntmps40 rfl rfl fun fx => ?_
 refine SC.seq ?_
 refine SC.reg ?_
 refine SL.eff (e_box (E := 40) (C_api_Store s_1 (.s 0) (.s 1) (.s 2)) (by kernel_rfl)) rfl (by kernel_rfl) ?_
 refine SL.sim tk 1 [(1, vp 3 0)] [] [] [] (by kernel_rfl) ?_
 refine SL.nilThen ?_
 refine SC.seq ?_
 refine SC.reg ?_
 refine SL.sim tk 2 [(4, vp 3 0)] [] [] [] (by kernel_rfl) ?_
 refine SL.eff (e_ixa (off := 0) (T := 40) (cs := (C_api_Store s_1 (.s 0) (.s 1) (.s 2))) tk rfl rfl (by kernel_rfl) (by kernel_rfl)) rfl (by kernel_rfl) ?_
 refine SL.sim tk 3 [(2, vi .i64 (len s_1.Flash.Banks.1))] [] [] [] (by kernel_rfl) ?_
 refine SL.nilThen ?_
 obtain rfl := some_inv' hp
 exact SC.re (js := [.g 0, .g 1, .g 2]) tk (by kernel_rfl)

theorem ok_flash_Free (F : Nat) (s_1 : T_api_Store) (r : Int) (hp : flash_Free F s_1 = some r) : Spec Tryd.prog 21 [.g (C_api_Store s_1 (.s 0) (.s 1) (.s 2))] [.rd 1 R8 s_1.Flash.Banks.1, .rd 1 R8 s_1.Flash.Banks.2, .rd 2 R_T_api_Item s_1.Items] (vi .i64 r) [.gone, .gone, .gone] := by
 refine Spec.enter Tryd.func21 rfl Tryd.ntmps21 rfl rfl fun fx => ?_
 refine SC.seq ?_
 refine SC.reg ?_
 refine SL.eff (e_box (E := 40) (C_api_Store s_1 (.s 0) (.s 1) (.s 2)) (by kernel_rfl)) rfl (by kernel_rfl) ?_
 refine SL.sim tk 1 [(1, vp 3 0)] [] [] [] (by kernel_rfl) ?_
 refine SL.nilThen ?_
 refine SC.cut (fun a w => ∃ (x_2 : Int), flash_Free_j1 F x_2 = some r ∧ A 8 3 fx [(2, vi .i64 x_2)] [.gone, .gone, .gone] a w) ?_ ?_
 · refine SC.draw MO [true, true, true, true] (by kernel_rfl) fun kap_3 D_4 => ?_
   refine SD.takes tk D_4 [] kn0 [0, 2, 3] [] [] [I, O, I, I, O, O] [(3, .g (C_api_Store s_1 (.s 0) (.s 1) (.s 2))), (6, vi .i64 s_1.End)] rfl (by kernel_rfl) (by kernel_rfl) (by kernel_rfl) ?_
   obtain ⟨x_5, e_x_5, hp⟩ := bind_inv hp
   refine SD.all1 (i := 1) (by kernel_rfl) ?_
   refine SW.eff D_4 (i := 1) (bs' := [I, I, I, I, O, O]) rfl (.inl rfl) rfl (e_c Tryd.call40 (ok_flash_size F s_1 _ e_x_5) [.g 0, .g 1, .g 2] [.g (C_api_Store s_1 (.s 0) (.s 1) (.s 2))] (vi .i64 x_5) (by kernel_rfl) (.inl rfl)) (by kernel_rfl) rfl (by kernel_rfl) ?_
   refine SD.takes tk D_4 [] kn0 [4, 5] [] [] [I, I, I, I, I, I] [(2, vi .i64 (w64 (x_5 - s_1.End)))] rfl (by kernel_rfl) (by kernel_rfl) (by kernel_rfl) ?_
   refine SD.done (by kernel_rfl) fun a w h => ?_
   exact ⟨w64 (x_5 - s_1.End), hp, h.at (js := [.g 0, .g 1, .g 2]) (by kernel_rfl)⟩
 rintro a w ⟨x_2, hp, h⟩
 refine h.go ?_
 obtain rfl := some_inv' hp
 exact SC.re (js := [.g 0, .g 1, .g 2]) tk (by kernel_rfl)

theorem ok_slices_Clone_api_Item_api_Item (F : Nat) (s_1 : (List T_api_Item)) (r : (List T_api_Item)) (hp : slices_Clone_api_Item_api_Item F s_1 = some r) : Spec Tryd.prog 44 [vs 0] [.rd 2 R_T_api_Item s_1] (vs 1) [.gone, .own 2 71 R_T_api_Item r] := by
 refine Spec.enter Tryd.func44 rfl Tryd.ntmps44 rfl rfl fun fx => ?_
 refine SC.r tk [(0, vs 0)] [] [] [] (by kernel_rfl) ?_
 refine SC.seq ?_
 refine SC.seq ?_
 refine SC.reg ?_
 refine SL.sim tk 1 [(0, vs 0), (3, vs 0)] [] [] [] (by kernel_rfl) ?_
 refine SL.eff (e_isnil tk rfl rfl rfl rfl (by kernel_rfl)) rfl (by kernel_rfl) ?_
 refine SL.nilThen ?_
 refine SC.nilFact 0 rfl rfl (by decide) (fun hnil => ?_)
 cases hq : nilAt fx 0
 · refine SC.iff rfl ?_
   refine SC.skipThen ?_
   refine SC.seq ?_
   refine SC.reg ?_
   refine SL.eff (e_lit (sz := 2) (E := 71) (R := R_T_api_Item) (by_ := 32) tk [] ([] : (List T_api_Item)) (by kernel_rfl) trivial rfl (by kernel_rfl) (by kernel_rfl)) rfl (by kernel_rfl) ?_
   refine SL.sim tk 1 [(5, vs 1), (6, vs 0)] [] [] [] (by kernel_rfl) ?_
   obtain ⟨l_2, e_l_2, hp⟩ := bind_inv hp
   refine SL.eff (e_app (i := 1) (l := ([] : (List T_api_Item))) (sz := 2) (E := 71) (R := R_T_api_Item) (by_ := 32) (m := s_1) tk rfl (by kernel_rfl) rfl (.r (by kernel_rfl)) e_l_2 (by kernel_rfl)) rfl (by kernel_rfl) ?_
   refine SL.sim tk 1 [(2, vs 2)] [] [] [] (by kernel_rfl) ?_
   refine SL.nilThen ?_
   obtain rfl := some_inv' hp
   exact SC.re (js := [.g 0, .g 2]) tk (by kernel_rfl)
 obtain rfl := hnil hq
 have hp : (some [] : Option ((List T_api_Item))) = some r := by rw [← hp]; first | rfl | simp [app]
 refine SC.ift rfl ?_
 refine SC.r tk [(2, vn)] [] [] [] (by kernel_rfl) ?_
 obtain rfl := some_inv' hp
 exact SC.re (js := [.g 0, .n]) tk (by kernel_rfl)

theorem ok_flash_Plan (F : Nat) (s_1 : T_api_Store) (key_2 : Int) (value_3 : (List Int)) (r : (List T_api_Write) × Int) (hp : flash_Plan F s_1 key_2 value_3 = some r) : Spec Tryd.prog 22 [.g (C_api_Store s_1 (.s 0) (.s 1) (.s 2)), vi .u16 key_2, vs 3] [.rd 1 R8 s_1.Flash.Banks.1, .rd 1 R8 s_1.Flash.Banks.2, .rd 2 R_T_api_Item s_1.Items, .rd 1 R8 value_3] (.u [.inl (.s 4), .inl (ci .i64 r.2)]) [.gone, .gone, .gone, .gone, .rd 4 R_T_api_Write r.1] := by
 refine Spec.enter Tryd.func22 rfl Tryd.ntmps22 rfl rfl fun fx => ?_
 refine SC.seq ?_
 refine SC.reg ?_
 refine SL.eff (e_box (E := 40) (C_api_Store s_1 (.s 0) (.s 1) (.s 2)) (by kernel_rfl)) rfl (by kernel_rfl) ?_
 refine SL.sim tk 2 [(1, vi .u16 key_2), (2, vs 3), (3, vp 4 0)] [] [] [] (by kernel_rfl) ?_
 refine SL.nilThen ?_
 refine SC.seq ?_
 refine SC.r tk [(1, vi .u16 key_2), (2, vs 3), (3, vp 4 0), (17, vb (decide ((len value_3) > 1024)))] [] [] [] (by kernel_rfl) ?_
 refine SC.if' rfl hp (fun hp => ?_) (fun hp => ?_)
 · refine SC.r tk [(6, vn), (7, vi .i64 4)] [] [] [] (by kernel_rfl) ?_
   obtain rfl := some_inv' hp
   exact SC.re (js := [.g 0, .g 1, .g 2, .g 3, .n]) tk (by kernel_rfl)
 refine SC.skipThen ?_
 refine SC.seq ?_
 refine SC.reg ?_
 refine SL.sim tk 2 [(1, vi .u16 key_2), (2, vs 3), (3, vp 4 0), (19, .g (C_api_Store s_1 (.s 0) (.s 1) (.s 2))), (20, vi .u16 key_2)] [] [] [] (by kernel_rfl) ?_
 obtain ⟨x_4, e_x_4, hp⟩ := bind_inv hp
 refine SL.eff (e_c Tryd.call19 (ok_flash_Get F s_1 key_2 _ e_x_4) [.g 0, .g 1, .g 2] [.g (C_api_Store s_1 (.s 0) (.s 1) (.s 2)), vi .u16 key_2] (.u [.inl (.s 5), .inl (cb x_4.2)]) (by kernel_rfl) (.inl rfl)) rfl (by kernel_rfl) ?_
 refine SL.sim tk 5 [(1, vi .u16 key_2), (2, vs 3), (3, vp 4 0), (8, vs 5), (9, vb x_4.2)] [] [] [] (by kernel_rfl) ?_
 refine SL.nilThen ?_
 refine SC.seq ?_
 refine SC.seq ?_
 refine SC.reg ?_
 refine SL.sim tk 6 [(1, vi .u16 key_2), (2, vs 3), (3, vp 4 0), (8, vs 5), (29, vb (x_4.2 == (decide ((len value_3) > 0))))] [] [] [] (by kernel_rfl) ?_
 obtain ⟨z_6, hz, hpr⟩ := bind_inv hp
 clear hp
 refine SL.cutAt 4 (fun a w => A 95 4 fx [(1, vi .u16 key_2), (2, vs 3), (3, vp 4 0), (33, vb z_6)] [.rd 1 R8 s_1.Flash.Banks.1, .rd 1 R8 s_1.Flash.Banks.2, .rd 2 R_T_api_Item s_1.Items, .rd 1 R8 value_3, .blk 40 (C_api_Store s_1 (.s 0) (.s 1) (.s 2))] a w) ?_ ?_
 · have hp := hz
   rcases Bool.eq_false_or_eq_true ((x_4.2 == (decide ((len value_3) > 0)))) with hg_5 | hg_5
   · replace hp := if_t hp hg_5
     refine SL.yes rfl rfl hg_5 ?_
     refine SL.sim tk 1 [(1, vi .u16 key_2), (2, vs 3), (3, vp 4 0), (29, vb (x_4.2 == (decide ((len value_3) > 0)))), (30, vs 5)] [] [] [] (by kernel_rfl) ?_
     refine SL.yes rfl rfl hg_5 ?_
     refine SL.sim tk 1 [(1, vi .u16 key_2), (2, vs 3), (3, vp 4 0), (29, vb (x_4.2 == (decide ((len value_3) > 0)))), (30, vs 5), (31, vs 3)] [] [] [] (by kernel_rfl) ?_
     refine SL.yes rfl rfl hg_5 ?_
     obtain ⟨x_20, e_x_20, hp⟩ := bind_inv hp
     refine SL.eff (e_c Tryd.call41 (ok_slices_Equal_byte_byte F x_4.1 value_3 _ e_x_20) [.g 5, .g 3] [vs 5, vs 3] (vb x_20) (by kernel_rfl) (.inl rfl)) rfl (by kernel_rfl) ?_
     refine SL.norm (itsN := [.rd 1 R8 s_1.Flash.Banks.1, .rd 1 R8 s_1.Flash.Banks.2, .rd 2 R_T_api_Item s_1.Items, .rd 1 R8 value_3, .blk 40 (C_api_Store s_1 (.s 0) (.s 1) (.s 2)), .rd 1 R8 x_4.1]) (by kernel_rfl) ?_
     refine SL.pickt rfl hg_5 rfl rfl ?_
     refine SL.nilJ fun a w h => ?_
     obtain rfl := some_inv' hp
     exact h.at (js := [.g 0, .g 1, .g 2, .g 3, .g 4]) (by kernel_rfl)
   replace hp := if_f hp hg_5
   refine SL.no rfl rfl hg_5 rfl ?_
   refine SL.no rfl rfl hg_5 rfl ?_
   refine SL.no rfl rfl hg_5 rfl ?_
   refine SL.pickf rfl hg_5 rfl rfl ?_
   refine SL.nilJ fun a w h => ?_
   obtain rfl := some_inv' hp
   exact h.at (js := [.g 0, .g 1, .g 2, .g 3, .g 4]) (by kernel_rfl)
 intro a w h
 have hp := hpr; clear hpr hz
 refine h.goL ?_
 refine SL.nilThen ?_
 refine SC.if' rfl hp (fun hp => ?_) (fun hp => ?_)
 · refine SC.r tk [(6, vn), (7, vi .i64 0)] [] [] [] (by kernel_rfl) ?_
   obtain rfl := some_inv' hp
   exact SC.re (js := [.g 0, .g 1, .g 2, .g 3, .n]) tk (by kernel_rfl)
 refine SC.skipThen ?_
 refine SC.seq ?_
 refine SC.reg ?_
 refine SL.sim tk 2 [(1, vi .u16 key_2), (2, vs 3), (3, vp 4 0), (34, vi .u16 key_2), (35, vs 3)] [] [] [] (by kernel_rfl) ?_
 obtain ⟨x_7, e_x_7, hp⟩ := bind_inv hp
 refine SL.eff (e_c Tryd.call42 (ok_flash_record F key_2 value_3 _ e_x_7) [.g 3] [vi .u16 key_2, vs 3] (vs 5) (by kernel_rfl) (.inl rfl)) rfl (by kernel_rfl) ?_
 refine SL.sim tk 1 [(1, vi .u16 key_2), (2, vs 3), (3, vp 4 0), (10, vs 5)] [] [] [] (by kernel_rfl) ?_
 refine SL.nilThen ?_
 refine SC.seq ?_
 refine SC.seq ?_
 refine SC.reg ?_
 refine SL.sim tk 3 [(1, vi .u16 key_2), (2, vs 3), (3, vp 4 0), (10, vs 5), (38, vi .i64 (len x_7)), (39, .g (C_api_Store s_1 (.s 0) (.s 1) (.s 2)))] [] [] [] (by kernel_rfl) ?_
 obtain ⟨x_8, e_x_8, hp⟩ := bind_inv hp
 refine SL.eff (e_c Tryd.call21 (ok_flash_Free F s_1 _ e_x_8) [.g 0, .g 1, .g 2] [.g (C_api_Store s_1 (.s 0) (.s 1) (.s 2))] (vi .i64 x_8) (by kernel_rfl) (.inl rfl)) rfl (by kernel_rfl) ?_
 refine SL.norm (itsN := [.rd 1 R8 s_1.Flash.Banks.1, .rd 1 R8 s_1.Flash.Banks.2, .rd 2 R_T_api_Item s_1.Items, .rd 1 R8 value_3, .blk 40 (C_api_Store s_1 (.s 0) (.s 1) (.s 2)), .rd 1 R8 x_7]) (by kernel_rfl) ?_
 refine SL.sim tk 1 [(1, vi .u16 key_2), (2, vs 3), (3, vp 4 0), (10, vs 5), (41, vb (decide ((len x_7) ≤ x_8)))] [] [] [] (by kernel_rfl) ?_
 refine SL.nilThen ?_
 refine SC.if' rfl hp (fun hp => ?_) (fun hp => ?_)
 · refine SC.seq ?_
   refine SC.reg ?_
   refine SL.sim tk 6 [(47, .g [ci .i64 s_1.Bank, cb false, ci .i64 s_1.End, .s 5])] [] [] [] (by kernel_rfl) ?_
   refine SL.eff (e_lit (sz := 4) (E := 27) (R := R_T_api_Write) (by_ := 48) tk [[ci .i64 s_1.Bank, cb false, ci .i64 s_1.End, .s 5]] [(T_api_Write.mk s_1.Bank false s_1.End x_7)] (by kernel_rfl) ⟨(clo_T_api_Write (x := (T_api_Write.mk s_1.Bank false s_1.End x_7)) (Clo.sl (by kernel_rfl))), trivial⟩ rfl (by kernel_rfl) (by kernel_rfl)) rfl (by kernel_rfl) ?_
   refine SL.sim tk 2 [(6, vs 6), (7, vi .i64 0)] [] [] [] (by kernel_rfl) ?_
   refine SL.nilThen ?_
   obtain rfl := some_inv' hp
   exact SC.re (js := [.g 0, .g 1, .g 2, .g 3, .z 6]) tk (by kernel_rfl)
 refine SC.skipThen ?_
 refine SC.r tk [(1, vi .u16 key_2), (2, vs 3), (3, vp 4 0), (11, vn)] [] [] [] (by kernel_rfl) ?_
 refine SC.cut (fun a w => ∃ (l_9 : (List Int)), flash_Plan_j1 F s_1 l_9 = some r ∧ A 95 4 fx [(3, vp 4 0), (11, vs 5)] [.rd 1 R8 s_1.Flash.Banks.1, .rd 1 R8 s_1.Flash.Banks.2, .rd 2 R_T_api_Item s_1.Items, .gone, .blk 40 (C_api_Store s_1 (.s 0) (.s 1) (.s 2)), .own 1 5 R8 l_9] a w) ?_ ?_
 · refine SC.seq ?_
   refine SC.reg ?_
   refine SL.sim tk 2 [(1, vi .u16 key_2), (2, vs 3), (3, vp 4 0), (11, vn), (50, vs 2)] [] [] [] (by kernel_rfl) ?_
   obtain ⟨x_12, e_x_12, hp⟩ := bind_inv hp
   refine SL.eff (e_c Tryd.call44 (ok_slices_Clone_api_Item_api_Item F s_1.Items _ e_x_12) [.g 2] [vs 2] (vs 6) (by kernel_rfl) (.inl rfl)) rfl (by kernel_rfl) ?_
   refine SL.sim tk 3 [(3, vp 4 0), (11, vn), (51, vs 6), (54, .g [ci .u16 key_2, .s 3])] [] [] [] (by kernel_rfl) ?_
   obtain ⟨x_13, e_x_13, hp⟩ := bind_inv hp
   refine SL.eff (e_c Tryd.call43 (ok_flash_set F x_12 (T_api_Item.mk key_2 value_3) _ e_x_13) [.g 6, .g 3] [vs 6, .g [ci .u16 key_2, .s 3]] (vs 7) (by kernel_rfl) (.inl rfl)) rfl (by kernel_rfl) ?_
   refine SL.norm (itsN := [.rd 1 R8 s_1.Flash.Banks.1, .rd 1 R8 s_1.Flash.Banks.2, .rd 2 R_T_api_Item s_1.Items, .rd 1 R8 value_3, .blk 40 (C_api_Store s_1 (.s 0) (.s 1) (.s 2)), .rd 1 R8 x_7, .gone, .own 2 71 R_T_api_Item x_13]) (by kernel_rfl) ?_
   refine SL.sim tk 2 [(3, vp 4 0), (11, vn), (55, vs 7), (56, vi .i64 (len x_13)), (57, vi .i64 0)] [] [] [] (by kernel_rfl) ?_
   refine SL.nilThen ?_
   refine SC.block ?_
   obtain ⟨o1, hi1, ho1⟩ := bind_inv hp
   clear hp
   refine SC.loop (fun n a w => ∃ (l_14 : (List Int)) (x_15 : Int), iter (fun s => flash_Plan_l1 F x_13 s.1 s.2) n (l_14, x_15) = some o1 ∧ A 95 4 fx [(3, vp 4 0), (11, vs 5), (55, vs 6), (56, vi .i64 (len x_13)), (57, vi .i64 x_15)] [.rd 1 R8 s_1.Flash.Banks.1, .rd 1 R8 s_1.Flash.Banks.2, .rd 2 R_T_api_Item s_1.Items, .gone, .blk 40 (C_api_Store s_1 (.s 0) (.s 1) (.s 2)), .own 1 5 R8 l_14, .own 2 71 R_T_api_Item x_13] a w) F (fun a w h => ⟨[], 0, hi1, h.at (js := [.g 0, .g 1, .g 2, .g 3, .g 4, .n, .g 7]) (by kernel_rfl)⟩) ?_
   rintro n1 a w ⟨l_14, x_15, hi1, h⟩
   obtain ⟨n1, q1, rfl, hp, hs1⟩ := iter_inv hi1
   replace hp : flash_Plan_l1 F x_13 l_14 x_15 = some q1 := hp
   clear hi1
   refine h.go ?_
   refine SC.r tk [(3, vp 4 0), (11, vs 5), (55, vs 6), (56, vi .i64 (len x_13)), (57, vi .i64 x_15), (58, vb (decide (x_15 < (len x_13))))] [] [] [] (by kernel_rfl) ?_
   refine SC.seq ?_
   refine SC.if' rfl hp (fun hp => ?_) (fun hp => ?_)
   · refine SC.skipThen ?_
     refine SC.seq ?_
     refine SC.block ?_
     refine SC.seq ?_
     refine SC.reg ?_
     obtain ⟨x_16, e_x_16, hp⟩ := bind_inv hp
     refine SL.pre (pre_ixo (i := 6) (iv := x_15) (sz := 2) (E := 71) (R := R_T_api_Item) (l := x_13) (by kernel_rfl) rfl e_x_16) ?_
     refine SL.sim tk 2 [(3, vp 4 0), (11, vs 5), (55, vs 6), (56, vi .i64 (len x_13)), (57, vi .i64 x_15), (60, .g [ci .u16 x_16.Key, .s 8])] [] [.el 7] [x_15] (by kernel_rfl) ?_
     refine SL.pre (pre_kill) ?_
     refine SL.eff (e_alloc (E := 71) tk [ci .u16 0, nl] (by kernel_rfl)) rfl (by kernel_rfl) ?_
     refine SL.sim tk 1 [(3, vp 4 0), (11, vs 5), (13, vp 9 0), (55, vs 6), (56, vi .i64 (len x_13)), (57, vi .i64 x_15)] [(9, 71, [ci .u16 x_16.Key, .s 8])] [] [] (by kernel_rfl) ?_
     refine SL.nilThen ?_
     refine SC.reg ?_
     refine SL.sim tk 5 [(3, vp 4 0), (11, vs 5), (55, vs 6), (56, vi .i64 (len x_13)), (57, vi .i64 x_15), (61, vs 5), (63, vi .u16 x_16.Key), (65, vs 8)] [] [] [] (by kernel_rfl) ?_
     obtain ⟨x_17, e_x_17, hp⟩ := bind_inv hp
     refine SL.eff (e_c Tryd.call42 (ok_flash_record F x_16.Key x_16.Value _ e_x_17) [.g 8] [vi .u16 x_16.Key, vs 8] (vs 10) (by kernel_rfl) (.inl rfl)) rfl (by kernel_rfl) ?_
     refine SL.norm (itsN := [.rd 1 R8 s_1.Flash.Banks.1, .rd 1 R8 s_1.Flash.Banks.2, .rd 2 R_T_api_Item s_1.Items, .gone, .blk 40 (C_api_Store s_1 (.s 0) (.s 1) (.s 2)), .own 1 5 R8 l_14, .own 2 71 R_T_api_Item x_13, .gone, .rd 1 R8 x_16.Value, .blk 71 [ci .u16 x_16.Key, .s 8], .rd 1 R8 x_17]) (by kernel_rfl) ?_
     obtain ⟨l_18, e_l_18, hp⟩ := bind_inv hp
     refine SL.eff (e_app (i := 5) (l := l_14) (sz := 1) (E := 5) (R := R8) (by_ := 1) (m := x_17) tk rfl (by kernel_rfl) rfl (.r (by kernel_rfl)) e_l_18 (by kernel_rfl)) rfl (by kernel_rfl) ?_
     refine SL.sim tk 1 [(3, vp 4 0), (11, vs 11), (55, vs 6), (56, vi .i64 (len x_13)), (57, vi .i64 x_15)] [] [] [] (by kernel_rfl) ?_
     refine SL.nilThen ?_
     refine SC.reg ?_
     refine SL.sim tk 2 [(3, vp 4 0), (11, vs 11), (55, vs 6), (56, vi .i64 (len x_13)), (57, vi .i64 (w64 (x_15 + 1)))] [] [] [] (by kernel_rfl) ?_
     refine SL.nilJ fun a w h => ?_
     exact ⟨n1, Nat.lt_succ_self _, l_18, w64 (x_15 + 1), next_inv hp hs1, h.at (js := [.g 0, .g 1, .g 2, .g 3, .g 4, .g 11, .g 6]) (by kernel_rfl)⟩
   refine SC.exitJ rfl fun a w h => ?_
   have ho := done_inv hp hs1
   replace hp := ho1
   try rw [ho] at hp
   exact ⟨l_14, hp, h.at (js := [.g 0, .g 1, .g 2, .g 3, .g 4, .g 5]) (by kernel_rfl)⟩
 rintro a w ⟨l_9, hp, h⟩
 refine h.go ?_
 refine SC.seq ?_
 refine SC.seq ?_
 refine SC.reg ?_
 refine SL.sim tk 4 [(3, vp 4 0), (11, vs 5), (71, vi .i64 (w64 (10 + (len l_9)))), (72, .g (C_api_Store s_1 (.s 0) (.s 1) (.s 2)))] [] [] [] (by kernel_rfl) ?_
 obtain ⟨x_10, e_x_10, hp⟩ := bind_inv hp
 refine SL.eff (e_c Tryd.call40 (ok_flash_size F s_1 _ e_x_10) [.g 0, .g 1, .g 2] [.g (C_api_Store s_1 (.s 0) (.s 1) (.s 2))] (vi .i64 x_10) (by kernel_rfl) (.inl rfl)) rfl (by kernel_rfl) ?_
 refine SL.sim tk 6 [(3, vp 4 0), (11, vs 5), (79, vb ((decide ((w64 (10 + (len l_9))) > x_10)) || (decide (s_1.Count ≥ 4294967295))))] [] [] [] (by kernel_rfl) ?_
 refine SL.nilThen ?_
 refine SC.if' rfl hp (fun hp => ?_) (fun hp => ?_)
 · refine SC.r tk [(6, vn), (7, vi .i64 8)] [] [] [] (by kernel_rfl) ?_
   obtain rfl := some_inv' hp
   exact SC.re (js := [.g 0, .g 1, .g 2, .g 3, .n]) tk (by kernel_rfl)
 refine SC.skipThen ?_
 refine SC.r tk [(3, vp 4 0), (11, vs 5), (14, vi .i64 (w64 (1 - s_1.Bank)))] [] [] [] (by kernel_rfl) ?_
 refine SC.seq ?_
 refine SC.reg ?_
 refine SL.sim tk 9 [(84, .g [ci .i64 (w64 (1 - s_1.Bank)), cb true, ci .i64 0, nl]), (87, .g [ci .i64 (w64 (1 - s_1.Bank)), cb false, ci .i64 10, .s 5]), (88, vi .i64 (w64 (1 - s_1.Bank))), (91, vi .i64 (w64 (s_1.Count + 1)))] [] [] [] (by kernel_rfl) ?_
 obtain ⟨x_11, e_x_11, hp⟩ := bind_inv hp
 refine SL.eff (e_c Tryd.call45 (ok_flash_header F (w64 (s_1.Count + 1)) _ e_x_11) [] [vi .i64 (w64 (s_1.Count + 1))] (vs 6) (by kernel_rfl) (.inl rfl)) rfl (by kernel_rfl) ?_
 refine SL.norm (itsN := [.rd 1 R8 s_1.Flash.Banks.1, .rd 1 R8 s_1.Flash.Banks.2, .rd 2 R_T_api_Item s_1.Items, .gone, .blk 40 (C_api_Store s_1 (.s 0) (.s 1) (.s 2)), .own 1 5 R8 l_9, .rd 1 R8 x_11]) (by kernel_rfl) ?_
 refine SL.sim tk 1 [(84, .g [ci .i64 (w64 (1 - s_1.Bank)), cb true, ci .i64 0, nl]), (87, .g [ci .i64 (w64 (1 - s_1.Bank)), cb false, ci .i64 10, .s 5]), (93, .g [ci .i64 (w64 (1 - s_1.Bank)), cb false, ci .i64 0, .s 6])] [] [] [] (by kernel_rfl) ?_
 refine SL.pre (pre_frz (i := 5) (sz := 1) (E := 5) (R := R8) (l := l_9) (by kernel_rfl)) ?_
 refine SL.eff (e_lit (sz := 4) (E := 27) (R := R_T_api_Write) (by_ := 48) tk [[ci .i64 (w64 (1 - s_1.Bank)), cb true, ci .i64 0, nl], [ci .i64 (w64 (1 - s_1.Bank)), cb false, ci .i64 10, .s 5], [ci .i64 (w64 (1 - s_1.Bank)), cb false, ci .i64 0, .s 6]] [(T_api_Write.mk (w64 (1 - s_1.Bank)) true 0 []), (T_api_Write.mk (w64 (1 - s_1.Bank)) false 10 l_9), (T_api_Write.mk (w64 (1 - s_1.Bank)) false 0 x_11)] (by kernel_rfl) ⟨(clo_T_api_Write (x := (T_api_Write.mk (w64 (1 - s_1.Bank)) true 0 [])) (Clo.nl _ rfl)), ⟨(clo_T_api_Write (x := (T_api_Write.mk (w64 (1 - s_1.Bank)) false 10 l_9)) (Clo.sl (by kernel_rfl))), ⟨(clo_T_api_Write (x := (T_api_Write.mk (w64 (1 - s_1.Bank)) false 0 x_11)) (Clo.sl (by kernel_rfl))), trivial⟩⟩⟩ rfl (by kernel_rfl) (by kernel_rfl)) rfl (by kernel_rfl) ?_
 refine SL.sim tk 2 [(6, vs 7), (7, vi .i64 0)] [] [] [] (by kernel_rfl) ?_
 refine SL.nilThen ?_
 obtain rfl := some_inv' hp
 exact SC.re (js := [.g 0, .g 1, .g 2, .g 3, .z 7]) tk (by kernel_rfl)

theorem ok_flash_kept (F : Nat) (s_1 : T_api_Store) (r : T_api_Store) (hp : flash_kept F s_1 = some r) : Spec Tryd.prog 49 [.g (C_api_Store s_1 (.s 0) (.s 1) (.s 2))] [.rd 1 R8 s_1.Flash.Banks.1, .rd 1 R8 s_1.Flash.Banks.2, .rd 2 R_T_api_Item s_1.Items] (.g [.s 3, .s 4, ci .i64 r.Bank, ci .i64 r.Count, ci .i64 r.End, .s 5]) [.gone, .gone, .gone, .rd 1 R8 r.Flash.Banks.1, .rd 1 R8 r.Flash.Banks.2, .rd 2 R_T_api_Item r.Items] := by
 refine Spec.enter Tryd.func49 rfl Tryd.ntmps49 rfl rfl fun fx => ?_
 refine SC.seq ?_
 refine SC.reg ?_
 refine SL.eff (e_box (E := 40) (C_api_Store s_1 (.s 0) (.s 1) (.s 2)) (by kernel_rfl)) rfl (by kernel_rfl) ?_
 refine SL.eff (e_alloc (E := 40) tk [nl, nl, ci .i64 0, ci .i64 0, ci .i64 0, nl] (by kernel_rfl)) rfl (by kernel_rfl) ?_
 refine SL.nilThen ?_
 refine SC.seq ?_
 refine SC.reg ?_
 refine SL.sim tk 2 [(1, vp 3 0), (2, vp 4 0), (7, .g [.s 0, .s 1])] [] [] [] (by kernel_rfl) ?_
 obtain ⟨x_2, e_x_2, hp⟩ := bind_inv hp
 refine SL.eff (e_c Tryd.call33 (ok_flash_copied F s_1.Flash _ e_x_2) [.g 0, .g 1] [.g [.s 0, .s 1]] (.g [.s 5, .s 6]) (by kernel_rfl) (.inl rfl)) rfl (by kernel_rfl) ?_
 refine SL.norm (itsN := [.rd 1 R8 s_1.Flash.Banks.1, .rd 1 R8 s_1.Flash.Banks.2, .rd 2 R_T_api_Item s_1.Items, .blk 40 (C_api_Store s_1 (.s 0) (.s 1) (.s 2)), .blk 40 [nl, nl, ci .i64 0, ci .i64 0, ci .i64 0, nl], .own 1 5 R8 x_2.Banks.1, .own 1 5 R8 x_2.Banks.2]) (by kernel_rfl) ?_
 refine SL.sim tk 2 [(1, vp 3 0), (2, vp 4 0)] [(3, 40, (C_api_Store ({ s_1 with Flash := x_2 }) (.s 5) (.s 6) (.s 2)))] [] [] (by kernel_rfl) ?_
 refine SL.nilThen ?_
 refine SC.r tk [(1, vp 3 0), (2, vp 4 0), (3, vn)] [] [] [] (by kernel_rfl) ?_
 refine SC.cut (fun a w => ∃ (l_3 : (List T_api_Item)), flash_kept_j1 F s_1 x_2 l_3 = some r ∧ A 31 3 fx [(1, vp 3 0), (2, vp 6 0), (3, vs 7)] [.gone, .gone, .rd 2 R_T_api_Item s_1.Items, .blk 40 (C_api_Store ({ s_1 with Flash := x_2 }) (.s 4) (.s 5) (.s 2)), .own 1 5 R8 x_2.Banks.1, .own 1 5 R8 x_2.Banks.2, .blk 40 [nl, nl, ci .i64 0, ci .i64 0, ci .i64 0, nl], .own 2 71 R_T_api_Item l_3] a w) ?_ ?_
 · refine SC.r tk [(1, vp 3 0), (2, vp 4 0), (3, vn), (11, vs 2), (12, vi .i64 (len s_1.Items)), (13, vi .i64 0)] [] [] [] (by kernel_rfl) ?_
   refine SC.block ?_
   obtain ⟨o1, hi1, ho1⟩ := bind_inv hp
   clear hp
   refine SC.loop (fun n a w => ∃ (l_4 : (List T_api_Item)) (x_5 : Int), iter (fun s => flash_kept_l1 F s_1 s.1 s.2) n (l_4, x_5) = some o1 ∧ A 31 3 fx [(1, vp 3 0), (2, vp 6 0), (3, vs 7), (11, vs 2), (12, vi .i64 (len s_1.Items)), (13, vi .i64 x_5)] [.gone, .gone, .rd 2 R_T_api_Item s_1.Items, .blk 40 (C_api_Store ({ s_1 with Flash := x_2 }) (.s 4) (.s 5) (.s 2)), .own 1 5 R8 x_2.Banks.1, .own 1 5 R8 x_2.Banks.2, .blk 40 [nl, nl, ci .i64 0, ci .i64 0, ci .i64 0, nl], .own 2 71 R_T_api_Item l_4] a w) F (fun a w h => ⟨[], 0, hi1, h.at (js := [.g 0, .g 1, .g 2, .g 3, .g 5, .g 6, .g 4, .n]) (by kernel_rfl)⟩) ?_
   rintro n1 a w ⟨l_4, x_5, hi1, h⟩
   obtain ⟨n1, q1, rfl, hp, hs1⟩ := iter_inv hi1
   replace hp : flash_kept_l1 F s_1 l_4 x_5 = some q1 := hp
   clear hi1
   refine h.go ?_
   refine SC.r tk [(1, vp 3 0), (2, vp 6 0), (3, vs 7), (11, vs 2), (12, vi .i64 (len s_1.Items)), (13, vi .i64 x_5), (14, vb (decide (x_5 < (len s_1.Items))))] [] [] [] (by kernel_rfl) ?_
   refine SC.seq ?_
   refine SC.if' rfl hp (fun hp => ?_) (fun hp => ?_)
   · refine SC.skipThen ?_
     refine SC.seq ?_
     refine SC.block ?_
     refine SC.seq ?_
     refine SC.reg ?_
     obtain ⟨x_6, e_x_6, hp⟩ := bind_inv hp
     refine SL.pre (pre_ix (i := 2) (iv := x_5) (sz := 2) (R := R_T_api_Item) (l := s_1.Items) (by kernel_rfl) rfl e_x_6) ?_
     refine SL.sim tk 2 [(1, vp 3 0), (2, vp 6 0), (3, vs 7), (11, vs 2), (12, vi .i64 (len s_1.Items)), (13, vi .i64 x_5), (16, .g [ci .u16 x_6.Key, .s 9])] [] [.el 8] [x_5] (by kernel_rfl) ?_
     refine SL.eff (e_alloc (E := 71) tk [ci .u16 0, nl] (by kernel_rfl)) rfl (by kernel_rfl) ?_
     refine SL.sim tk 1 [(1, vp 3 0), (2, vp 6 0), (3, vs 7), (5, vp 10 0), (11, vs 2), (12, vi .i64 (len s_1.Items)), (13, vi .i64 x_5)] [(10, 71, [ci .u16 x_6.Key, .s 9])] [] [] (by kernel_rfl) ?_
     refine SL.nilThen ?_
     refine SC.draw MO (bm 11 1916) (by kernel_rfl) fun kap_7 D_8 => ?_
     refine SD.takes tk D_8 [] kn0 [0, 1, 2, 3, 4] [] [] (bm 11 31) [(1, vp 3 0), (2, vp 6 0), (3, vs 7), (11, vs 2), (12, vi .i64 (len s_1.Items)), (13, vi .i64 x_5), (17, vs 7), (19, vi .u16 x_6.Key), (21, vs 9)] rfl (by kernel_rfl) (by kernel_rfl) (by kernel_rfl) ?_
     refine SD.all1 (i := 5) (by kernel_rfl) ?_
     refine SW.eff D_8 (i := 5) (bs' := (bm 11 63)) rfl (.inl rfl) rfl (e_lit (sz := 1) (E := 22) (R := (RSl 1 R8)) (by_ := 24) tk [[.s 9]] [x_6.Value] (by kernel_rfl) ⟨(Clo.sl (by kernel_rfl)), trivial⟩ rfl (by kernel_rfl) (by kernel_rfl)) (by kernel_rfl) rfl (by kernel_rfl) ?_
     refine SD.norm (itsN := [.gone, .gone, .rd 2 R_T_api_Item s_1.Items, .blk 40 (C_api_Store ({ s_1 with Flash := x_2 }) (.s 4) (.s 5) (.s 2)), .own 1 5 R8 x_2.Banks.1, .own 1 5 R8 x_2.Banks.2, .blk 40 [nl, nl, ci .i64 0, ci .i64 0, ci .i64 0, nl], .own 2 71 R_T_api_Item l_4, .elt (some (2, x_5)) false [ci .u16 x_6.Key, .s 9], .rd 1 R8 x_6.Value, .blk 71 [ci .u16 x_6.Key, .s 9], .own 1 22 (RSl 1 R8) [x_6.Value]]) (by kernel_rfl) ?_
     obtain ⟨x_9, e_x_9, hp⟩ := bind_inv hp
     refine SD.all1 (i := 6) (by kernel_rfl) ?_
     refine SW.eff D_8 (i := 6) (bs' := (bm 11 127)) rfl (.inl rfl) rfl (e_c Tryd.call39 (ok_octets_Join F [x_6.Value] _ e_x_9) [.l 11] [vs 11] (vs 12) (by kernel_rfl) (.inr ⟨trivial, ⟨Fl.int, trivial⟩, trivial⟩)) (by kernel_rfl) rfl (by kernel_rfl) ?_
     refine SD.all1 (i := 7) (by kernel_rfl) ?_
     refine SW.eff D_8 (i := 7) (v := .g [ci .u16 x_6.Key, .s 12]) (bs' := (bm 11 255)) rfl (.inl rfl) rfl (e_val tk (by kernel_rfl)) (by kernel_rfl) rfl (by kernel_rfl) ?_
     refine SD.norm (itsN := [.gone, .gone, .rd 2 R_T_api_Item s_1.Items, .blk 40 (C_api_Store ({ s_1 with Flash := x_2 }) (.s 4) (.s 5) (.s 2)), .own 1 5 R8 x_2.Banks.1, .own 1 5 R8 x_2.Banks.2, .blk 40 [nl, nl, ci .i64 0, ci .i64 0, ci .i64 0, nl], .own 2 71 R_T_api_Item l_4, .elt (some (2, x_5)) false [ci .u16 x_6.Key, .s 9], .rd 1 R8 x_6.Value, .blk 71 [ci .u16 x_6.Key, .s 9], .own 1 22 (RSl 1 R8) [x_6.Value], .own 1 5 R8 x_9]) (by kernel_rfl) ?_
     refine SD.pre (pre_frz (i := 12) (sz := 1) (E := 5) (R := R8) (l := x_9) (by kernel_rfl)) ?_
     refine SD.all1 (i := 8) (by kernel_rfl) ?_
     refine SW.eff D_8 (i := 8) (bs' := (bm 11 511)) rfl (.inl rfl) rfl (e_lit (sz := 2) (E := 71) (R := R_T_api_Item) (by_ := 32) tk [[ci .u16 x_6.Key, .s 12]] [{ x_6 with Value := x_9 }] (by kernel_rfl) ⟨(clo_T_api_Item (x := { x_6 with Value := x_9 }) (Clo.sl (by kernel_rfl))), trivial⟩ rfl (by kernel_rfl) (by kernel_rfl)) (by kernel_rfl) rfl (by kernel_rfl) ?_
     obtain ⟨l_10, e_l_10, hp⟩ := bind_inv hp
     refine SD.all1 (i := 9) (by kernel_rfl) ?_
     refine SW.eff D_8 (i := 9) (bs' := (bm 11 1023)) rfl (.inl rfl) rfl (e_app (i := 7) (l := l_4) (sz := 2) (E := 71) (R := R_T_api_Item) (by_ := 32) (m := [{ x_6 with Value := x_9 }]) tk rfl (by kernel_rfl) rfl (.o 71 (by kernel_rfl)) e_l_10 (by kernel_rfl)) (by kernel_rfl) rfl (by kernel_rfl) ?_
     refine SD.norm (itsN := [.gone, .gone, .rd 2 R_T_api_Item s_1.Items, .blk 40 (C_api_Store ({ s_1 with Flash := x_2 }) (.s 4) (.s 5) (.s 2)), .own 1 5 R8 x_2.Banks.1, .own 1 5 R8 x_2.Banks.2, .blk 40 [nl, nl, ci .i64 0, ci .i64 0, ci .i64 0, nl], .gone, .elt (some (2, x_5)) false [ci .u16 x_6.Key, .s 9], .rd 1 R8 x_6.Value, .blk 71 [ci .u16 x_6.Key, .s 9], .own 1 22 (RSl 1 R8) [x_6.Value], .rd 1 R8 x_9, .own 2 71 R_T_api_Item [{ x_6 with Value := x_9 }], .own 2 71 R_T_api_Item l_10]) (by kernel_rfl) ?_
     refine SD.takes tk D_8 [] kn0 [10] [] [] (bm 11 2047) [(1, vp 3 0), (2, vp 6 0), (3, vs 14), (11, vs 2), (12, vi .i64 (len s_1.Items)), (13, vi .i64 x_5)] rfl (by kernel_rfl) (by kernel_rfl) (by kernel_rfl) ?_
     refine SD.doneThen (by kernel_rfl) ?_
     refine SC.reg ?_
     refine SL.sim tk 2 [(1, vp 3 0), (2, vp 6 0), (3, vs 14), (11, vs 2), (12, vi .i64 (len s_1.Items)), (13, vi .i64 (w64 (x_5 + 1)))] [] [] [] (by kernel_rfl) ?_
     refine SL.nilJ fun a w h => ?_
     exact ⟨n1, Nat.lt_succ_self _, l_10, w64 (x_5 + 1), next_inv hp hs1, h.at (js := [.g 0, .g 1, .g 2, .g 3, .g 4, .g 5, .g 6, .g 14]) (by kernel_rfl)⟩
   refine SC.exitJ rfl fun a w h => ?_
   have ho := done_inv hp hs1
   replace hp := ho1
   try rw [ho] at hp
   exact ⟨l_4, hp, h.at (js := [.g 0, .g 1, .g 2, .g 3, .g 4, .g 5, .g 6, .g 7]) (by kernel_rfl)⟩
 rintro a w ⟨l_3, hp, h⟩
 refine h.go ?_
 refine SC.r tk [(1, vp 3 0), (2, vp 6 0)] [(3, 40, [.s 4, .s 5, ci .i64 s_1.Bank, ci .i64 s_1.Count, ci .i64 s_1.End, .s 7])] [] [] (by kernel_rfl) ?_
 refine SC.r tk [(2, vp 6 0)] [(6, 40, [.s 4, .s 5, ci .i64 s_1.Bank, ci .i64 s_1.Count, ci .i64 s_1.End, .s 7])] [] [] (by kernel_rfl) ?_
 obtain rfl := some_inv' hp
 exact SC.re (js := [.g 0, .g 1, .g 2, .z 4, .z 5, .z 7]) tk (by kernel_rfl)
end V
end Go.Proofs.YtojcklkcjnnkaaaDoor
